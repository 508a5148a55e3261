/- What the law's own same comes to; What the specification's weighing of values comes to; What the specification's test of smallness comes to; What the law's test of smallness comes to; The specification's wide numbers: their value, and what times, plus, minus, order and sum come to; The specification's product of wide numbers; The specification's sums of wide numbers; The specification's sum of signed wide numbers, and its comparison of fractions; The program's wide numbers and its comparison of fractions; Numbers and strings as text, by both texts; Values as text, by both texts; The program's . Conditions: each part's own, as it says. -/
import Derived.Test.YtenpjlghikohmaaGreatDoorGC
import Derived.Test.YtenpjlghikohmaaGreatDoorMA
import Derived.Test.YtenpjlghikohmaaGreatDoorGA
import Derived.Test.YtenpjlghikohmaaGreatDoorGB
import Derived.Shelf.Spec.BitsCarry
import Derived.Lib.ReplaceLaws
import Derived.Lib.Join
set_option linter.unusedVariables false
set_option linter.unusedSimpArgs false
namespace Go.Proofs.YtenpjlghikohmaaGreatDoor
set_option maxRecDepth 4000
open Go Go.Abs Go.Val Go.Proofs.Tryz
attribute [local irreducible] go SGo HasBody Ev
theorem vind {P : V → Prop} (h : ∀ (k n d : Int) (s : ByteArray) (l : List V), (∀ x ∈ l, P x) → P (.mk k n d s l)) (v : V) : P v :=
 V.rec (motive_1 := P) (motive_2 := fun l => ∀ x ∈ l, P x) (fun k n d s l ih => h k n d s l ih) (fun x hx => by simp at hx)
  (fun a r ha hr x hx => by
   rcases List.mem_cons.1 hx with e | e
   ·rw [e]; exact ha
   ·exact hr x e) v
def weighL (f : V → Int → Int) : List V → Int → Int
 | [], left => left
 | x :: r, left => bif decide (left ≥ 0) then weighL f r (f x left) else left
def weighF : Nat → V → Int → Int
 | 0, _, _ => -1
 | m + 1, v, left => weighL (weighF m) v.l (left - 1 - (v.s.size : Int).tdiv 50)
theorem weighL_le (f : V → Int → Int) (h : ∀ x left, 0 ≤ left → f x left ≤ left) : ∀ (l : List V) (left : Int), weighL f l left ≤ left
 | [], left => Int.le_refl _
 | x :: r, left => by
  simp only [weighL]
  cases hd : decide (left ≥ 0) with
  | false => exact Int.le_refl _
  | true =>
   have h0 : left ≥ 0 := of_decide_eq_true hd
   exact Int.le_trans (weighL_le f h r _) (h x left h0)
theorem weighF_le : ∀ (m : Nat) (v : V) (left : Int), 0 ≤ left → weighF m v left ≤ left
 | 0, v, left, h => by simp only [weighF]; omega
 | m + 1, v, left, h => by
  simp only [weighF]
  have h1 := weighL_le (weighF m) (fun x l h => weighF_le m x l h) v.l (left - 1 - (v.s.size : Int).tdiv 50)
  have h2 := (tdiv_bnd (a := (v.s.size : Int)) (b := 50) (by omega)).1 (by omega)
  omega
theorem weighL_ge (f : V → Int → Int) : ∀ (l : List V), (∀ x ∈ l, ∀ left, 0 ≤ left → -300000000000000000 ≤ f x left) → ∀ (left : Int), -300000000000000000 ≤ left → -300000000000000000 ≤ weighL f l left
 | [], _, left, hl => hl
 | x :: r, h, left, hl => by
  simp only [weighL]
  cases hd : decide (left ≥ 0) with
  | false => exact hl
  | true =>
   have h0 : left ≥ 0 := of_decide_eq_true hd
   exact weighL_ge f r (fun y hy => h y (by simp [hy])) _ (h x (by simp) left h0)
theorem size_div {n : Nat} (h : n ≤ 9223372036854775807) : 0 ≤ (n : Int).tdiv 50 ∧ (n : Int).tdiv 50 ≤ 200000000000000000 := by
 rw [Int.tdiv_eq_ediv_of_nonneg (by omega)]
 omega
theorem weighF_ge : ∀ (m : Nat) (v : V) (left : Int), Fit (enc v) → 0 ≤ left → -300000000000000000 ≤ weighF m v left
 | 0, v, left, _, h => by simp only [weighF]; omega
 | m + 1, v, left, hf, h => by
  simp only [weighF]
  obtain ⟨-, -, -, hs, -, hk⟩ := fit_enc hf
  have h2 := size_div hs
  exact weighL_ge (weighF m) v.l (fun x hx left h => weighF_ge m x left (hk x hx) h) _ (by omega)
structure SW (f : V → Int → Int) (l : List V) (left0 : Int) where
 i : Nat
 left : Int
 hi : i ≤ l.length
 hl : -300000000000000000 ≤ left
 hu : left ≤ 1099511627776
 ok : weighL f l left0 = weighL f (l.drop i) left
theorem weigh_ev (m : Nat) : ∀ (v : V) (left : Int), m ≤ 1000 → 0 ≤ left → left ≤ 1099511627776 → Ev E 144 [enc v, .int left, .int (m : Int)] (.d (.int (weighF m v left))) := by
 induction m with
 | zero =>
  intro v left _ h0 hu
  refine Ev.fit fun hfit => ?_
  obtain ⟨-, -, -, hs, -, hk⟩ := fit_enc (hfit (enc v) (by simp))
  have hd := size_div hs
  refine ye3 func144 ntmps144 fun _ _ _=>?_
  repeat' (first | refine yz ?_ | refine yx ?_ | (refine yy ?_ ?_ <;> intro _) | exact zD | exact zL)
 | succ m ih =>
  intro v left hm h0 hu
  refine Ev.fit fun hfit => ?_
  obtain ⟨-, -, -, hs, hmax, hk⟩ := fit_enc (hfit (enc v) (by simp))
  have hd := size_div hs
  have hlen : (kids v).length = v.l.length := kids_len v
  have hm1 : decide (((m + 1 : Nat) : Int) < 1) = false := by simp; omega
  have hm2 : ((m + 1 : Nat) : Int) - 1 = (m : Int) := by omega
  simp only [weighF]
  refine ye3 func144 ntmps144 fun _ _ _=>?_
  repeat' (first | refine yz ?_ | refine yx ?_ | (refine yy ?_ ?_ <;> intro _) | exact zD | exact zL)
  refine go_loop_ (α := SW (weighF m) v.l (left - 1 - (v.s.size : Int).tdiv 50)) (fun p => ⟨[(3, .ptr 0 0), (1, .d (.int p.left)), (2, .d (.int ((m + 1 : Nat) : Int))), (7, .d (.int p.i))], [.var 56 (.w (.d (enc v)))]⟩) (fun p => v.l.length - p.i) ⟨0, _, by omega, by omega, by omega, rfl⟩ (zle 1) ?_
  rintro ⟨i, le, hi, hl, hu, ok⟩
  dsimp only
  rcases Nat.lt_or_ge i v.l.length with hlt | hge
  ·have hd1 : decide ((i : Int) < ((kids v).length : Int)) = true := by rw [hlen]; simpa using hlt
   have hx0 := List.getElem?_eq_getElem hlt
   generalize v.l[i] = x at hx0
   have hx : (kids v)[(i : Int).toNat]? = some (enc x) := kids_get (by rw [Int.toNat_natCast]; exact hx0)
   rw [ok, drop_at hx0]
   simp only [weighL]
   cases hge0 : decide (le ≥ 0) with
   | false =>
    repeat' (first | refine yz ?_ | refine yx ?_ | (refine yy ?_ ?_ <;> intro _) | exact zD | exact zL)
   | true =>
    have hle0 : 0 ≤ le := of_decide_eq_true hge0
    have hw := ih x le (by omega) hle0 hu
    have hg := weighF_ge m x le (hk x (List.mem_of_getElem? hx0)) hle0
    have hg2 := weighF_le m x le hle0
    rw [← hm2] at hw
    repeat' (first | refine yz ?_ | refine yi (enc x) hx ?_ | refine yp b144 hw ?_ | refine yx ?_ | (refine yy ?_ ?_ <;> intro _) | exact zD | exact zL)
    refine go_stop ?_
    refine ⟨⟨i + 1, weighF m x le, by omega, hg, by omega, by rw [ok, drop_at hx0]; simp only [weighL]; rw [hge0]; rfl⟩, by dsimp only; omega, (zle 1)⟩
  ·have hd1 : decide ((i : Int) < ((kids v).length : Int)) = false := by rw [hlen]; simp; omega
   have : v.l.drop i = [] := List.drop_eq_nil_of_le hge
   rw [ok, this]
   repeat' (first | refine yz ?_ | refine yx ?_ | (refine yy ?_ ?_ <;> intro _) | exact zD | exact zL)
def lightL : List (List V) → Int → Int
 | [], most => most
 | r :: q, most => bif decide (most ≥ 0) then lightL q (weighL (weighF 12) r (most - 1)) else most
def lightF (l : List (List V)) (most : Int) : Bool := decide (lightL l most ≥ 0)
theorem encR_get {l : List (List V)} {i : Nat} {r : List V} (h : l[i]? = some r) : (Val.encR l)[i]? = some (.sl (encL r)) := by
 unfold Val.encR
 rw [List.getElem?_map, h]
 rfl
theorem encR_len (l : List (List V)) : (Val.encR l).length = l.length := by simp [Val.encR]
structure SL (l : List (List V)) (most0 : Int) where
 i : Nat
 most : Int
 hi : i ≤ l.length
 hl : -300000000000000000 ≤ most
 hu : most ≤ 1099511627776
 ok : lightL l most0 = lightL (l.drop i) most
theorem light_ev (l : List (List V)) (most : Int) (h0 : 0 ≤ most) (hu0 : most ≤ 1099511627776) : Ev E 56 [.sl (Val.encR l), .int most] (.d (.bool (lightF l most))) := by
 refine Ev.fit fun hfit => ?_
 have hf := (hfit (.sl (Val.encR l)) (by simp)).sls
 have hlen : (Val.encR l).length = l.length := encR_len l
 have hrow : ∀ r ∈ l, Fit (.sl (encL r)) := fun r hr => hf.2 _ (by unfold Val.encR; exact List.mem_map_of_mem hr)
 generalize hres : lightF l most = res
 unfold lightF at hres
 refine ye2 func56 ntmps56 fun _ _ _=>?_
 repeat' (first | refine yz ?_ | refine yx ?_ | (refine yy ?_ ?_ <;> intro _) | exact zD | exact zL)
 refine go_loop_ (α := SL l most) (fun p => ⟨[(0, .d (.sl (Val.encR l))), (1, .d (.int p.most)), (5, .d (.int p.i))], []⟩) (fun p => l.length - p.i) ⟨0, most, by omega, by omega, by omega, rfl⟩ (zle 0) ?_
 rintro ⟨i, mo, hi, hl, hu, ok⟩
 dsimp only
 rcases Nat.lt_or_ge i l.length with hlt | hge
 ·have hd1 : decide ((i : Int) < ((Val.encR l).length : Int)) = true := by rw [hlen]; simpa using hlt
  have hx0 := List.getElem?_eq_getElem hlt
  generalize l[i] = r at hx0
  have hx : (Val.encR l)[(i : Int).toNat]? = some (.sl (encL r)) := encR_get (by rw [Int.toNat_natCast]; exact hx0)
  obtain ⟨hrl, hrk⟩ := fit_encL (hrow r (List.mem_of_getElem? hx0))
  have hlr : (encL r).length = r.length := encL_len r
  cases hge0 : decide (mo ≥ 0) with
  | false =>
   repeat' (first | refine yz ?_ | refine yx ?_ | (refine yy ?_ ?_ <;> intro _) | exact zD | exact zL)
   all_goals (refine congrArg D.bool ?_; rw [← hres, ok, drop_at hx0]; simp only [lightL, hge0, cond_false])
  | true =>
   have hmo : 0 ≤ mo := of_decide_eq_true hge0
   repeat' (first | refine yz ?_ | refine qI (.sl (encL r)) rfl (guardX_ok rfl) rfl rfl rfl rfl rfl rfl (by first | omega | decide) hx ?_ | refine yx ?_ | (refine yy ?_ ?_ <;> intro _) | exact zD | exact zL)
   refine go_loop_ (α := SW (weighF 12) r (mo - 1)) (fun p => ⟨[(0, .d (.sl (Val.encR l))), (1, .d (.int p.left)), (5, .d (.int i)), (6, .d (.int p.i))], []⟩) (fun p => r.length - p.i) ⟨0, mo - 1, by omega, by omega, by omega, rfl⟩ (zle 0) ?_
   rintro ⟨k, le, hk, hl2, hu2, ok2⟩
   dsimp only
   rcases Nat.lt_or_ge k r.length with hklt | hkge
   ·have hd2 : decide ((k : Int) < ((encL r).length : Int)) = true := by rw [hlr]; simpa using hklt
    have hy0 := List.getElem?_eq_getElem hklt
    generalize r[k] = v at hy0
    have hy : (encL r)[(k : Int).toNat]? = some (enc v) := encL_get (by rw [Int.toNat_natCast]; exact hy0)
    cases hle0 : decide (le ≥ 0) with
    | false =>
     repeat' (first | refine yz ?_ | refine qI (.sl (encL r)) rfl (guardX_ok rfl) rfl rfl rfl rfl rfl rfl (by first | omega | decide) hx ?_ | refine yx ?_ | (refine yy ?_ ?_ <;> intro _) | exact zD | exact zL)
     refine go_stop ?_
     refine ⟨⟨i + 1, le, by omega, hl2, hu2, ?_⟩, by dsimp only; omega, (zle 0)⟩
     rw [ok, drop_at hx0]
     simp only [lightL]
     rw [hge0, cond_true, ok2, drop_at hy0]
     simp only [weighL]
     rw [hle0, cond_false]
    | true =>
     have hle : 0 ≤ le := of_decide_eq_true hle0
     have hw := weigh_ev 12 v le (by omega) hle hu2
     have hg := weighF_ge 12 v le (hrk v (List.mem_of_getElem? hy0)) hle
     have hg2 := weighF_le 12 v le hle
     repeat' (first | refine yz ?_ | refine qI (.sl (encL r)) rfl (guardX_ok rfl) rfl rfl rfl rfl rfl rfl (by first | omega | decide) hx ?_ | refine yi (enc v) hy ?_ | refine yp b144 hw ?_ | refine yx ?_ | (refine yy ?_ ?_ <;> intro _) | exact zD | exact zL)
     refine go_stop ?_
     refine ⟨⟨k + 1, weighF 12 v le, by omega, hg, by omega, by rw [ok2, drop_at hy0]; simp only [weighL]; rw [hle0]; rfl⟩, by dsimp only; omega, (zle 0)⟩
   ·have hd2 : decide ((k : Int) < ((encL r).length : Int)) = false := by rw [hlr]; simp; omega
    have hnil : r.drop k = [] := List.drop_eq_nil_of_le hkge
    repeat' (first | refine yz ?_ | refine qI (.sl (encL r)) rfl (guardX_ok rfl) rfl rfl rfl rfl rfl rfl (by first | omega | decide) hx ?_ | refine yx ?_ | (refine yy ?_ ?_ <;> intro _) | exact zD | exact zL)
    refine go_stop ?_
    refine ⟨⟨i + 1, le, by omega, hl2, hu2, ?_⟩, by dsimp only; omega, (zle 0)⟩
    rw [ok, drop_at hx0]
    simp only [lightL]
    rw [hge0, cond_true, ok2, hnil]
    rfl
 ·have hd1 : decide ((i : Int) < ((Val.encR l).length : Int)) = false := by rw [hlen]; simp; omega
  have : l.drop i = [] := List.drop_eq_nil_of_le hge
  repeat' (first | refine yz ?_ | refine yx ?_ | (refine yy ?_ ?_ <;> intro _) | exact zD | exact zL)
  all_goals (refine congrArg D.bool ?_; rw [← hres, ok, this]; rfl)
def wv : List Int → Int
 | [] => 0
 | d :: r => d + 1000 * wv r
def wok (l : List Int) : Prop := ∀ d ∈ l, 0 ≤ d ∧ d ≤ 999
def encI (l : List Int) : List D := l.map fun n => .int n
theorem encI_get {l : List Int} {i : Nat} {x : Int} (h : l[i]? = some x) : (encI l)[i]? = some (.int x) := by
 unfold encI
 rw [List.getElem?_map, h]
 rfl
theorem encI_len (l : List Int) : (encI l).length = l.length := by simp [encI]
def pw : Nat → Int
 | 0 => 1
 | k + 1 => 1000 * pw k
theorem pw_pos : ∀ k, 1 ≤ pw k
 | 0 => Int.le_refl _
 | k + 1 => by have := pw_pos k; simp only [pw]; omega
theorem pw_add (m : Nat) : ∀ k, pw (m + k) = pw m * pw k
 | 0 => by simp [pw]
 | k + 1 => by
  rw [← Nat.add_assoc]
  simp only [pw]
  rw [pw_add m k, Int.mul_left_comm]
theorem pw_bound {k m : Nat} {c : Int} (hc : 1 ≤ c) (h : c * pw k ≤ pw m) : k ≤ m := by
 rcases Nat.lt_or_ge m k with hlt | hge
 ·exfalso
  obtain ⟨j, rfl⟩ : ∃ j, k = (m + 1) + j := ⟨k - (m + 1), by omega⟩
  have h1 := pw_pos m
  have h2 := pw_pos j
  have h3 : pw (m + 1) ≤ pw (m + 1) * pw j := by
   have := Int.mul_le_mul_of_nonneg_left h2 (show 0 ≤ pw (m + 1) by have := pw_pos (m + 1); omega)
   rwa [Int.mul_one] at this
  rw [pw_add] at h
  have h4 : pw (m + 1) * pw j ≤ c * (pw (m + 1) * pw j) := by
   have := Int.mul_le_mul_of_nonneg_right hc (show 0 ≤ pw (m + 1) * pw j by have := pw_pos (m + 1); omega)
   rwa [Int.one_mul] at this
  simp only [pw] at h3 h4 h
  omega
 ·exact hge
theorem wv_set : ∀ (l : List Int) (k : Nat) (x y : Int), l[k]? = some x → wv (l.set k y) = wv l + pw k * (y - x)
 | [], k, x, y, h => by simp at h
 | d :: r, 0, x, y, h => by simp at h; subst h; simp only [List.set_cons_zero, wv, pw]; omega
 | d :: r, k + 1, x, y, h => by
  have ih := wv_set r k x y (by simpa using h)
  simp only [List.set_cons_succ, wv, ih, pw]
  rw [Int.mul_add, ← Int.mul_assoc]
  omega
theorem wv_nonneg : ∀ (l : List Int), wok l → 0 ≤ wv l
 | [], _ => Int.le_refl _
 | d :: r, h => by
  have h1 := (h d (by simp)).1
  have h2 := wv_nonneg r fun x hx => h x (by simp [hx])
  simp only [wv]
  omega
theorem wok_set {l : List Int} (h : wok l) (k : Nat) (y : Int) (hy : 0 ≤ y ∧ y ≤ 999) : wok (l.set k y) := fun d hd => by
 rcases List.mem_or_eq_of_mem_set hd with h1 | h1
 ·exact h d h1
 ·rw [h1]; exact hy
def sgn (n : Int) : Int := if n < 0 then -1 else if n > 0 then 1 else 0
theorem rsign_ev (n : Int) : Ev E 273 [.int n] (.d (.int (sgn n))) := by
 refine ye1 func273 ntmps273 fun _ _ _=>?_
 repeat' (first | refine yz ?_ | (refine qV rfl ?_ ?_ <;> intro _))
 all_goals (refine congrArg D.int ?_; simp only [decide_eq_true_eq, decide_eq_false_iff_not] at *; unfold sgn; split <;> (try split) <;> omega)
structure TO (a0 b : Int) where
 i : Nat
 a : Int
 out : List Int
 ha : 0 ≤ a
 hb : a * pw i ≤ 1000000000000000
 ok : wok out
 hl : out.length = 14
 hv : wv out + pw i * (a * b) = a0 * b
structure TI (a0 b d a' : Int) (i : Nat) where
 k : Nat
 c : Int
 carry : Int
 out : List Int
 hk : k ≤ 11
 hc : 0 ≤ c
 hcb : ∃ j, k = i + j ∧ c * pw j ≤ 1000000000000000
 hca : 0 ≤ carry ∧ carry ≤ 999
 ok : wok out
 hl : out.length = 14
 hv : wv out + pw k * (d * c + carry) + pw (i + 1) * (a' * b) = a0 * b
theorem get14 {out : List Int} (hl : out.length = 14) {k : Nat} (hk : k < 14) : ∃ x, out[k]? = some x := ⟨out[k], List.getElem?_eq_getElem (by omega)⟩
theorem encI_set (l : List Int) (k : Nat) (y : Int) : (encI l).set k (.int y) = encI (l.set k y) := by simp [encI, List.map_set]
theorem ti_step {out : List Int} {k i : Nat} {x d c carry a' b T : Int} (hx : out[k]? = some x) (h0 : 0 ≤ carry + x + d * (c % 1000)) (hc : 0 ≤ c)
  (hv : wv out + pw k * (d * c + carry) + pw (i + 1) * (a' * b) = T) :
  wv (out.set k ((carry + x + d * (c % 1000)) % 1000)) + pw (k + 1) * (d * (c / 1000) + (carry + x + d * (c % 1000)) / 1000) + pw (i + 1) * (a' * b) = T := by
 rw [wv_set out k x _ hx, ← hv]
 have e1 : c = c % 1000 + 1000 * (c / 1000) := by omega
 have e2 : carry + x + d * (c % 1000) = (carry + x + d * (c % 1000)) % 1000 + 1000 * ((carry + x + d * (c % 1000)) / 1000) := by omega
 generalize hq : (carry + x + d * (c % 1000)) / 1000 = q at *
 generalize hr : (carry + x + d * (c % 1000)) % 1000 = r at *
 have e3 : d * c = d * (c % 1000) + 1000 * (d * (c / 1000)) := by
  rw [← Int.mul_left_comm, ← Int.mul_add, ← e1]
 have e4 : pw (k + 1) * (d * (c / 1000) + q) = pw k * (1000 * (d * (c / 1000)) + 1000 * q) := by
  simp only [pw]
  rw [Int.mul_comm 1000 (pw k), Int.mul_assoc, Int.mul_add 1000]
 have e5 : pw k * (r - x) + pw k * (1000 * (d * (c / 1000)) + 1000 * q) = pw k * (d * c + carry) := by
  rw [← Int.mul_add]
  congr 1
  omega
 rw [e4]
 omega
theorem pw5 : pw 5 = 1000000000000000 := by decide
def wdig : Nat → Int → List Int
 | 0, _ => []
 | k + 1, n => n % 1000 :: wdig k (n / 1000)
theorem wdig_wv : ∀ (l : List Int), wok l → wdig l.length (wv l) = l
 | [], _ => rfl
 | d :: r, h => by
  have hd := h d (by simp)
  simp only [List.length_cons, wdig, wv]
  rw [show (d + 1000 * wv r) % 1000 = d from by omega, show (d + 1000 * wv r) / 1000 = wv r from by omega, wdig_wv r fun x hx => h x (by simp [hx])]
theorem wdig_of {l : List Int} {n : Int} (h : wok l) (hl : l.length = 14) (hv : wv l = n) : l = wdig 14 n := by
 rw [← hv, ← hl, wdig_wv l h]
theorem wdig_len : ∀ (k : Nat) (n : Int), (wdig k n).length = k
 | 0, _ => rfl
 | k + 1, n => by simp [wdig, wdig_len k]
theorem wdig_ok : ∀ (k : Nat) (n : Int), wok (wdig k n)
 | 0, _ => by intro d hd; simp [wdig] at hd
 | k + 1, n => by
  intro d hd
  simp only [wdig, List.mem_cons] at hd
  rcases hd with h | h
  ·subst h; omega
  ·exact wdig_ok k _ d h
theorem wv_wdig : ∀ (k : Nat) (n : Int), 0 ≤ n → n < pw k → wv (wdig k n) = n
 | 0, n, h0, h1 => by simp only [pw] at h1; simp only [wdig, wv]; omega
 | k + 1, n, h0, h1 => by
  simp only [pw] at h1
  simp only [wdig, wv]
  rw [wv_wdig k (n / 1000) (by omega) (by omega)]
  omega
theorem ti_bound {a0 b d c carry a' : Int} {k i : Nat} {out : List Int} (ha0 : 0 ≤ a0) (ha1 : a0 ≤ 1000000000000000) (hb0 : 0 ≤ b) (hb1 : b ≤ 1000000000000000) (ok : wok out) (hd : 0 ≤ d) (hc : 0 ≤ c) (hca : carry > 0) (ha' : 0 ≤ a')
  (hv : wv out + pw k * (d * c + carry) + pw (i + 1) * (a' * b) = a0 * b) : k ≤ 10 := by
 have h1 := wv_nonneg out ok
 have h2 : 0 ≤ pw (i + 1) * (a' * b) := Int.mul_nonneg (by have := pw_pos (i + 1); omega) (Int.mul_nonneg ha' hb0)
 have h3 : a0 * b ≤ 1000000000000000 * 1000000000000000 := Int.mul_le_mul ha1 hb1 hb0 (by omega)
 have h4 : 1 ≤ d * c + carry := by have := Int.mul_nonneg hd hc; omega
 refine pw_bound h4 ?_
 rw [Int.mul_comm, show pw 10 = 1000000000000000 * 1000000000000000 from by decide]
 omega
theorem own_set (l : List Int) (k : Nat) (x y : Int) : (encI l).set ((k : Int)).toNat (subD (.int x) 0 (.int y)) = encI (l.set k y) := by
 rw [Int.toNat_natCast]
 exact encI_set l k y
theorem ti_next {a0 b d a' : Int} {i k j : Nat} {c carry x : Int} {out : List Int} (hk : k ≤ 10) (hj : k = i + j) (hcb : c * pw j ≤ 1000000000000000) (hc : 0 ≤ c) (hca : 0 ≤ carry ∧ carry ≤ 999) (ok : wok out) (hl : out.length = 14) (hx : out[k]? = some x) (hxr : 0 ≤ x ∧ x ≤ 999)
  (hp : 0 ≤ d * c.tmod 1000 ∧ d * c.tmod 1000 ≤ 998001) (hv : wv out + pw k * (d * c + carry) + pw (i + 1) * (a' * b) = a0 * b) :
  ∃ y : TI a0 b d a' i, y.k = k + 1 ∧ y.c = c.tdiv 1000 ∧ y.carry = (carry + x + d * c.tmod 1000).tdiv 1000 ∧ y.out = out.set k ((carry + x + d * c.tmod 1000).tmod 1000) := by
 have s1 : c.tmod 1000 = c % 1000 := Int.tmod_eq_emod_of_nonneg hc
 have s2 : c.tdiv 1000 = c / 1000 := Int.tdiv_eq_ediv_of_nonneg hc
 have t0 : 0 ≤ carry + x + d * c.tmod 1000 := by omega
 have s3 : (carry + x + d * c.tmod 1000).tmod 1000 = (carry + x + d * c.tmod 1000) % 1000 := Int.tmod_eq_emod_of_nonneg t0
 have s4 : (carry + x + d * c.tmod 1000).tdiv 1000 = (carry + x + d * c.tmod 1000) / 1000 := Int.tdiv_eq_ediv_of_nonneg t0
 refine ⟨⟨k + 1, c.tdiv 1000, (carry + x + d * c.tmod 1000).tdiv 1000, out.set k ((carry + x + d * c.tmod 1000).tmod 1000), by omega, by rw [s2]; omega, ⟨j + 1, by omega, ?_⟩, by rw [s4]; omega, wok_set ok k _ (by rw [s3]; omega), by simpa using hl, ?_⟩, rfl, rfl, rfl, rfl⟩
 ·rw [s2]
  simp only [pw]
  have h1 : c / 1000 * 1000 ≤ c := by omega
  have := Int.mul_le_mul_of_nonneg_right h1 (show 0 ≤ pw j by have := pw_pos j; omega)
  rw [Int.mul_assoc] at this
  omega
 ·rw [s3, s4, s1, s2]
  rw [s1] at t0
  exact ti_step hx t0 hc hv
theorem times_ev (a0 b : Int) (ha0 : 0 ≤ a0) (ha1 : a0 ≤ 1000000000000000) (hb0 : 0 ≤ b) (hb1 : b ≤ 1000000000000000) : Ev E 274 [.int a0, .int b] (.d (.sl (encI (wdig 14 (a0 * b))))) := by
 refine ye2 func274 ntmps274 fun _ _ _=>?_
 repeat' (refine yz ?_)
 refine go_loop_ (α := TO a0 b) (fun p => ⟨[(0, .d (.int p.a)), (1, .d (.int b)), (5, .own 0), (6, .d (.int p.i))], [.row 3 1 (encI p.out)]⟩) (fun p => p.a.toNat) ⟨0, a0, List.replicate 14 0, ha0, by simp only [pw]; omega, fun d hd => by rw [(List.mem_replicate.1 hd).2]; omega, by simp, by simp [pw, wv, List.replicate]⟩ (zle 1) ?_
 rintro ⟨i, a, out, ha, hb, ok, hl, hv⟩
 dsimp only
 by_cases hpos : a > 0
 ·have hd : decide (a > 0) = true := by simpa using hpos
  have hi5 : i ≤ 5 := pw_bound (show 1 ≤ a by omega) (by rw [pw5]; exact hb)
  have q1 : a.tmod 1000 = a % 1000 := Int.tmod_eq_emod_of_nonneg ha
  have q2 : a.tdiv 1000 = a / 1000 := Int.tdiv_eq_ediv_of_nonneg ha
  have ha2 : a ≤ 1000000000000000 := by
   have := Int.mul_le_mul_of_nonneg_left (pw_pos i) ha
   rw [Int.mul_one] at this
   omega
  have r1 : inR .i64 (a.tmod 1000) := by rw [q1]; simp only [inR]; omega
  have hinit : wv out + pw i * (a.tmod 1000 * b + 0) + pw (i + 1) * (a.tdiv 1000 * b) = a0 * b := by
   rw [← hv, q1, q2, Int.add_zero]
   have e : a * b = a % 1000 * b + 1000 * (a / 1000 * b) := by
    rw [← Int.mul_assoc, ← Int.add_mul, show a % 1000 + 1000 * (a / 1000) = a from by omega]
   rw [e, Int.mul_add]
   simp only [pw]
   rw [Int.mul_comm 1000 (pw i), Int.mul_assoc]
   omega
  repeat' (refine yz ?_)
  refine go_loop_ (α := TI a0 b (a.tmod 1000) (a.tdiv 1000) i) (fun p => ⟨[(0, .d (.int (a.tdiv 1000))), (1, .d (.int b)), (5, .own 0), (6, .d (.int i)), (7, .d (.int (a.tmod 1000))), (8, .d (.int p.c)), (9, .d (.int p.carry)), (10, .d (.int p.k))], [.row 3 1 (encI p.out)]⟩) (fun p => 20 - p.k) ⟨i, b, 0, out, by omega, hb0, ⟨0, rfl, by simp only [pw]; omega⟩, by omega, ok, hl, hinit⟩ (zle 1) ?_
  rintro ⟨k, c, carry, o2, hk, hc, ⟨j, hj, hcb⟩, hca, ok2, hl2, hv2⟩
  dsimp only
  have hd0 : 0 ≤ a.tmod 1000 ∧ a.tmod 1000 ≤ 999 := by rw [q1]; omega
  by_cases hcont : c > 0 ∨ carry > 0
  ·have hk10 : k ≤ 10 := by
    rcases hcont with h | h
    ·have : j ≤ 5 := pw_bound (show 1 ≤ c by omega) (by rw [pw5]; exact hcb)
     omega
    ·exact ti_bound ha0 ha1 hb0 hb1 ok2 hd0.1 hc h (by rw [q2]; omega) hv2
   obtain ⟨x, hx⟩ := get14 hl2 (show k < 14 by omega)
   have hx' : (encI o2)[((k : Int)).toNat]? = some (.int x) := encI_get (by rw [Int.toNat_natCast]; exact hx)
   have hxr := ok2 x (List.mem_of_getElem? hx)
   have hle : (encI o2).length = 14 := by rw [encI_len]; exact hl2
   have s1 : c.tmod 1000 = c % 1000 := Int.tmod_eq_emod_of_nonneg hc
   have s2 : c.tdiv 1000 = c / 1000 := Int.tdiv_eq_ediv_of_nonneg hc
   have hp : 0 ≤ a.tmod 1000 * c.tmod 1000 ∧ a.tmod 1000 * c.tmod 1000 ≤ 998001 := by
    have h1 : 0 ≤ c.tmod 1000 ∧ c.tmod 1000 ≤ 999 := by rw [s1]; omega
    refine ⟨Int.mul_nonneg hd0.1 h1.1, ?_⟩
    have := Int.mul_le_mul hd0.2 h1.2 h1.1 (by omega)
    omega
   have hc15 : c ≤ 1000000000000000 := by
    have := Int.mul_le_mul_of_nonneg_left (pw_pos j) hc
    rw [Int.mul_one] at this
    omega
   obtain ⟨y, e1, e2, e3, e4⟩ := ti_next hk10 hj hcb hc hca ok2 hl2 hx hxr hp hv2
   by_cases hc0 : c > 0
   ·have g1 : decide (c > 0) = true := by simpa using hc0
    repeat' (first | refine yz ?_ | refine qW (.int x) rfl rfl rfl rfl rfl rfl hx' rfl ?_ | refine qZ (.int x) rfl rfl rfl rfl rfl rfl hx' rfl rfl rfl ?_ | refine yx ?_)
    refine go_stop ?_
    refine ⟨y, by omega, ?_⟩
    rw [e1, e2, e3, e4, ← own_set o2 k x]
    exact (zle 1)
   ·have g1 : decide (c > 0) = false := by simpa using hc0
    have g2 : decide (carry > 0) = true := by simp; omega
    repeat' (first | refine yz ?_ | refine qW (.int x) rfl rfl rfl rfl rfl rfl hx' rfl ?_ | refine qZ (.int x) rfl rfl rfl rfl rfl rfl hx' rfl rfl rfl ?_ | refine yx ?_)
    refine go_stop ?_
    refine ⟨y, by omega, ?_⟩
    rw [e1, e2, e3, e4, ← own_set o2 k x]
    exact (zle 1)
  ·have g1 : decide (c > 0) = false := by simp; omega
   have g2 : decide (carry > 0) = false := by simp; omega
   have hc0 : c = 0 := by omega
   have hca0 : carry = 0 := by omega
   subst hc0 hca0
   repeat' (refine yz ?_)
   refine go_stop ?_
   refine ⟨⟨i + 1, a.tdiv 1000, o2, by rw [q2]; omega, ?_, ok2, hl2, ?_⟩, by dsimp only; omega, (zle 1)⟩
   ·rw [q2]
    simp only [pw]
    have h1 : a / 1000 * 1000 ≤ a := by omega
    have := Int.mul_le_mul_of_nonneg_right h1 (show 0 ≤ pw i by have := pw_pos i; omega)
    rw [Int.mul_assoc] at this
    omega
   ·rw [← hv2, Int.mul_zero, Int.add_zero, Int.mul_zero, Int.add_zero]
 ·have hd : decide (a > 0) = false := by simpa using hpos
  have ha' : a = 0 := by omega
  subst ha'
  rw [Int.zero_mul, Int.mul_zero, Int.add_zero] at hv
  rw [← wdig_of ok hl hv]
  repeat' (refine yz ?_)
  refine go_frz 0 rfl ?_
  repeat' (first | refine qL rfl rfl ?_ | exact zD)
structure SPM (x y : List Int) (s : Int) where
 k : Nat
 carry : Int
 out : List Int
 hk : k ≤ 14
 hca : carry = 0 ∨ carry = s
 ok : wok out
 hl : out.length = 14
 hz : ∀ j, k ≤ j → j < 14 → out[j]? = some 0
 hv : wv out + pw k * (carry + wv (x.drop k) + s * wv (y.drop k)) = wv x + s * wv y
theorem spm_next {x y : List Int} {s : Int} (p : SPM x y s) (hk : p.k < 14) {a b r q : Int} (ha : x[p.k]? = some a) (hb : y[p.k]? = some b) (he : p.carry + a + s * b = r + 1000 * q) (hr : 0 ≤ r ∧ r ≤ 999) (hq : q = 0 ∨ q = s) :
  ∃ p' : SPM x y s, p'.k = p.k + 1 ∧ p'.carry = q ∧ p'.out = p.out.set p.k r := by
 refine ⟨⟨p.k + 1, q, p.out.set p.k r, by omega, hq, wok_set p.ok _ _ hr, by simpa using p.hl, fun j h1 h2 => ?_, ?_⟩, rfl, rfl, rfl⟩
 ·rw [List.getElem?_set_ne (by omega)]
  exact p.hz j (by omega) h2
 ·rw [wv_set p.out p.k 0 r (p.hz p.k (Nat.le_refl _) hk), ← p.hv, drop_at ha, drop_at hb]
  simp only [wv, pw]
  have e1 : s * (b + 1000 * wv (List.drop (p.k + 1) y)) = s * b + 1000 * (s * wv (List.drop (p.k + 1) y)) := by rw [Int.mul_add, Int.mul_left_comm]
  have e2 : p.carry + (a + 1000 * wv (List.drop (p.k + 1) x)) + s * (b + 1000 * wv (List.drop (p.k + 1) y)) = r + 1000 * (q + wv (List.drop (p.k + 1) x) + s * wv (List.drop (p.k + 1) y)) := by
   rw [e1]
   omega
  rw [e2, Int.mul_add (pw p.k) r, ← Int.mul_assoc (pw p.k) 1000, Int.mul_comm (pw p.k) 1000, Int.sub_zero, Int.add_assoc]
theorem wv_bnd : ∀ (l : List Int), wok l → wv l < pw l.length
 | [], _ => by decide
 | d :: r, h => by
  have h1 := h d (by simp)
  have h2 := wv_bnd r fun x hx => h x (by simp [hx])
  simp only [wv, List.length_cons, pw]
  omega
theorem spm_end {x y : List Int} {s : Int} (p : SPM x y s) (hx : x.length = 14) (hy : y.length = 14) (hk : p.k = 14) (hs : s = 1 ∨ s = -1) (h0 : 0 ≤ wv x + s * wv y) (h1 : wv x + s * wv y < pw 14) : p.out = wdig 14 (wv x + s * wv y) := by
 have hb := wv_bnd p.out p.ok
 rw [p.hl] at hb
 have hv := p.hv
 rw [hk, List.drop_eq_nil_of_le (by omega), List.drop_eq_nil_of_le (by omega)] at hv
 simp only [wv, Int.mul_zero, Int.add_zero] at hv
 have hp : pw 14 = 1000000000000000000000000000000000000000000 := by decide
 rw [hp] at h1 hb hv
 have hn := wv_nonneg p.out p.ok
 refine wdig_of p.ok p.hl ?_
 rcases p.hca with h | h <;> rcases hs with h' | h' <;> rw [h] at hv <;> (try rw [h'] at hv h0 h1 ⊢) <;> omega
def spm0 (x y : List Int) (s : Int) : SPM x y s := ⟨0, 0, List.replicate 14 0, by omega, .inl rfl, fun d hd => by rw [(List.mem_replicate.1 hd).2]; omega, by simp, fun j _ h => by rw [List.getElem?_replicate, if_pos h], by
 have : wv (List.replicate 14 0) = 0 := by decide
 rw [this]
 simp [pw]⟩
theorem get_dig {x : List Int} (hx : wok x) (hl : x.length = 14) {k : Nat} (hk : k < 14) : ∃ a, x[k]? = some a ∧ (encI x)[((k : Int)).toNat]? = some (.int a) ∧ 0 ≤ a ∧ a ≤ 999 := by
 obtain ⟨a, ha⟩ := get14 hl hk
 exact ⟨a, ha, encI_get (by rw [Int.toNat_natCast]; exact ha), hx a (List.mem_of_getElem? ha)⟩
theorem plus_ev (x y : List Int) (hx : wok x) (hy : wok y) (lx : x.length = 14) (ly : y.length = 14) (h1 : wv x + wv y < pw 14) : Ev E 344 [.sl (encI x), .sl (encI y)] (.d (.sl (encI (wdig 14 (wv x + wv y))))) := by
 have zx := wv_nonneg x hx
 have zy := wv_nonneg y hy
 have hlx : (encI x).length = 14 := by rw [encI_len]; exact lx
 have hlxz : ((encI x).length : Int) = 14 := by rw [hlx]; rfl
 refine ye2 func344 ntmps344 fun _ _ _=>?_
 repeat' (first | refine yz ?_ | (refine qS rfl ⟨rfl, by (show 8 * (encI x).length ≤ 281474976710656; omega), by omega⟩ ?_))
 refine go_loop_ (α := SPM x y 1) (fun p => ⟨[(0, .d (.sl (encI x))), (1, .d (.sl (encI y))), (5, .own 0), (6, .d (.int p.carry)), (7, .d (.int p.k))], [.row 3 1 (encI p.out)]⟩) (fun p => 14 - p.k) (spm0 x y 1) (by rw [hlx]; exact (zle 1)) ?_
 intro p
 have hkk := p.hk
 rcases Nat.lt_or_ge p.k 14 with hlt | hge
 ·have hd : decide ((p.k : Int) < ((encI x).length : Int)) = true := by rw [hlx]; simp; omega
  obtain ⟨a, a1, a2, a3⟩ := get_dig hx lx hlt
  obtain ⟨b, b1, b2, b3⟩ := get_dig hy ly hlt
  have c2 : (encI p.out)[((p.k : Int)).toNat]? = some (.int 0) := encI_get (by rw [Int.toNat_natCast]; exact p.hz p.k (Nat.le_refl _) hlt)
  have hle : (encI p.out).length = 14 := by rw [encI_len]; exact p.hl
  have hca := p.hca
  have t0 : 0 ≤ p.carry + a + b := by omega
  obtain ⟨p', e1, e2, e3⟩ := spm_next p hlt a1 b1 (r := (p.carry + a + b).tmod 1000) (q := (p.carry + a + b).tdiv 1000) (by rw [Int.tmod_eq_emod_of_nonneg t0, Int.tdiv_eq_ediv_of_nonneg t0]; omega) (by rw [Int.tmod_eq_emod_of_nonneg t0]; omega) (by rw [Int.tdiv_eq_ediv_of_nonneg t0]; omega)
  repeat' (first | refine yz ?_ | refine yi (.int a) a2 ?_ | refine yi (.int b) b2 ?_ | refine qZ (.int 0) rfl rfl rfl rfl rfl rfl c2 rfl rfl rfl ?_)
  refine go_stop ?_
  refine ⟨p', by omega, ?_⟩
  rw [e1, e2, e3, ← own_set p.out p.k 0]
  exact (zle 1)
 ·have hd : decide ((p.k : Int) < ((encI x).length : Int)) = false := by rw [hlx]; simp; omega
  have hend := spm_end p lx ly (by omega) (.inl rfl) (by omega) (by omega)
  rw [Int.one_mul] at hend
  rw [← hend]
  repeat' (refine yz ?_)
  refine go_frz 0 rfl ?_
  repeat' (first | refine qL rfl rfl ?_ | exact zD)
theorem minus_ev (x y : List Int) (hx : wok x) (hy : wok y) (lx : x.length = 14) (ly : y.length = 14) (h1 : wv y ≤ wv x) : Ev E 346 [.sl (encI x), .sl (encI y)] (.d (.sl (encI (wdig 14 (wv x - wv y))))) := by
 have zx := wv_bnd x hx
 rw [lx] at zx
 have zy := wv_nonneg y hy
 have hlx : (encI x).length = 14 := by rw [encI_len]; exact lx
 refine ye2 func346 ntmps346 fun _ _ _=>?_
 repeat' (first | refine yz ?_ | (refine qS rfl ⟨rfl, by (show 8 * (encI x).length ≤ 281474976710656; omega), by omega⟩ ?_))
 refine go_loop_ (α := SPM x y (-1)) (fun p => ⟨[(0, .d (.sl (encI x))), (1, .d (.sl (encI y))), (5, .own 0), (6, .d (.int p.carry)), (7, .d (.int p.k))], [.row 3 1 (encI p.out)]⟩) (fun p => 14 - p.k) (spm0 x y (-1)) (by rw [hlx]; exact (zle 1)) ?_
 intro p
 have hkk := p.hk
 rcases Nat.lt_or_ge p.k 14 with hlt | hge
 ·have hd : decide ((p.k : Int) < ((encI x).length : Int)) = true := by rw [hlx]; simp; omega
  obtain ⟨a, a1, a2, a3⟩ := get_dig hx lx hlt
  obtain ⟨b, b1, b2, b3⟩ := get_dig hy ly hlt
  have c2 : (encI p.out)[((p.k : Int)).toNat]? = some (.int 0) := encI_get (by rw [Int.toNat_natCast]; exact p.hz p.k (Nat.le_refl _) hlt)
  have hle : (encI p.out).length = 14 := by rw [encI_len]; exact p.hl
  have hca := p.hca
  by_cases hneg : p.carry + a - b < 0
  ·have g1 : decide (p.carry + a - b < 0) = true := by simpa using hneg
   obtain ⟨p', e1, e2, e3⟩ := spm_next p hlt a1 b1 (r := p.carry + a - b + 1000) (q := -1) (by omega) (by omega) (by omega)
   repeat' (first | refine yz ?_ | refine yi (.int a) a2 ?_ | refine yi (.int b) b2 ?_ | refine qZ (.int 0) rfl rfl rfl rfl rfl rfl c2 rfl rfl rfl ?_)
   refine go_stop ?_
   refine ⟨p', by omega, ?_⟩
   rw [e1, e2, e3, ← own_set p.out p.k 0]
   exact (zle 1)
  ·have g1 : decide (p.carry + a - b < 0) = false := by simpa using hneg
   obtain ⟨p', e1, e2, e3⟩ := spm_next p hlt a1 b1 (r := p.carry + a - b) (q := 0) (by omega) (by omega) (by omega)
   repeat' (first | refine yz ?_ | refine yi (.int a) a2 ?_ | refine yi (.int b) b2 ?_ | refine qZ (.int 0) rfl rfl rfl rfl rfl rfl c2 rfl rfl rfl ?_)
   refine go_stop ?_
   refine ⟨p', by omega, ?_⟩
   rw [e1, e2, e3, ← own_set p.out p.k 0]
   exact (zle 1)
 ·have hd : decide ((p.k : Int) < ((encI x).length : Int)) = false := by rw [hlx]; simp; omega
  have hend := spm_end p lx ly (by omega) (.inr rfl) (by omega) (by omega)
  rw [show wv x + -1 * wv y = wv x - wv y from by omega] at hend
  rw [← hend]
  repeat' (refine yz ?_)
  refine go_frz 0 rfl ?_
  repeat' (first | refine qL rfl rfl ?_ | exact zD)
theorem wv_split : ∀ (l : List Int) (k : Nat), k ≤ l.length → wv l = wv (l.take k) + pw k * wv (l.drop k)
 | l, 0, _ => by simp [wv, pw]
 | [], k + 1, h => by simp at h
 | d :: r, k + 1, h => by
  simp only [List.take_succ_cons, List.drop_succ_cons, wv, pw]
  rw [wv_split r k (by simpa using h), Int.mul_add, Int.mul_assoc]
  omega
theorem wv_lt {x y : List Int} (hx : wok x) (lx : x.length = 14) (ly : y.length = 14) (hy : wok y) {k : Nat} (hk : k < 14) {a b : Int} (ha : x[k]? = some a) (hb : y[k]? = some b) (he : x.drop (k + 1) = y.drop (k + 1)) (hab : a < b) : wv x < wv y := by
 rw [wv_split x k (by omega), wv_split y k (by omega), drop_at ha, drop_at hb, he]
 simp only [wv]
 have h1 := wv_bnd (x.take k) fun d hd => hx d (List.mem_of_mem_take hd)
 have h2 := wv_nonneg (y.take k) fun d hd => hy d (List.mem_of_mem_take hd)
 rw [List.length_take, lx, Nat.min_eq_left (by omega)] at h1
 have h3 : pw k * (a + 1000 * wv (List.drop (k + 1) y)) + pw k ≤ pw k * (b + 1000 * wv (List.drop (k + 1) y)) := by
  have := Int.mul_le_mul_of_nonneg_left (show a + 1000 * wv (List.drop (k + 1) y) + 1 ≤ b + 1000 * wv (List.drop (k + 1) y) by omega) (show 0 ≤ pw k by have := pw_pos k; omega)
  rw [Int.mul_add _ _ 1, Int.mul_one] at this
  exact this
 omega
structure SO (x y : List Int) where
 n : Nat
 hn : n ≤ 14
 he : x.drop n = y.drop n
theorem order_ev (x y : List Int) (hx : wok x) (hy : wok y) (lx : x.length = 14) (ly : y.length = 14) : Ev E 345 [.sl (encI x), .sl (encI y)] (.d (.int (sgn (wv x - wv y)))) := by
 have hlx : (encI x).length = 14 := by rw [encI_len]; exact lx
 refine ye2 func345 ntmps345 fun _ _ _=>?_
 repeat' (refine yz ?_)
 refine go_loop_ (α := SO x y) (fun p => ⟨[(0, .d (.sl (encI x))), (1, .d (.sl (encI y))), (5, .d (.int ((p.n : Int) - 1)))], []⟩) (fun p => p.n) ⟨14, by omega, by rw [List.drop_eq_nil_of_le (by omega), List.drop_eq_nil_of_le (by omega)]⟩ (by rw [hlx]; exact (zle 0)) ?_
 rintro ⟨n, hn, he⟩
 dsimp only
 match n, hn, he with
 | 0, _, he =>
  have g1 : decide (((0 : Nat) : Int) - 1 ≥ 0) = false := by decide
  have : x = y := by simpa using he
  repeat' (refine yz ?_)
  rw [this, Int.sub_self]
  rfl
 | k + 1, hn, he =>
  have hk : (((k + 1 : Nat) : Int) - 1) = (k : Int) := by omega
  rw [hk]
  have g1 : decide ((k : Int) ≥ 0) = true := by simp
  obtain ⟨a, a1, a2, a3⟩ := get_dig hx lx (show k < 14 by omega)
  obtain ⟨b, b1, b2, b3⟩ := get_dig hy ly (show k < 14 by omega)
  by_cases h1 : a < b
  ·have g2 : decide (a < b) = true := by simpa using h1
   have := wv_lt hx lx ly hy (by omega) a1 b1 he h1
   repeat' (first | refine yz ?_ | refine yi (.int a) a2 ?_ | refine yi (.int b) b2 ?_)
   unfold sgn
   rw [if_pos (by omega)]
  ·have g2 : decide (a < b) = false := by simpa using h1
   by_cases h2 : a > b
   ·have g3 : decide (a > b) = true := by simpa using h2
    have := wv_lt hy ly lx hx (by omega) b1 a1 he.symm h2
    repeat' (first | refine yz ?_ | refine yi (.int a) a2 ?_ | refine yi (.int b) b2 ?_)
    unfold sgn
    rw [if_neg (by omega), if_pos (by omega)]
   ·have g3 : decide (a > b) = false := by simpa using h2
    repeat' (first | refine yz ?_ | refine yi (.int a) a2 ?_ | refine yi (.int b) b2 ?_)
    refine go_stop ?_
    refine ⟨⟨k, by omega, ?_⟩, by dsimp only; omega, (zle 0)⟩
    rw [drop_at a1, drop_at b1, he, show a = b from by omega]
theorem sgn_pos {n : Int} (h : n > 0) : sgn n = 1 := by unfold sgn; rw [if_neg (by omega), if_pos h]
theorem sgn_neg {n : Int} (h : n < 0) : sgn n = -1 := by unfold sgn; rw [if_pos h]
theorem sgn_zero : sgn 0 = 0 := rfl
theorem sum_ev (A B : Int) (hA : (A.natAbs : Int) ≤ 1000000000000000000000000000000) (hB : (B.natAbs : Int) ≤ 1000000000000000000000000000000) :
  Ev E 272 [.int (sgn A), .sl (encI (wdig 14 A.natAbs)), .int (sgn B), .sl (encI (wdig 14 B.natAbs))] (.tup [.int (sgn (A + B)), .sl (encI (wdig 14 (A + B).natAbs))]) := by
 have hpw : pw 14 = 1000000000000000000000000000000000000000000 := by decide
 have va : wv (wdig 14 A.natAbs) = A.natAbs := wv_wdig 14 _ (by omega) (by omega)
 have vb : wv (wdig 14 B.natAbs) = B.natAbs := wv_wdig 14 _ (by omega) (by omega)
 have hp := plus_ev (wdig 14 A.natAbs) (wdig 14 B.natAbs) (wdig_ok _ _) (wdig_ok _ _) (wdig_len _ _) (wdig_len _ _) (by rw [va, vb]; omega)
 have ho := order_ev (wdig 14 A.natAbs) (wdig 14 B.natAbs) (wdig_ok _ _) (wdig_ok _ _) (wdig_len _ _) (wdig_len _ _)
 have hm1 : (B.natAbs : Int) ≤ A.natAbs → _ := fun h => minus_ev (wdig 14 A.natAbs) (wdig 14 B.natAbs) (wdig_ok _ _) (wdig_ok _ _) (wdig_len _ _) (wdig_len _ _) (by rw [va, vb]; exact h)
 have hm2 : (A.natAbs : Int) ≤ B.natAbs → _ := fun h => minus_ev (wdig 14 B.natAbs) (wdig 14 A.natAbs) (wdig_ok _ _) (wdig_ok _ _) (wdig_len _ _) (wdig_len _ _) (by rw [va, vb]; exact h)
 have hp0 : Ev E 344 [.sl (List.replicate 14 (.int 0)), .sl (List.replicate 14 (.int 0))] (.d (.sl (encI (wdig 14 0)))) := plus_ev (List.replicate 14 0) (List.replicate 14 0) (fun d hd => by rw [(List.mem_replicate.1 hd).2]; omega) (fun d hd => by rw [(List.mem_replicate.1 hd).2]; omega) rfl rfl (by decide)
 rw [va, vb] at hp ho
 simp only [va, vb] at hm1 hm2
 have same : ∀ s : Int, sgn A = s → (sgn B = s ∨ sgn B = 0) → sgn (A + B) = s → ((A + B).natAbs : Int) = A.natAbs + B.natAbs → Ev E 272 [.int (sgn A), .sl (encI (wdig 14 A.natAbs)), .int (sgn B), .sl (encI (wdig 14 B.natAbs))] (.tup [.int (sgn (A + B)), .sl (encI (wdig 14 (A + B).natAbs))]) := by
  intro s h1 h2 h3 h4
  rw [h3, h4, h1]
  cases h5 : s == sgn B with
  | true =>
   refine enter4 func272 ntmps272 rfl rfl fun w0 F0 O => ?_
   repeat' (first | refine yz ?_ | refine yp b344 hp ?_ | refine yx ?_ | exact zL)
  | false =>
   have h6 : (sgn B == 0) = true := by
    rcases h2 with h | h
    ·rw [h] at h5; simp at h5
    ·rw [h]; rfl
   refine enter4 func272 ntmps272 rfl rfl fun w0 F0 O => ?_
   repeat' (first | refine yz ?_ | refine yp b344 hp ?_ | refine yx ?_ | exact zL)
 rcases (show A > 0 ∨ A = 0 ∨ A < 0 by omega) with h1 | h1 | h1 <;> rcases (show B > 0 ∨ B = 0 ∨ B < 0 by omega) with h2 | h2 | h2
 ·exact same 1 (sgn_pos h1) (.inl (sgn_pos h2)) (sgn_pos (by omega)) (by omega)
 ·exact same 1 (sgn_pos h1) (.inr (by rw [h2]; rfl)) (sgn_pos (by omega)) (by omega)
 rotate_left
 ·subst h1
  have e : ((0 + B).natAbs : Int) = B.natAbs := by omega
  rw [e, Int.zero_add, sgn_pos h2]
  refine enter4 func272 ntmps272 rfl rfl fun w0 F0 O => ?_
  repeat' (first | refine yz ?_ | exact zL)
 ·exact same 0 (by rw [h1]; rfl) (.inl (by rw [h2]; rfl)) (by rw [h1, h2]; rfl) (by omega)
 ·subst h1
  have e : ((0 + B).natAbs : Int) = B.natAbs := by omega
  rw [e, Int.zero_add, sgn_neg h2]
  refine enter4 func272 ntmps272 rfl rfl fun w0 F0 O => ?_
  repeat' (first | refine yz ?_ | exact zL)
 rotate_left
 ·exact same (-1) (sgn_neg h1) (.inr (by rw [h2]; rfl)) (sgn_neg (by omega)) (by omega)
 ·exact same (-1) (sgn_neg h1) (.inl (sgn_neg h2)) (sgn_neg (by omega)) (by omega)
 all_goals
  first | rw [sgn_pos h1] | rw [sgn_neg h1]
  first | rw [sgn_pos h2] | rw [sgn_neg h2]
  rcases (show (A.natAbs : Int) - B.natAbs > 0 ∨ (A.natAbs : Int) - B.natAbs = 0 ∨ (A.natAbs : Int) - B.natAbs < 0 by omega) with h3 | h3 | h3
 ·rw [sgn_pos h3] at ho
  have e : ((A + B).natAbs : Int) = A.natAbs - B.natAbs := by omega
  rw [e, sgn_pos (show A + B > 0 by omega)]
  refine enter4 func272 ntmps272 rfl rfl fun w0 F0 O => ?_
  repeat' (first | refine yz ?_ | refine yp b345 ho ?_ | refine yp b346 (hm1 (by omega)) ?_ | exact zL)
 ·rw [h3, sgn_zero] at ho
  have e : A + B = 0 := by omega
  rw [e, sgn_zero]
  refine enter4 func272 ntmps272 rfl rfl fun w0 F0 O => ?_
  repeat' (first | refine yz ?_ | refine yp b345 ho ?_ | refine go_makeD 14 rfl rfl rfl rfl rfl rfl rfl rfl rfl rfl (by decide) (by decide) ?_ | refine yp b344 hp0 ?_ | exact zL)
 ·rw [sgn_neg h3] at ho
  have e : ((A + B).natAbs : Int) = B.natAbs - A.natAbs := by omega
  rw [e, sgn_neg (show A + B < 0 by omega)]
  refine enter4 func272 ntmps272 rfl rfl fun w0 F0 O => ?_
  repeat' (first | refine yz ?_ | refine yp b345 ho ?_ | refine yp b346 (hm2 (by omega)) ?_ | exact zL)
 ·rw [sgn_pos h3] at ho
  have e : ((A + B).natAbs : Int) = A.natAbs - B.natAbs := by omega
  rw [e, sgn_neg (show A + B < 0 by omega)]
  refine enter4 func272 ntmps272 rfl rfl fun w0 F0 O => ?_
  repeat' (first | refine yz ?_ | refine yp b345 ho ?_ | refine yp b346 (hm1 (by omega)) ?_ | exact zL)
 ·rw [h3, sgn_zero] at ho
  have e : A + B = 0 := by omega
  rw [e, sgn_zero]
  refine enter4 func272 ntmps272 rfl rfl fun w0 F0 O => ?_
  repeat' (first | refine yz ?_ | refine yp b345 ho ?_ | refine go_makeD 14 rfl rfl rfl rfl rfl rfl rfl rfl rfl rfl (by decide) (by decide) ?_ | refine yp b344 hp0 ?_ | exact zL)
 ·rw [sgn_neg h3] at ho
  have e : ((A + B).natAbs : Int) = B.natAbs - A.natAbs := by omega
  rw [e, sgn_pos (show A + B > 0 by omega)]
  refine enter4 func272 ntmps272 rfl rfl fun w0 F0 O => ?_
  repeat' (first | refine yz ?_ | refine yp b345 ho ?_ | refine yp b346 (hm2 (by omega)) ?_ | exact zL)
def fzn (n d : Int) : Int := bif fval n d then n else 0
def fzd (n d : Int) : Int := bif fval n d then d else 1
def cmpQ (an ad bn bd : Int) : Int := sgn (fzn an ad * fzd bn bd - fzn bn bd * fzd an ad)
theorem fz_bnd (n d : Int) : -1000000000000000 ≤ fzn n d ∧ fzn n d ≤ 1000000000000000 ∧ 1 ≤ fzd n d ∧ fzd n d ≤ 1000000000000000 := by
 unfold fzn fzd
 cases h : fval n d with
 | false => simp
 | true =>
  simp only [fval, Bool.and_eq_true, decide_eq_true_eq] at h
  have := (inM_iff n).1 h.2.2.1
  simp only [cond_true]
  omega
theorem mul_bnd {x y : Int} (hx : -1000000000000000 ≤ x ∧ x ≤ 1000000000000000) (hy : 1 ≤ y ∧ y ≤ 1000000000000000) : ((x * y).natAbs : Int) = x.natAbs * y ∧ ((x * y).natAbs : Int) ≤ 1000000000000000000000000000000 := by
 have e : ((x * y).natAbs : Int) = x.natAbs * y := by rw [Int.natAbs_mul, Int.natCast_mul, Int.natAbs_of_nonneg (show 0 ≤ y by omega)]
 refine ⟨e, ?_⟩
 rw [e]
 have := Int.mul_le_mul (show (x.natAbs : Int) ≤ 1000000000000000 by omega) hy.2 (by omega) (by omega)
 omega
theorem sgn_mul {x y : Int} (hy : 1 ≤ y) : sgn (x * y) = sgn x := by
 rcases (show x > 0 ∨ x = 0 ∨ x < 0 by omega) with h | h | h
 ·rw [sgn_pos h, sgn_pos (Int.mul_pos h (by omega))]
 ·rw [h, Int.zero_mul]
 ·rw [sgn_neg h, sgn_neg (Int.mul_neg_of_neg_of_pos h (by omega))]
theorem sgn_opp (x : Int) : sgn (-x) = - sgn x := by
 rcases (show x > 0 ∨ x = 0 ∨ x < 0 by omega) with h | h | h
 ·rw [sgn_pos h, sgn_neg (by omega)]
 ·rw [h]; rfl
 ·rw [sgn_neg h, sgn_pos (by omega)]; rfl
theorem sgn_rng (x : Int) : -1 ≤ sgn x ∧ sgn x ≤ 1 := by unfold sgn; split <;> (try split) <;> omega
theorem rcmp_ev (an ad bn bd : Int) : Ev E 202 [.agg [.int an, .int ad], .agg [.int bn, .int bd]] (.d (.int (cmpQ an ad bn bd))) := by
 have h1 := fz_bnd an ad
 have h2 := fz_bnd bn bd
 have hva := rvalid_ev an ad
 have hvb := rvalid_ev bn bd
 have key : ∀ n d n' d' : Int, (-1000000000000000 ≤ n ∧ n ≤ 1000000000000000) → (1 ≤ d ∧ d ≤ 1000000000000000) → (-1000000000000000 ≤ n' ∧ n' ≤ 1000000000000000) → (1 ≤ d' ∧ d' ≤ 1000000000000000) →
   Ev E 272 [.int (sgn n), .sl (encI (wdig 14 (n.natAbs * d'))), .int (0 - sgn n'), .sl (encI (wdig 14 (n'.natAbs * d)))] (.tup [.int (sgn (n * d' - n' * d)), .sl (encI (wdig 14 (n * d' - n' * d).natAbs))]) := by
  intro n d n' d' hn hd hn' hd'
  obtain ⟨m1, m2⟩ := mul_bnd hn hd'
  obtain ⟨m3, m4⟩ := mul_bnd hn' hd
  have := sum_ev (n * d') (-(n' * d)) m2 (by rw [Int.natAbs_neg]; exact m4)
  rw [Int.natAbs_neg, m1, m3, sgn_mul hd'.1, sgn_opp, sgn_mul hd.1, ← Int.sub_eq_add_neg] at this
  rw [show 0 - sgn n' = - sgn n' by omega]
  exact this
 have hs := key (fzn an ad) (fzd an ad) (fzn bn bd) (fzd bn bd) (by omega) (by omega) (by omega) (by omega)
 have ht1 := times_ev (fzn an ad).natAbs (fzd bn bd) (by omega) (by omega) (by omega) (by omega)
 have ht2 := times_ev (fzn bn bd).natAbs (fzd an ad) (by omega) (by omega) (by omega) (by omega)
 have hz1 := rsize_ev (fzn an ad) (by omega)
 have hz2 := rsize_ev (fzn bn bd) (by omega)
 have hg1 := rsign_ev (fzn an ad)
 have hg2 := rsign_ev (fzn bn bd)
 have hgr := sgn_rng (fzn bn bd)
 unfold cmpQ
 generalize hres : (fzn an ad * fzd bn bd - fzn bn bd * fzd an ad) = res at *
 clear hres key
 cases ha : fval an ad <;> cases hb : fval bn bd
 all_goals
  rw [ha] at hva
  rw [hb] at hvb
  simp only [fzn, fzd, ha, hb, cond_true, cond_false] at hs ht1 ht2 hz1 hz2 hg1 hg2 hgr h1 h2
  refine ye2 func202 ntmps202 fun _ _ _=>?_
  repeat' (first | refine yz ?_ | refine yp b271 hva ?_ | refine yp b271 hvb ?_ | refine yp b273 hg1 ?_ | refine yp b273 hg2 ?_ | refine yp b275 hz1 ?_ | refine yp b275 hz2 ?_ | refine yp b274 ht1 ?_ | refine yp b274 ht2 ?_ | refine yp b272 hs ?_ | exact zD)
attribute [local irreducible] ExtEv
theorem fsize_ev (n : Int) : Ev E 394 [.int n] (.d (.imm (.int .u64 (n.natAbs : Int)))) := Ev.fit fun hfit => by
 have hn := (hfit (.int n) (by simp)).int
 simp only [inR] at hn
 by_cases h : n < 0
 ·have g1 : decide (n < 0) = true := by simpa using h
  have w1 : IntKind.u64.wrap n = n + 18446744073709551616 := by simp [IntKind.wrap, IntKind.signed, IntKind.bits]; omega
  have w2 : IntKind.u64.wrap (0 - (n + 18446744073709551616)) = n.natAbs := by simp [IntKind.wrap, IntKind.signed, IntKind.bits]; omega
  refine ye1 func394 ntmps394 fun _ _ _=>?_
  repeat' (first | refine yz ?_ | (refine go_convW _ rfl rfl rfl rfl rfl rfl rfl w1 ?_) | (refine go_negW _ rfl rfl rfl rfl rfl w2 ?_) | exact zD)
 ·have g1 : decide (n < 0) = false := by simpa using h
  have e : (n.natAbs : Int) = n := by omega
  rw [e]
  refine ye1 func394 ntmps394 fun _ _ _=>?_
  repeat' (first | refine yz ?_ | exact zD)
def wideD (neg : Bool) (m : Nat) : D := .agg [.imm (.bool neg), .imm (.int .u64 ((m / 18446744073709551616 : Nat) : Int)), .imm (.int .u64 ((m % 18446744073709551616 : Nat) : Int))]
def sv (neg : Bool) (m : Nat) : Int := bif neg then -(m : Int) else m
theorem mul64_ev (x y : Nat) (hx : x < 18446744073709551616) (hy : y < 18446744073709551616) : Ev E 393 [.imm (.int .u64 (x : Int)), .imm (.int .u64 (y : Int))] (.tup [.imm (.int .u64 ((x * y / 18446744073709551616 : Nat) : Int)), .imm (.int .u64 ((x * y % 18446744073709551616 : Nat) : Int))]) := by
 refine Ev.mk fun w F vs hF hG hl hr => ?_
 match vs, hl with
 | [v, u], _ =>
  obtain ⟨rfl, -⟩ := Rd.imm_inv (hr 0 _ v rfl rfl)
  obtain ⟨rfl, -⟩ := Rd.imm_inv (hr 1 _ u rfl rfl)
  refine (Tryz.bits_Mul64 x y hx hy w).mono ?_
  rintro e w' ⟨rfl, rfl⟩
  refine ⟨_, F, rfl, Ext.refl hF, [_, _], rfl, rfl, fun i d v hd hv => ?_⟩
  have hq : x * y / 18446744073709551616 < 18446744073709551616 := by
   have : x * y < 18446744073709551616 * 18446744073709551616 := Nat.mul_lt_mul_of_lt_of_le hx (Nat.le_of_lt hy) (by omega)
   exact Nat.div_lt_of_lt_mul this
  have hm : x * y % 18446744073709551616 < 18446744073709551616 := Nat.mod_lt _ (by omega)
  match i with
  | 0 => simp at hd hv; subst hd hv; exact Rd.imm _ (inR_ok (k := .u64) (by simp only [inR]; omega))
  | 1 => simp at hd hv; subst hd hv; exact Rd.imm _ (inR_ok (k := .u64) (by simp only [inR]; omega))
  | i + 2 => simp at hd
theorem product_ev (a b : Int) : Ev E 371 [.int a, .int b] (.d (wideD (!(decide (a < 0) == decide (b < 0))) (a.natAbs * b.natAbs))) := Ev.fit fun hfit => by
 have ha := (hfit (.int a) (by simp)).int
 have hb := (hfit (.int b) (by simp)).int
 simp only [inR] at ha hb
 have h1 := fsize_ev a
 have h2 := fsize_ev b
 have h3 := mul64_ev a.natAbs b.natAbs (by omega) (by omega)
 refine ye2 func371 ntmps371 fun _ _ _=>?_
 repeat' (first | refine yz ?_ | refine yp b394 h1 ?_ | refine yp b394 h2 ?_ | refine yp b393 h3 ?_ | exact zD)
theorem wless_ev (p q : Bool) (m n : Nat) : Ev E 396 [wideD p m, wideD q n] (.d (.bool (decide (m < n)))) := by
 have e1 : decide (((m / 18446744073709551616 : Nat) : Int) < ((n / 18446744073709551616 : Nat) : Int)) = decide (m / 18446744073709551616 < n / 18446744073709551616) := by simp only [decide_eq_decide]; omega
 rcases Nat.lt_trichotomy (m / 18446744073709551616) (n / 18446744073709551616) with h | h | h
 ·have g1 : decide (((m / 18446744073709551616 : Nat) : Int) < ((n / 18446744073709551616 : Nat) : Int)) = true := by simp only [decide_eq_true_eq]; omega
  have g3 : decide (m < n) = true := by simp only [decide_eq_true_eq]; omega
  rw [g3]
  refine ye2 func396 ntmps396 fun _ _ _=>?_
  repeat' (first | refine yz ?_ | refine yx ?_ | exact zD)
 ·have g1 : decide (((m / 18446744073709551616 : Nat) : Int) < ((n / 18446744073709551616 : Nat) : Int)) = false := by simp only [decide_eq_false_iff_not]; omega
  have g2 : (((m / 18446744073709551616 : Nat) : Int) == ((n / 18446744073709551616 : Nat) : Int)) = true := by simp only [beq_iff_eq]; omega
  have g3 : decide (m < n) = decide (((m % 18446744073709551616 : Nat) : Int) < ((n % 18446744073709551616 : Nat) : Int)) := by simp only [decide_eq_decide]; omega
  rw [g3]
  refine ye2 func396 ntmps396 fun _ _ _=>?_
  repeat' (first | refine yz ?_ | refine yx ?_ | exact zD)
 ·have g1 : decide (((m / 18446744073709551616 : Nat) : Int) < ((n / 18446744073709551616 : Nat) : Int)) = false := by simp only [decide_eq_false_iff_not]; omega
  have g2 : (((m / 18446744073709551616 : Nat) : Int) == ((n / 18446744073709551616 : Nat) : Int)) = false := by simp only [beq_eq_false_iff_ne]; omega
  have g3 : decide (m < n) = false := by simp only [decide_eq_false_iff_not]; omega
  rw [g3]
  refine ye2 func396 ntmps396 fun _ _ _=>?_
  repeat' (first | refine yz ?_ | refine yx ?_ | exact zD)
theorem add64_run (x y c : Nat) (hc : c ≤ 1) (w : World) : (callFunc 395 [Value.int .u64 (x : Int), .int .u64 (y : Int), .int .u64 (c : Int)].toArray).run E.P w =
  .ok (.value (.tuple #[.int .u64 (((x + y + c) % 18446744073709551616 : Nat) : Int), .int .u64 (((x + y + c) / 18446744073709551616 : Nat) : Int)])) w := by
 have := run_callFunc_extern func395 (by kernel_rfl) (by kernel_rfl) (by kernel_rfl) (e := add64Entry) (by kernel_rfl) #[.int .u64 (x : Int), .int .u64 (y : Int), .int .u64 (c : Int)] w
 refine this.trans ?_
 rw [run_add64 x y c (by omega) (by omega) (by omega) (by omega)]
 simp only [Result.andThen]
 congr 5 <;> omega
theorem sub64_run (x y b : Nat) (hb : b ≤ 1) (w : World) : (callFunc 397 [Value.int .u64 (x : Int), .int .u64 (y : Int), .int .u64 (b : Int)].toArray).run E.P w =
  .ok (.value (.tuple #[.int .u64 (((x + 18446744073709551616 - y - b) % 18446744073709551616 : Nat) : Int), .int .u64 ((if x < y + b then 1 else 0 : Nat) : Int)])) w := by
 have := run_callFunc_extern func397 (by kernel_rfl) (by kernel_rfl) (by kernel_rfl) (e := sub64Entry) (by kernel_rfl) #[.int .u64 (x : Int), .int .u64 (y : Int), .int .u64 (b : Int)] w
 refine this.trans ?_
 rw [run_sub64 x y b hb]
 rfl
theorem pair_rd {a b : Nat} (ha : a < 18446744073709551616) (hb : b < 18446744073709551616) (w : World) (F : Nat → Prop) : RdX w F [] (.tup [.imm (.int .u64 (a : Int)), .imm (.int .u64 (b : Int))]) (.tuple #[.int .u64 (a : Int), .int .u64 (b : Int)]) := by
 refine ⟨[_, _], rfl, rfl, fun i d v hd hv => ?_⟩
 match i with
 | 0 => simp at hd hv; subst hd hv; exact Rd.imm _ (inR_ok (k := .u64) (by simp only [inR]; omega))
 | 1 => simp at hd hv; subst hd hv; exact Rd.imm _ (inR_ok (k := .u64) (by simp only [inR]; omega))
 | i + 2 => simp at hd
def wsum (p q : Bool) (m n : Nat) : Bool × Nat := bif p == q then (p, m + n) else (bif decide (m < n) then (q, n - m) else (p, m - n))
theorem wsum_sv (p q : Bool) (m n : Nat) : sv (wsum p q m n).1 (wsum p q m n).2 = sv p m + sv q n := by
 cases p <;> cases q <;> (simp only [wsum, sv]; cases h : decide (m < n) <;> simp at h <;> simp <;> omega)
theorem wsum_le (p q : Bool) (m n : Nat) : (wsum p q m n).2 ≤ m + n := by
 unfold wsum
 cases p == q <;> cases decide (m < n) <;> simp <;> omega
theorem wplus_ev (p q : Bool) (m n : Nat) (hm : m ≤ 1000000000000000000000000000000) (hn : n ≤ 1000000000000000000000000000000) : Ev E 372 [wideD p m, wideD q n] (.d (wideD (wsum p q m n).1 (wsum p q m n).2)) := by
 cases hpq : p == q with
 | true =>
  have e : wsum p q m n = (p, m + n) := by unfold wsum; rw [hpq]; rfl
  rw [e]
  have a1 := add64_run (m % 18446744073709551616) (n % 18446744073709551616) 0 (by omega)
  have a2 := add64_run (m / 18446744073709551616) (n / 18446744073709551616) ((m % 18446744073709551616 + n % 18446744073709551616 + 0) / 18446744073709551616) (by omega)
  have r1 := pair_rd (a := (m % 18446744073709551616 + n % 18446744073709551616 + 0) % 18446744073709551616) (b := (m % 18446744073709551616 + n % 18446744073709551616 + 0) / 18446744073709551616) (by omega) (by omega)
  have r2 := pair_rd (a := (m / 18446744073709551616 + n / 18446744073709551616 + (m % 18446744073709551616 + n % 18446744073709551616 + 0) / 18446744073709551616) % 18446744073709551616) (b := (m / 18446744073709551616 + n / 18446744073709551616 + (m % 18446744073709551616 + n % 18446744073709551616 + 0) / 18446744073709551616) / 18446744073709551616) (by omega) (by omega)
  have d1 : (m / 18446744073709551616 + n / 18446744073709551616 + (m % 18446744073709551616 + n % 18446744073709551616 + 0) / 18446744073709551616) % 18446744073709551616 = (m + n) / 18446744073709551616 := by omega
  have d2 : (m % 18446744073709551616 + n % 18446744073709551616 + 0) % 18446744073709551616 = (m + n) % 18446744073709551616 := by omega
  unfold wideD
  rw [← d1, ← d2]
  clear d1 d2 e
  replace a1 := ExtEv.mk a1 r1
  replace a2 := ExtEv.mk a2 r2
  clear r1 r2
  generalize m / 18446744073709551616 = mh at *
  generalize m % 18446744073709551616 = ml at *
  generalize n / 18446744073709551616 = nh at *
  generalize n % 18446744073709551616 = nl at *
  generalize (ml + nl + 0) % 18446744073709551616 = lo at *
  generalize (ml + nl + 0) / 18446744073709551616 = c1 at *
  generalize (mh + nh + c1) % 18446744073709551616 = hi at *
  generalize (mh + nh + c1) / 18446744073709551616 = c2 at *
  refine ye2 func372 ntmps372 fun _ _ _=>?_
  repeat' (first | refine yz ?_ | refine go_callV rfl rfl rfl rfl rfl a1 rfl ?_ | refine go_callV rfl rfl rfl rfl rfl a2 rfl ?_ | exact zD)
 | false =>
  have hl := wless_ev p q m n
  have key : ∀ (p' q' : Bool) (m' n' : Nat), n' ≤ m' → m' ≤ 1000000000000000000000000000000 → True := fun _ _ _ _ _ _ => trivial
  cases hlt : decide (m < n) with
  | true =>
   have e : wsum p q m n = (q, n - m) := by unfold wsum; rw [hpq, hlt]; rfl
   rw [e]
   rw [hlt] at hl
   have hmn : m < n := of_decide_eq_true hlt
   have a1 := sub64_run (n % 18446744073709551616) (m % 18446744073709551616) 0 (by omega)
   have a2 := sub64_run (n / 18446744073709551616) (m / 18446744073709551616) (if n % 18446744073709551616 < m % 18446744073709551616 + 0 then 1 else 0) (by split <;> omega)
   have r1 := pair_rd (a := (n % 18446744073709551616 + 18446744073709551616 - m % 18446744073709551616 - 0) % 18446744073709551616) (b := if n % 18446744073709551616 < m % 18446744073709551616 + 0 then 1 else 0) (by omega) (by split <;> omega)
   have r2 := pair_rd (a := (n / 18446744073709551616 + 18446744073709551616 - m / 18446744073709551616 - (if n % 18446744073709551616 < m % 18446744073709551616 + 0 then 1 else 0)) % 18446744073709551616) (b := if n / 18446744073709551616 < m / 18446744073709551616 + (if n % 18446744073709551616 < m % 18446744073709551616 + 0 then 1 else 0) then 1 else 0) (by omega) (by split <;> split <;> omega)
   have d1 : (n / 18446744073709551616 + 18446744073709551616 - m / 18446744073709551616 - (if n % 18446744073709551616 < m % 18446744073709551616 + 0 then 1 else 0)) % 18446744073709551616 = (n - m) / 18446744073709551616 := by split <;> omega
   have d2 : (n % 18446744073709551616 + 18446744073709551616 - m % 18446744073709551616 - 0) % 18446744073709551616 = (n - m) % 18446744073709551616 := by omega
   unfold wideD at *
   rw [← d1, ← d2]
   clear d1 d2 e
   replace a1 := ExtEv.mk a1 r1
   replace a2 := ExtEv.mk a2 r2
   clear r1 r2
   generalize m / 18446744073709551616 = mh at *
   generalize m % 18446744073709551616 = ml at *
   generalize n / 18446744073709551616 = nh at *
   generalize n % 18446744073709551616 = nl at *
   generalize (if nl < ml + 0 then 1 else 0 : Nat) = bo at *
   generalize (nl + 18446744073709551616 - ml - 0) % 18446744073709551616 = lo at *
   generalize (nh + 18446744073709551616 - mh - bo) % 18446744073709551616 = hi at *
   generalize (if nh < mh + bo then 1 else 0 : Nat) = c2 at *
   refine ye2 func372 ntmps372 fun _ _ _=>?_
   repeat' (first | refine yz ?_ | refine yp b396 hl ?_ | refine go_callV rfl rfl rfl rfl rfl a1 rfl ?_ | refine go_callV rfl rfl rfl rfl rfl a2 rfl ?_ | exact zD)
  | false =>
   have e : wsum p q m n = (p, m - n) := by unfold wsum; rw [hpq, hlt]; rfl
   rw [e]
   rw [hlt] at hl
   have hmn : ¬ m < n := of_decide_eq_false hlt
   have a1 := sub64_run (m % 18446744073709551616) (n % 18446744073709551616) 0 (by omega)
   have a2 := sub64_run (m / 18446744073709551616) (n / 18446744073709551616) (if m % 18446744073709551616 < n % 18446744073709551616 + 0 then 1 else 0) (by split <;> omega)
   have r1 := pair_rd (a := (m % 18446744073709551616 + 18446744073709551616 - n % 18446744073709551616 - 0) % 18446744073709551616) (b := if m % 18446744073709551616 < n % 18446744073709551616 + 0 then 1 else 0) (by omega) (by split <;> omega)
   have r2 := pair_rd (a := (m / 18446744073709551616 + 18446744073709551616 - n / 18446744073709551616 - (if m % 18446744073709551616 < n % 18446744073709551616 + 0 then 1 else 0)) % 18446744073709551616) (b := if m / 18446744073709551616 < n / 18446744073709551616 + (if m % 18446744073709551616 < n % 18446744073709551616 + 0 then 1 else 0) then 1 else 0) (by omega) (by split <;> split <;> omega)
   have d1 : (m / 18446744073709551616 + 18446744073709551616 - n / 18446744073709551616 - (if m % 18446744073709551616 < n % 18446744073709551616 + 0 then 1 else 0)) % 18446744073709551616 = (m - n) / 18446744073709551616 := by split <;> omega
   have d2 : (m % 18446744073709551616 + 18446744073709551616 - n % 18446744073709551616 - 0) % 18446744073709551616 = (m - n) % 18446744073709551616 := by omega
   unfold wideD at *
   rw [← d1, ← d2]
   clear d1 d2 e
   replace a1 := ExtEv.mk a1 r1
   replace a2 := ExtEv.mk a2 r2
   clear r1 r2
   generalize m / 18446744073709551616 = mh at *
   generalize m % 18446744073709551616 = ml at *
   generalize n / 18446744073709551616 = nh at *
   generalize n % 18446744073709551616 = nl at *
   generalize (if ml < nl + 0 then 1 else 0 : Nat) = bo at *
   generalize (ml + 18446744073709551616 - nl - 0) % 18446744073709551616 = lo at *
   generalize (mh + 18446744073709551616 - nh - bo) % 18446744073709551616 = hi at *
   generalize (if mh < nh + bo then 1 else 0 : Nat) = c2 at *
   refine ye2 func372 ntmps372 fun _ _ _=>?_
   repeat' (first | refine yz ?_ | refine yp b396 hl ?_ | refine go_callV rfl rfl rfl rfl rfl a1 rfl ?_ | refine go_callV rfl rfl rfl rfl rfl a2 rfl ?_ | exact zD)
theorem or_run (t : TypeId) (a b : Nat) (ha : a < 18446744073709551616) (hb : b < 18446744073709551616) (w : World) : (binOp .or t (.int .u64 (a : Int)) (.int .u64 (b : Int))).run E.P w = .ok (.int .u64 ((a ||| b : Nat) : Int)) w := by
 have h1 : BitVec.ofInt 64 (a : Int) = BitVec.ofNat 64 a := by simp
 have h2 : BitVec.ofInt 64 (b : Int) = BitVec.ofNat 64 b := by simp
 have hor : a ||| b < 18446744073709551616 := Nat.or_lt_two_pow (n := 64) ha hb
 have h3 : (BitVec.ofNat 64 a ||| BitVec.ofNat 64 b).toNat = a ||| b := by
  rw [BitVec.toNat_or, BitVec.toNat_ofNat, BitVec.toNat_ofNat, Nat.mod_eq_of_lt ha, Nat.mod_eq_of_lt hb]
 have hw : IntKind.u64.wrap ((a ||| b : Nat) : Int) = ((a ||| b : Nat) : Int) := inR_wrap (k := .u64) (by simp only [inR]; omega)
 show (Op.intBits .or .u64 (a : Int) (b : Int)).run E.P w = _
 simp only [Op.intBits]
 show (pure (Value.int .u64 (IntKind.u64.wrap (BitVec.ofInt 64 (a : Int) ||| BitVec.ofInt 64 (b : Int)).toNat)) : Sem Value).run E.P w = _
 rw [h1, h2, h3, hw]
 rfl
theorem wsign_ev (p : Bool) (m : Nat) (hm : m < 18446744073709551616 * 18446744073709551616) : Ev E 373 [wideD p m] (.d (.int (sgn (sv p m)))) := by
 have hr := or_run 277 (m / 18446744073709551616) (m % 18446744073709551616) (Nat.div_lt_of_lt_mul hm) (Nat.mod_lt _ (by omega))
 have hor : m / 18446744073709551616 ||| m % 18446744073709551616 < 18446744073709551616 := Nat.or_lt_two_pow (n := 64) (Nat.div_lt_of_lt_mul hm) (Nat.mod_lt _ (by omega))
 have hok : Go.Abs.okV (.int .u64 ((m / 18446744073709551616 ||| m % 18446744073709551616 : Nat) : Int)) = true := inR_ok (k := .u64) (by simp only [inR]; omega)
 by_cases h0 : m = 0
 ·subst h0
  have e : sgn (sv p 0) = 0 := by cases p <;> rfl
  rw [e]
  refine ye1 func373 ntmps373 fun _ _ _=>?_
  repeat' (first | refine yz ?_ | (refine go_binW _ rfl rfl rfl rfl rfl rfl hr hok ?_) | exact zD)
 ·have g1 : (((m / 18446744073709551616 ||| m % 18446744073709551616 : Nat) : Int) == 0) = false := by
   rw [beq_eq_false_iff_ne]
   intro h
   have h' : m / 18446744073709551616 ||| m % 18446744073709551616 = 0 := by omega
   rw [Nat.or_eq_zero_iff] at h'
   omega
  cases p with
  | true =>
   rw [sgn_neg (show sv true m < 0 by simp only [sv, cond_true]; omega)]
   refine ye1 func373 ntmps373 fun _ _ _=>?_
   repeat' (first | refine yz ?_ | (refine go_binW _ rfl rfl rfl rfl rfl rfl hr hok ?_) | exact zD)
  | false =>
   rw [sgn_pos (show sv false m > 0 by simp only [sv, cond_false]; omega)]
   refine ye1 func373 ntmps373 fun _ _ _=>?_
   repeat' (first | refine yz ?_ | (refine go_binW _ rfl rfl rfl rfl rfl rfl hr hok ?_) | exact zD)
theorem sv_mul (a b : Int) : sv (!(decide (a < 0) == decide (b < 0))) (a.natAbs * b.natAbs) = a * b := by
 have e : ((a.natAbs * b.natAbs : Nat) : Int) = (a.natAbs : Int) * b.natAbs := Int.natCast_mul _ _
 by_cases ha : a < 0 <;> by_cases hb : b < 0
 ·rw [show decide (a < 0) = true by simpa using ha, show decide (b < 0) = true by simpa using hb]
  show ((a.natAbs * b.natAbs : Nat) : Int) = _
  rw [e, show (a.natAbs : Int) = -a by omega, show (b.natAbs : Int) = -b by omega, Int.neg_mul_neg]
 ·rw [show decide (a < 0) = true by simpa using ha, show decide (b < 0) = false by simpa using hb]
  show -((a.natAbs * b.natAbs : Nat) : Int) = _
  rw [e, show (a.natAbs : Int) = -a by omega, show (b.natAbs : Int) = b by omega, Int.neg_mul, Int.neg_neg]
 ·rw [show decide (a < 0) = false by simpa using ha, show decide (b < 0) = true by simpa using hb]
  show -((a.natAbs * b.natAbs : Nat) : Int) = _
  rw [e, show (a.natAbs : Int) = a by omega, show (b.natAbs : Int) = -b by omega, Int.mul_neg, Int.neg_neg]
 ·rw [show decide (a < 0) = false by simpa using ha, show decide (b < 0) = false by simpa using hb]
  show ((a.natAbs * b.natAbs : Nat) : Int) = _
  rw [e, show (a.natAbs : Int) = a by omega, show (b.natAbs : Int) = b by omega]
theorem nat_mul_bnd {a b : Int} (ha : -1000000000000000 ≤ a ∧ a ≤ 1000000000000000) (hb : -1000000000000000 ≤ b ∧ b ≤ 1000000000000000) : a.natAbs * b.natAbs ≤ 1000000000000000000000000000000 := by
 have := Nat.mul_le_mul (show a.natAbs ≤ 1000000000000000 by omega) (show b.natAbs ≤ 1000000000000000 by omega)
 omega
theorem cmp_ev (an ad bn bd : Int) : Ev E 310 [.agg [.int an, .int ad], .agg [.int bn, .int bd]] (.d (.int (cmpQ an ad bn bd))) := by
 have h1 := fz_bnd an ad
 have h2 := fz_bnd bn bd
 have hva := fvalid_ev an ad
 have hvb := fvalid_ev bn bd
 have key : ∀ n d n' d' : Int, (-1000000000000000 ≤ n ∧ n ≤ 1000000000000000) → (1 ≤ d ∧ d ≤ 1000000000000000) → (-1000000000000000 ≤ n' ∧ n' ≤ 1000000000000000) → (1 ≤ d' ∧ d' ≤ 1000000000000000) →
   ∃ (p q r : Bool) (m m' m'' : Nat), Ev E 371 [.int n, .int d'] (.d (wideD p m)) ∧ Ev E 371 [.int (0 - n'), .int d] (.d (wideD q m')) ∧ Ev E 372 [wideD p m, wideD q m'] (.d (wideD r m'')) ∧ Ev E 373 [wideD r m''] (.d (.int (sgn (n * d' - n' * d)))) := by
  intro n d n' d' hn hd hn' hd'
  have b1 := nat_mul_bnd (a := n) (b := d') hn (by omega)
  have b2 := nat_mul_bnd (a := 0 - n') (b := d) (by omega) (by omega)
  refine ⟨_, _, _, _, _, _, product_ev n d', product_ev (0 - n') d, wplus_ev _ _ _ _ b1 b2, ?_⟩
  have hle := wsum_le (!(decide (n < 0) == decide (d' < 0))) (!(decide (0 - n' < 0) == decide (d < 0))) (n.natAbs * d'.natAbs) ((0 - n').natAbs * d.natAbs)
  have hs := wsign_ev (wsum (!(decide (n < 0) == decide (d' < 0))) (!(decide (0 - n' < 0) == decide (d < 0))) (n.natAbs * d'.natAbs) ((0 - n').natAbs * d.natAbs)).1 _ (Nat.lt_of_le_of_lt hle (by omega))
  rw [wsum_sv, sv_mul, sv_mul, Int.zero_sub, Int.neg_mul, ← Int.sub_eq_add_neg, ← Int.zero_sub n'] at hs
  exact hs
 obtain ⟨p, q, r, m, m', m'', e1, e2, e3, e4⟩ := key (fzn an ad) (fzd an ad) (fzn bn bd) (fzd bn bd) (by omega) (by omega) (by omega) (by omega)
 unfold cmpQ
 generalize hres : (fzn an ad * fzd bn bd - fzn bn bd * fzd an ad) = res at *
 clear hres key
 cases ha : fval an ad <;> cases hb : fval bn bd
 all_goals
  rw [ha] at hva
  rw [hb] at hvb
  simp only [fzn, fzd, ha, hb, cond_true, cond_false] at e1 e2 h1 h2
  refine ye2 func310 ntmps310 fun _ _ _=>?_
  repeat' (first | refine yz ?_ | refine yp b367 hva ?_ | refine yp b367 hvb ?_ | refine qP (d := 17) rfl rfl rfl rfl rfl rfl b371 (e1) ?_ | refine yp b371 e2 ?_ | refine yp b372 e3 ?_ | refine yp b373 e4 ?_ | exact zD)
end Go.Proofs.YtenpjlghikohmaaGreatDoor
namespace Go.Proofs.YtenpjlghikohmaaGreatDoor
set_option maxRecDepth 4000
open Go Go.Abs Go.Val Go.RowKit Go.Proofs.Tryz
def bs (l : List UInt8) : ByteArray := ⟨l.toArray⟩
end Go.Proofs.YtenpjlghikohmaaGreatDoor
namespace Go.Proofs.YtenpjlghikohmaaGreatDoor
open Go Go.Abs Go.Val Go.RowKit Go.Proofs.Tryz
attribute [local irreducible] go SGo HasBody Ev ExtEv
theorem itoa_len {n : Int} (h : inR .i64 n) : (Lib.itoa n).length ≤ 21 := Lib.itoa_length_le n h.1 h.2
end Go.Proofs.YtenpjlghikohmaaGreatDoor
namespace Go.Proofs.YtenpjlghikohmaaGreatDoor
set_option maxRecDepth 4000
open Go Go.Abs Go.Val Go.RowKit Go.Proofs.Tryz
theorem okV_k {v : V} (h : Val.okV v = true) : v.k = 0 ∨ v.k = 1 ∨ v.k = 2 ∨ v.k = 3 ∨ v.k = 4 ∨ v.k = 5 ∨ v.k = 6 ∨ v.k = 7 ∨ v.k = 8 := by
 unfold Val.okV at h
 simp only [okN, okFlat, Bool.or_eq_true, Bool.and_eq_true, beq_iff_eq] at h
 omega
end Go.Proofs.YtenpjlghikohmaaGreatDoor
namespace Go.Proofs.YtenpjlghikohmaaGreatDoor
open Go Go.Abs Go.Val Go.RowKit Go.Proofs.Tryz
attribute [local irreducible] go SGo HasBody Ev ExtEv
set_option maxRecDepth 4000
end Go.Proofs.YtenpjlghikohmaaGreatDoor
namespace Go.Proofs.YtenpjlghikohmaaGreatDoor
set_option maxRecDepth 4000
open Go Go.Abs Go.Val Go.Proofs.Tryz
open Go.RowKit
attribute [local irreducible] Ev EvO ExtEv HasBody SGo go
mutual
def nar : V → Bool
 | .mk _ _ _ _ l => decide (l.length ≤ 2000000) && narL l
def narL : List V → Bool
 | [] => true
 | v :: r => nar v && narL r
end
theorem narL_mem : ∀ {l : List V}, narL l = true → ∀ x ∈ l, nar x = true
 | [], _, x, h => by simp at h
 | v :: r, h, x, hx => by
  simp only [narL, Bool.and_eq_true] at h
  rcases List.mem_cons.1 hx with e | e
  ·rw [e]; exact h.1
  ·exact narL_mem h.2 x e
theorem nar_l {v : V} (h : nar v = true) : v.l.length ≤ 2000000 ∧ narL v.l = true := by
 cases v
 simpa [nar, V.l] using h
theorem clone0_ev : Ev E 314 [.sl []] (.d (.sl [])) := by
 refine ye1 func314 ntmps314 fun _ _ _=>?_
 repeat' (first | refine yz ?_ | (refine go_condm rfl (fun _ => ?_) ?_) | refine go_append0 rfl rfl rfl rfl rfl rfl rfl rfl ?_ | refine yx ?_ | (refine yy ?_ ?_ <;> intro _) | exact zD | exact zL)
theorem encL_cells (l : List V) : ∀ d ∈ encL l, d.cells.length = 5 := fun d hd => by
 rw [encL_map] at hd
 obtain ⟨u, -, rfl⟩ := List.mem_map.1 hd
 rfl
theorem clone_ev (l : List V) (h0 : l ≠ []) (hn : l.length ≤ 2000000) : EvO E 314 [.sl (encL l)] 56 5 (encL l) := by
 have hle : (encL l).length = l.length := encL_len _
 have hne : encL l ≠ [] := by rw [encL_map]; simpa using h0
 refine enterO1 func314 ntmps314 rfl rfl fun w0 F0 O => ?_
 repeat' (first | refine go_buildOwn rfl rfl rfl rfl rfl rfl rfl (by decide) (by decide) ?_ | refine yz ?_ | (refine go_condm rfl (fun h => absurd h hne) ?_) | refine yx ?_ | (refine yy ?_ ?_ <;> intro _) | exact zD | exact zL)
 refine qS rfl ⟨hne, encL_cells l, by (show (0 + (encL l).length) * 64 ≤ 140737488355328; omega), by (show 0 + (encL l).length ≤ 9223372036854775807; omega)⟩ ?_
 repeat' (first | refine yz ?_ | refine yx ?_ | (refine yy ?_ ?_ <;> intro _) | exact zD | exact zL)
mutual
def cost : V → Nat
 | .mk _ _ _ s l => 1 + s.size / 50 + costL l
def costL : List V → Nat
 | [] => 0
 | v :: r => cost v + costL r
end
theorem cost_eq (v : V) : cost v = 1 + v.s.size / 50 + costL v.l := by cases v; simp [cost, V.s, V.l]
theorem weighL_cost (f : V → Int → Int) : ∀ (l : List V), (∀ x ∈ l, ∀ left, 0 ≤ f x left → (cost x : Int) + f x left ≤ left) → ∀ left, 0 ≤ weighL f l left → (costL l : Int) + weighL f l left ≤ left
 | [], _, left, h => by simp [weighL, costL]
 | x :: r, hf, left, h => by
  simp only [weighL] at h ⊢
  cases hd : decide (left ≥ 0) with
  | false =>
   rw [hd] at h
   simp only [cond_false] at h
   have := of_decide_eq_false hd
   omega
  | true =>
   rw [hd] at h
   simp only [cond_true] at h ⊢
   have ih := weighL_cost f r (fun y hy => hf y (by simp [hy])) (f x left) h
   have hx := hf x (by simp) left (by omega)
   simp only [costL]
   omega
theorem weighF_cost : ∀ (m : Nat) (v : V) (left : Int), 0 ≤ weighF m v left → (cost v : Int) + weighF m v left ≤ left
 | 0, v, left, h => by simp only [weighF] at h; omega
 | m + 1, v, left, h => by
  simp only [weighF] at h ⊢
  have := weighL_cost (weighF m) v.l (fun x _ l hl => weighF_cost m x l hl) _ h
  rw [cost_eq]
  have e : (v.s.size : Int).tdiv 50 = ((v.s.size / 50 : Nat) : Int) := by rw [Int.tdiv_eq_ediv_of_nonneg (by omega)]; rfl
  rw [e] at this ⊢
  omega
theorem costL_len : ∀ l : List V, l.length ≤ costL l
 | [] => Nat.le_refl _
 | v :: r => by
  have := costL_len r
  have := cost_eq v
  simp only [costL, List.length_cons]
  omega
theorem nar_cost (v : V) : cost v ≤ 1000000 → nar v = true := by
 refine vind (P := fun v => cost v ≤ 1000000 → nar v = true) (fun k n d s l ih h => ?_) v
 have hl : ∀ l : List V, (∀ x ∈ l, cost x ≤ 1000000 → nar x = true) → costL l ≤ 1000000 → narL l = true := by
  intro l
  induction l with
  | nil => intro _ _; simp [narL]
  | cons a r ihr =>
   intro hx hc
   simp only [costL] at hc
   simp only [narL, Bool.and_eq_true]
   exact ⟨hx a (by simp) (by omega), ihr (fun x hm => hx x (by simp [hm])) (by omega)⟩
 simp only [cost] at h
 have := costL_len l
 simp only [nar, Bool.and_eq_true, decide_eq_true_eq]
 exact ⟨by omega, hl l ih (by omega)⟩
end Go.Proofs.YtenpjlghikohmaaGreatDoor
namespace Go.Proofs.YtenpjlghikohmaaGreatDoor
set_option maxRecDepth 4000
open Go Go.Abs Go.Val Go.RowKit Go.Proofs.Tryz
attribute [local irreducible] go SGo HasBody Ev ExtEv EvO
def ci (x y : Int) : Int := Lib.compareInt x y
theorem ci_lt {x y : Int} (h : x < y) : ci x y = -1 := by unfold ci Lib.compareInt; rw [if_pos h]
theorem ci_gt {x y : Int} (h : x > y) : ci x y = 1 := by unfold ci Lib.compareInt; rw [if_neg (by omega), if_pos h]
theorem ci_eq (x : Int) : ci x x = 0 := by unfold ci Lib.compareInt; rw [if_neg (by omega), if_neg (by omega)]
def cs (a b : ByteArray) : Int := bif Op.bytesLess a.toList b.toList then -1 else bif (Op.bytesLess a.toList b.toList || a.toList == b.toList) then 0 else 1
def orI (x y : Int) : Int := bif x != 0 then x else y
theorem ints_ev (x y : Int) : Ev E 199 [.int x, .int y] (.d (.int (ci x y))) := by
 rcases (show x < y ∨ x = y ∨ x > y by omega) with h | h | h
 ·rw [ci_lt h]
  have g1 : decide (x < y) = true := by simpa using h
  refine ye2 func199 ntmps199 fun _ _ _=>?_
  repeat' (first | refine yz ?_ | refine yx ?_ | (refine yy ?_ ?_ <;> intro _) | exact zD | exact zL)
 ·subst h
  rw [ci_eq]
  have g1 : decide (x < x) = false := by simp
  have g2 : decide (x > x) = false := by simp
  refine ye2 func199 ntmps199 fun _ _ _=>?_
  repeat' (first | refine yz ?_ | refine yx ?_ | (refine yy ?_ ?_ <;> intro _) | exact zD | exact zL)
 ·rw [ci_gt h]
  have g1 : decide (x < y) = false := by simp; omega
  have g2 : decide (x > y) = true := by simpa using h
  refine ye2 func199 ntmps199 fun _ _ _=>?_
  repeat' (first | refine yz ?_ | refine yx ?_ | (refine yy ?_ ?_ <;> intro _) | exact zD | exact zL)
theorem strs_ev (a b : ByteArray) : Ev E 269 [.str a, .str b] (.d (.int (cs a b))) := by
 unfold cs
 cases h1 : Op.bytesLess a.toList b.toList with
 | true =>
  refine ye2 func269 ntmps269 fun _ _ _=>?_
  repeat' (first | refine yz ?_ | refine yx ?_ | (refine yy ?_ ?_ <;> intro _) | exact zD | exact zL)
 | false =>
  cases h2 : a.toList == b.toList with
  | true =>
   have g2 : (!(Op.bytesLess a.toList b.toList || a.toList == b.toList)) = false := by rw [h1, h2]; rfl
   refine ye2 func269 ntmps269 fun _ _ _=>?_
   repeat' (first | refine yz ?_ | refine yx ?_ | (refine yy ?_ ?_ <;> intro _) | exact zD | exact zL)
  | false =>
   have g2 : (!(Op.bytesLess a.toList b.toList || a.toList == b.toList)) = true := by rw [h1, h2]; rfl
   refine ye2 func269 ntmps269 fun _ _ _=>?_
   repeat' (first | refine yz ?_ | refine yx ?_ | (refine yy ?_ ?_ <;> intro _) | exact zD | exact zL)
theorem nanS_ev (a : ByteArray) : Ev E 311 [.str a] (.d (.bool false)) := by
 have h : (!(a.toList == a.toList)) = false := by simp
 rw [← h]
 refine ye1 func311 ntmps311 fun _ _ _=>?_
 repeat' (first | refine yz ?_ | refine yx ?_ | (refine yy ?_ ?_ <;> intro _) | exact zD | exact zL)
theorem compareS_ev (a b : ByteArray) : Ev E 234 [.str a, .str b] (.d (.int (cs a b))) := by
 unfold cs
 cases h1 : Op.bytesLess a.toList b.toList with
 | true =>
  refine ye2 func234 ntmps234 fun _ _ _=>?_
  repeat' (first | refine yz ?_ | refine yp b311 (nanS_ev _) ?_ | refine yx ?_ | (refine yy ?_ ?_ <;> intro _) | exact zD | exact zL)
 | false =>
  cases h2 : a.toList == b.toList with
  | true =>
   have g2 : (!(Op.bytesLess a.toList b.toList || a.toList == b.toList)) = false := by rw [h1, h2]; rfl
   refine ye2 func234 ntmps234 fun _ _ _=>?_
   repeat' (first | refine yz ?_ | refine yp b311 (nanS_ev _) ?_ | refine yx ?_ | (refine yy ?_ ?_ <;> intro _) | exact zD | exact zL)
  | false =>
   have g2 : (!(Op.bytesLess a.toList b.toList || a.toList == b.toList)) = true := by rw [h1, h2]; rfl
   refine ye2 func234 ntmps234 fun _ _ _=>?_
   repeat' (first | refine yz ?_ | refine yp b311 (nanS_ev _) ?_ | refine yx ?_ | (refine yy ?_ ?_ <;> intro _) | exact zD | exact zL)
def orL : List Int → Int
 | [] => 0
 | x :: r => orI x (orL r)
structure SOr (l : List Int) where
 i : Nat
 hi : i ≤ l.length
 ok : orL l = orL (l.drop i)
theorem or_ev2 (l : List Int) : Ev E 233 [.sl (encI l)] (.d (.int (orL l))) := Ev.fit fun hfit => by
 have hmax := ((hfit (.sl (encI l)) (by simp)).sls).1
 rw [encI_len] at hmax
 have hle : (encI l).length = l.length := encI_len l
 refine ye1 func233 ntmps233 fun _ _ _=>?_
 repeat' (first | refine yz ?_ | refine yx ?_ | (refine yy ?_ ?_ <;> intro _) | exact zD | exact zL)
 refine go_loop_ (α := SOr l) (fun p => ⟨[(3, .d (.int 0)), (6, .d (.sl (encI l))), (7, .d (.int (encI l).length)), (8, .d (.int p.i))], []⟩) (fun p => l.length - p.i) ⟨0, by omega, rfl⟩ (zle 0) ?_
 rintro ⟨i, hi, ok⟩
 dsimp only
 rcases Nat.lt_or_ge i l.length with hlt | hge
 ·have g1 : decide ((i : Int) < ((encI l).length : Int)) = true := by rw [hle]; simpa using hlt
  have hx0 := List.getElem?_eq_getElem hlt
  generalize l[i] = x at hx0
  have hx : (encI l)[(i : Int).toNat]? = some (.int x) := encI_get (by rw [Int.toNat_natCast]; exact hx0)
  rw [ok, drop_at hx0]
  simp only [orL, orI]
  cases h : x != 0 with
  | true =>
   repeat' (first | refine yz ?_ | refine yi (.int x) hx ?_ | refine yx ?_ | (refine yy ?_ ?_ <;> intro _) | exact zD | exact zL)
  | false =>
   repeat' (first | refine yz ?_ | refine yi (.int x) hx ?_ | refine yx ?_ | (refine yy ?_ ?_ <;> intro _) | exact zD | exact zL)
   refine go_stop ?_
   exact ⟨⟨i + 1, by omega, by rw [ok, drop_at hx0]; simp only [orL, orI]; rw [h]; rfl⟩, by dsimp only; omega, (zle 0)⟩
 ·have g1 : decide ((i : Int) < ((encI l).length : Int)) = false := by rw [hle]; simp; omega
  have : l.drop i = [] := List.drop_eq_nil_of_le hge
  rw [ok, this]
  repeat' (first | refine yz ?_ | refine yx ?_ | (refine yy ?_ ?_ <;> intro _) | exact zD | exact zL)
def cmpL (g : V → V → Int) : List V → List V → Int
 | [], [] => 0
 | [], _ :: _ => -1
 | _ :: _, [] => 1
 | x :: r, y :: q => orI (g x y) (cmpL g r q)
theorem cmpL_nil (g : V → V → Int) (a b : List V) (h : a = [] ∨ b = []) : cmpL g a b = ci a.length b.length := by
 cases a with
 | nil =>
  cases b with
  | nil => exact (ci_eq 0).symm
  | cons y q => simp only [cmpL]; rw [ci_lt (by simp only [List.length_nil, List.length_cons]; omega)]
 | cons x r =>
  cases b with
  | nil => simp only [cmpL]; rw [ci_gt (by simp only [List.length_nil, List.length_cons]; omega)]
  | cons y q => rcases h with h | h <;> cases h
structure SCF (g : V → V → Int) (a b : List V) where
 i : Nat
 hi : i ≤ a.length
 hj : i ≤ b.length
 ok : cmpL g a b = cmpL g (a.drop i) (b.drop i)
theorem compareFunc_ev (f : FuncId) (hb : HasBody E f) (g : V → V → Int) (a b : List V) (hf : ∀ x ∈ a, ∀ y ∈ b, Ev E f [enc x, enc y] (.d (.int (g x y)))) :
  Ev E 235 [.sl (encL a), .sl (encL b), .imm (.func (.func f) #[] #[])] (.d (.int (cmpL g a b))) := Ev.fit fun hfit => by
 obtain ⟨hma, -⟩ := fit_encL (hfit (.sl (encL a)) (by simp))
 have hla : (encL a).length = a.length := encL_len a
 have hlb : (encL b).length = b.length := encL_len b
 refine ye3 func235 ntmps235 fun _ _ _=>?_
 repeat' (first | refine yz ?_ | refine yx ?_ | (refine yy ?_ ?_ <;> intro _) | exact zD | exact zL)
 refine go_loop_ (α := SCF g a b) (fun p => ⟨[(0, .d (.sl (encL a))), (1, .d (.sl (encL b))), (2, .d (.imm (.func (.func f) #[] #[]))), (11, .d (.sl (encL a))), (12, .d (.int (encL a).length)), (13, .d (.int p.i))], []⟩) (fun p => a.length - p.i) ⟨0, by omega, by omega, rfl⟩ (zle 0) ?_
 rintro ⟨i, hi, hj, ok⟩
 dsimp only
 rcases Nat.lt_or_ge i a.length with hlt | hge
 ·have g1 : decide ((i : Int) < ((encL a).length : Int)) = true := by rw [hla]; simpa using hlt
  have hx0 := List.getElem?_eq_getElem hlt
  generalize a[i] = x at hx0
  have hx : (encL a)[(i : Int).toNat]? = some (enc x) := encL_get (by rw [Int.toNat_natCast]; exact hx0)
  rcases Nat.lt_or_ge i b.length with hltb | hgeb
  ·have g2 : decide ((i : Int) ≥ ((encL b).length : Int)) = false := by rw [hlb]; simpa using hltb
   have hy0 := List.getElem?_eq_getElem hltb
   generalize b[i] = y at hy0
   have hy : (encL b)[(i : Int).toNat]? = some (enc y) := encL_get (by rw [Int.toNat_natCast]; exact hy0)
   have hxy := hf x (List.mem_of_getElem? hx0) y (List.mem_of_getElem? hy0)
   rw [ok, drop_at hx0, drop_at hy0]
   simp only [cmpL, orI]
   cases h : g x y != 0 with
   | true =>
    repeat' (first | refine yz ?_ | refine yi (enc x) hx ?_ | refine yi (enc y) hy ?_ | refine yp hb hxy ?_ | refine yx ?_ | (refine yy ?_ ?_ <;> intro _) | exact zD | exact zL)
   | false =>
    repeat' (first | refine yz ?_ | refine yi (enc x) hx ?_ | refine yi (enc y) hy ?_ | refine yp hb hxy ?_ | refine yx ?_ | (refine yy ?_ ?_ <;> intro _) | exact zD | exact zL)
    refine go_stop ?_
    exact ⟨⟨i + 1, by omega, by omega, by rw [ok, drop_at hx0, drop_at hy0]; simp only [cmpL, orI]; rw [h]; rfl⟩, by dsimp only; omega, (zle 0)⟩
  ·have g2 : decide ((i : Int) ≥ ((encL b).length : Int)) = true := by rw [hlb]; simp; omega
   rw [ok, drop_at hx0, List.drop_eq_nil_of_le hgeb]
   repeat' (first | refine yz ?_ | refine yi (enc x) hx ?_ | refine yx ?_ | (refine yy ?_ ?_ <;> intro _) | exact zD | exact zL)
 ·have g1 : decide ((i : Int) < ((encL a).length : Int)) = false := by rw [hla]; simp; omega
  have hia : i = a.length := by omega
  rcases Nat.lt_or_ge i b.length with hltb | hgeb
  ·have g2 : decide (((encL a).length : Int) < ((encL b).length : Int)) = true := by rw [hla, hlb, decide_eq_true_eq]; omega
   rw [ok, List.drop_eq_nil_of_le hge, List.drop_eq_getElem_cons hltb]
   repeat' (first | refine yz ?_ | refine yx ?_ | (refine yy ?_ ?_ <;> intro _) | exact zD | exact zL)
  ·have g2 : decide (((encL a).length : Int) < ((encL b).length : Int)) = false := by rw [hla, hlb, decide_eq_false_iff_not]; omega
   rw [ok, List.drop_eq_nil_of_le hge, List.drop_eq_nil_of_le hgeb]
   repeat' (first | refine yz ?_ | refine yx ?_ | (refine yy ?_ ?_ <;> intro _) | exact zD | exact zL)
def rcls (k : Int) : Int := bif k == 0 then 0 else bif k == 1 then 1 else bif k == 2 || k == 3 then 2 else bif k == 4 then 3 else bif k == 5 then 4 else bif k == 6 then 5 else bif k == 8 then 6 else 7
def headO (a b : V) (t : Int) : Int := orI (ci a.k b.k) (orI (ci a.n b.n) (orI (ci a.d b.d) (orI (cs a.s b.s) t)))
def stepO (a b : V) (t : Int) : Int :=
 bif Val.okV a != Val.okV b then 1 - tt (Val.okV a) else
 bif !Val.okV a then headO a b t else
 bif ci (rcls a.k) (rcls b.k) != 0 then ci (rcls a.k) (rcls b.k) else
 bif isNum a then cmpQ (numN a) (numD a) (numN b) (numD b) else headO a b t
mutual
def ordF : V → V → Int
 | .mk k n d s l, b => stepO (.mk k n d s l) b (ordL l b.l)
def ordL : List V → List V → Int
 | [], [] => 0
 | [], _ :: _ => -1
 | _ :: _, [] => 1
 | x :: r, y :: q => orI (ordF x y) (ordL r q)
end
theorem ordL_eq : ∀ a b : List V, ordL a b = cmpL ordF a b
 | [], [] => by simp [ordL, cmpL]
 | [], _ :: _ => by simp [ordL, cmpL]
 | _ :: _, [] => by simp [ordL, cmpL]
 | x :: r, y :: q => by simp only [ordL, cmpL, ordL_eq r q]
theorem ordF_eq (a b : V) : ordF a b = stepO a b (cmpL ordF a.l b.l) := by
 cases a
 simp only [ordF, ordL_eq, V.l]
theorem rclass_ev (k : Int) : Ev E 200 [.int k] (.d (.int (rcls k))) := by
 unfold rcls
 cases h0 : k == 0 with
 | true =>
  refine ye1 func200 ntmps200 fun _ _ _=>?_
  repeat' (first | refine yz ?_ | refine yx ?_ | (refine yy ?_ ?_ <;> intro _) | exact zD | exact zL)
 | false =>
 cases h1 : k == 1 with
 | true =>
  refine ye1 func200 ntmps200 fun _ _ _=>?_
  repeat' (first | refine yz ?_ | refine yx ?_ | (refine yy ?_ ?_ <;> intro _) | exact zD | exact zL)
 | false =>
 cases h2 : k == 2 with
 | true =>
  refine ye1 func200 ntmps200 fun _ _ _=>?_
  repeat' (first | refine yz ?_ | refine yx ?_ | (refine yy ?_ ?_ <;> intro _) | exact zD | exact zL)
 | false =>
 cases h3 : k == 3 with
 | true =>
  refine ye1 func200 ntmps200 fun _ _ _=>?_
  repeat' (first | refine yz ?_ | refine yx ?_ | (refine yy ?_ ?_ <;> intro _) | exact zD | exact zL)
 | false =>
 cases h4 : k == 4 with
 | true =>
  refine ye1 func200 ntmps200 fun _ _ _=>?_
  repeat' (first | refine yz ?_ | refine yx ?_ | (refine yy ?_ ?_ <;> intro _) | exact zD | exact zL)
 | false =>
 cases h5 : k == 5 with
 | true =>
  refine ye1 func200 ntmps200 fun _ _ _=>?_
  repeat' (first | refine yz ?_ | refine yx ?_ | (refine yy ?_ ?_ <;> intro _) | exact zD | exact zL)
 | false =>
 cases h6 : k == 6 with
 | true =>
  refine ye1 func200 ntmps200 fun _ _ _=>?_
  repeat' (first | refine yz ?_ | refine yx ?_ | (refine yy ?_ ?_ <;> intro _) | exact zD | exact zL)
 | false =>
 cases h8 : k == 8 with
 | true =>
  refine ye1 func200 ntmps200 fun _ _ _=>?_
  repeat' (first | refine yz ?_ | refine yx ?_ | (refine yy ?_ ?_ <;> intro _) | exact zD | exact zL)
 | false =>
  refine ye1 func200 ntmps200 fun _ _ _=>?_
  repeat' (first | refine yz ?_ | refine yx ?_ | (refine yy ?_ ?_ <;> intro _) | exact zD | exact zL)
theorem lists_ev (a b : List V) (hf : ∀ x ∈ a, ∀ y ∈ b, Ev E 116 [enc x, enc y] (.d (.int (ordF x y)))) : Ev E 270 [.sl (encL a), .sl (encL b)] (.d (.int (cmpL ordF a b))) := Ev.fit fun hfit => by
 obtain ⟨hma, -⟩ := fit_encL (hfit (.sl (encL a)) (by simp))
 obtain ⟨hmb, -⟩ := fit_encL (hfit (.sl (encL b)) (by simp))
 have hla : (encL a).length = a.length := encL_len a
 have hlb : (encL b).length = b.length := encL_len b
 refine ye2 func270 ntmps270 fun _ _ _=>?_
 repeat' (first | refine yz ?_ | refine yx ?_ | (refine yy ?_ ?_ <;> intro _) | exact zD | exact zL)
 refine go_loop_ (α := SCF ordF a b) (fun p => ⟨[(0, .d (.sl (encL a))), (1, .d (.sl (encL b))), (5, .d (.int p.i))], []⟩) (fun p => a.length - p.i) ⟨0, by omega, by omega, rfl⟩ (zle 0) ?_
 rintro ⟨i, hi, hj, ok⟩
 dsimp only
 have hend : (i = a.length ∨ i = b.length) → cmpL ordF a b = ci ((encL a).length : Int) ((encL b).length : Int) := by
  intro h
  rw [ok, cmpL_nil]
  ·rw [hla, hlb]
   rcases (show (a.length : Int) < b.length ∨ (a.length : Int) = b.length ∨ (a.length : Int) > b.length by omega) with h' | h' | h'
   ·rw [ci_lt h', ci_lt (by simp only [List.length_drop]; omega)]
   ·rw [h', ci_eq, show ((a.drop i).length : Int) = ((b.drop i).length : Int) by simp only [List.length_drop]; omega, ci_eq]
   ·rw [ci_gt h', ci_gt (by simp only [List.length_drop]; omega)]
  ·rcases h with h | h
   ·exact .inl (List.drop_eq_nil_of_le (by omega))
   ·exact .inr (List.drop_eq_nil_of_le (by omega))
 have hin := ints_ev ((encL a).length : Int) ((encL b).length : Int)
 rcases Nat.lt_or_ge i a.length with hlt | hge
 ·have g1 : decide ((i : Int) < ((encL a).length : Int)) = true := by rw [hla]; simpa using hlt
  rcases Nat.lt_or_ge i b.length with hltb | hgeb
  ·have g2 : decide ((i : Int) < ((encL b).length : Int)) = true := by rw [hlb]; simpa using hltb
   have hx0 := List.getElem?_eq_getElem hlt
   generalize a[i] = x at hx0
   have hx : (encL a)[(i : Int).toNat]? = some (enc x) := encL_get (by rw [Int.toNat_natCast]; exact hx0)
   have hy0 := List.getElem?_eq_getElem hltb
   generalize b[i] = y at hy0
   have hy : (encL b)[(i : Int).toNat]? = some (enc y) := encL_get (by rw [Int.toNat_natCast]; exact hy0)
   have hxy := hf x (List.mem_of_getElem? hx0) y (List.mem_of_getElem? hy0)
   rw [ok, drop_at hx0, drop_at hy0]
   simp only [cmpL, orI]
   cases h : ordF x y != 0 with
   | true =>
    repeat' (first | refine yz ?_ | refine yi (enc x) hx ?_ | refine yi (enc y) hy ?_ | refine yp b116 hxy ?_ | refine yx ?_ | (refine yy ?_ ?_ <;> intro _) | exact zD | exact zL)
   | false =>
    repeat' (first | refine yz ?_ | refine yi (enc x) hx ?_ | refine yi (enc y) hy ?_ | refine yp b116 hxy ?_ | refine yx ?_ | (refine yy ?_ ?_ <;> intro _) | exact zD | exact zL)
    refine go_stop ?_
    exact ⟨⟨i + 1, by omega, by omega, by rw [ok, drop_at hx0, drop_at hy0]; simp only [cmpL, orI]; rw [h]; rfl⟩, by dsimp only; omega, (zle 0)⟩
  ·have g2 : decide ((i : Int) < ((encL b).length : Int)) = false := by rw [hlb]; simp; omega
   rw [hend (.inr (by omega))]
   repeat' (first | refine yz ?_ | refine yp b199 hin ?_ | refine yx ?_ | (refine yy ?_ ?_ <;> intro _) | exact zD | exact zL)
 ·have g1 : decide ((i : Int) < ((encL a).length : Int)) = false := by rw [hla]; simp; omega
  rw [hend (.inl (by omega))]
  repeat' (first | refine yz ?_ | refine yp b199 hin ?_ | refine yx ?_ | (refine yy ?_ ?_ <;> intro _) | exact zD | exact zL)
theorem fields_ev (a b : V) (hf : ∀ x ∈ a.l, ∀ y ∈ b.l, Ev E 116 [enc x, enc y] (.d (.int (ordF x y)))) : Ev E 198 [enc a, enc b] (.d (.int (headO a b (cmpL ordF a.l b.l)))) := by
 have hl := lists_ev a.l b.l hf
 rw [encL_map, encL_map, ← kids_eq, ← kids_eq] at hl
 unfold headO orI
 cases h1 : ci a.k b.k != 0 with
 | true =>
  refine ye2 func198 ntmps198 fun _ _ _=>?_
  repeat' (first | refine yz ?_ | refine yp b199 (ints_ev _ _) ?_ | refine yx ?_ | (refine yy ?_ ?_ <;> intro _) | exact zD | exact zL)
 | false =>
 cases h2 : ci a.n b.n != 0 with
 | true =>
  refine ye2 func198 ntmps198 fun _ _ _=>?_
  repeat' (first | refine yz ?_ | refine yp b199 (ints_ev _ _) ?_ | refine yx ?_ | (refine yy ?_ ?_ <;> intro _) | exact zD | exact zL)
 | false =>
 cases h3 : ci a.d b.d != 0 with
 | true =>
  refine ye2 func198 ntmps198 fun _ _ _=>?_
  repeat' (first | refine yz ?_ | refine yp b199 (ints_ev _ _) ?_ | refine yx ?_ | (refine yy ?_ ?_ <;> intro _) | exact zD | exact zL)
 | false =>
 cases h4 : cs a.s b.s != 0 with
 | true =>
  refine ye2 func198 ntmps198 fun _ _ _=>?_
  repeat' (first | refine yz ?_ | refine yp b199 (ints_ev _ _) ?_ | refine yp b269 (strs_ev _ _) ?_ | refine yx ?_ | (refine yy ?_ ?_ <;> intro _) | exact zD | exact zL)
 | false =>
  refine ye2 func198 ntmps198 fun _ _ _=>?_
  repeat' (first | refine yz ?_ | refine yp b199 (ints_ev _ _) ?_ | refine yp b269 (strs_ev _ _) ?_ | refine yp b270 hl ?_ | refine yx ?_ | (refine yy ?_ ?_ <;> intro _) | exact zD | exact zL)
theorem rOrder_ev (a : V) : ∀ b : V, Ev E 116 [enc a, enc b] (.d (.int (ordF a b))) := by
 refine vind (P := fun a => ∀ b : V, Ev E 116 [enc a, enc b] (.d (.int (ordF a b)))) (fun k n d s l ih b => ?_) a
 have hfl := fields_ev (.mk k n d s l) b (fun x hx y _ => ih x hx y)
 rw [ordF_eq]
 generalize V.mk k n d s l = a at *
 clear ih
 have va := RValid_ev a
 have vb := RValid_ev b
 have na := RNumber_ev a
 have nb := RNumber_ev b
 have hc := rcmp_ev (numN a) (numD a) (numN b) (numD b)
 have hcl := ints_ev (rcls a.k) (rcls b.k)
 unfold stepO
 cases h1 : Val.okV a != Val.okV b with
 | true =>
  have hy := yes_ev (Val.okV a)
  have htt : 0 ≤ tt (Val.okV a) ∧ tt (Val.okV a) ≤ 2 := by cases Val.okV a <;> decide
  refine ye2 func116 ntmps116 fun _ _ _=>?_
  repeat' (first | refine yz ?_ | refine yp b196 va ?_ | refine yp b196 vb ?_ | refine yp b197 hy ?_ | refine yx ?_ | (refine yy ?_ ?_ <;> intro _) | exact zD | exact zL)
 | false =>
 cases h2 : Val.okV a with
 | false =>
  have g2 : (!Val.okV a) = true := by rw [h2]; rfl
  refine ye2 func116 ntmps116 fun _ _ _=>?_
  repeat' (first | refine yz ?_ | refine yp b196 va ?_ | refine yp b196 vb ?_ | refine yp b198 hfl ?_ | refine yx ?_ | (refine yy ?_ ?_ <;> intro _) | exact zD | exact zL)
 | true =>
 have g2 : (!Val.okV a) = false := by rw [h2]; rfl
 cases h3 : ci (rcls a.k) (rcls b.k) != 0 with
 | true =>
  refine ye2 func116 ntmps116 fun _ _ _=>?_
  repeat' (first | refine yz ?_ | refine yp b196 va ?_ | refine yp b196 vb ?_ | refine yp b200 (rclass_ev _) ?_ | refine yp b199 hcl ?_ | refine yx ?_ | (refine yy ?_ ?_ <;> intro _) | exact zD | exact zL)
 | false =>
 cases h4 : isNum a with
 | true =>
  refine ye2 func116 ntmps116 fun _ _ _=>?_
  repeat' (first | refine yz ?_ | refine yp b196 va ?_ | refine yp b196 vb ?_ | refine yp b200 (rclass_ev _) ?_ | refine yp b199 hcl ?_ | refine qP (d := 39) rfl rfl rfl rfl rfl rfl b201 (na) ?_ | refine yp b201 nb ?_ | refine yp b202 hc ?_ | refine yx ?_ | (refine yy ?_ ?_ <;> intro _) | exact zD | exact zL)
 | false =>
  refine ye2 func116 ntmps116 fun _ _ _=>?_
  repeat' (first | refine yz ?_ | refine yp b196 va ?_ | refine yp b196 vb ?_ | refine yp b200 (rclass_ev _) ?_ | refine yp b199 hcl ?_ | refine qP (d := 39) rfl rfl rfl rfl rfl rfl b201 (na) ?_ | refine yp b201 nb ?_ | refine yp b198 hfl ?_ | refine yx ?_ | (refine yy ?_ ?_ <;> intro _) | exact zD | exact zL)
end Go.Proofs.YtenpjlghikohmaaGreatDoor
namespace Go.Proofs.YtenpjlghikohmaaGreatDoor
set_option maxRecDepth 4000
open Go Go.Abs Go.Val Go.RowKit Go.Proofs.Tryz
attribute [local irreducible] go SGo HasBody Ev ExtEv EvO
def pcls (k : Int) : Int := bif k == 3 then 2 else bif k == 7 then 9 else k
theorem class_ev (v : V) : Ev E 308 [enc v] (.d (.int (pcls v.k))) := by
 unfold pcls
 cases h1 : v.k == 3 with
 | true =>
  refine ye1 func308 ntmps308 fun _ _ _=>?_
  repeat' (first | refine yz ?_ | refine yx ?_ | (refine yy ?_ ?_ <;> intro _) | exact zD | exact zL)
 | false =>
 cases h2 : v.k == 7 with
 | true =>
  refine ye1 func308 ntmps308 fun _ _ _=>?_
  repeat' (first | refine yz ?_ | refine yx ?_ | (refine yy ?_ ?_ <;> intro _) | exact zD | exact zL)
 | false =>
  refine ye1 func308 ntmps308 fun _ _ _=>?_
  repeat' (first | refine yz ?_ | refine yx ?_ | (refine yy ?_ ?_ <;> intro _) | exact zD | exact zL)
theorem okFlat_l {v : V} (h : okFlat v = true) : v.l = [] := by
 simp only [okFlat, Bool.or_eq_true, Bool.and_eq_true, beq_iff_eq, List.length_eq_zero_iff] at h
 grind
theorem okSteps_mem : ∀ (l : List V) (i : Nat), okSteps i l = true → ∀ x ∈ l, okFlat x = true
 | [], _, _, x, hx => by simp at hx
 | v :: r, i, h, x, hx => by
  simp only [okSteps, okStep, Bool.and_eq_true] at h
  rcases List.mem_cons.1 hx with e | e
  ·rw [e]; exact h.1.2
  ·exact okSteps_mem r (i + 1) h.2 x e
theorem okFlat_okN {v : V} (m : Nat) (h : okFlat v = true) : okN m v = true := by
 cases m <;> simp [okN, h]
theorem okN_mono : ∀ (m : Nat) (v : V), okN m v = true → okN (m + 1) v = true
 | 0, v, h => by
  simp only [okN, Bool.or_eq_true] at h ⊢
  exact .inl h
 | m + 1, v, h => by
  have ih := okN_mono m
  simp only [okN, Bool.or_eq_true, Bool.and_eq_true, List.all_eq_true, decide_eq_true_eq] at h ih ⊢
  rcases h with h | h
  ·exact .inl h
  ·exact .inr ⟨h.1, h.2.1, fun x hx => by have := ih x (by have := h.2.2 x hx; simpa [okN] using this); simpa [okN] using this⟩
theorem okV_kids {v : V} (h : Val.okV v = true) : ∀ x ∈ v.l, Val.okV x = true := by
 unfold Val.okV at h
 rw [okN] at h
 simp only [Bool.or_eq_true, Bool.and_eq_true, List.all_eq_true] at h
 intro x hx
 rcases h with (h | h) | h
 ·rw [okFlat_l h] at hx; simp at hx
 ·have hp := h.2.2
  simp only [okPath, Bool.and_eq_true] at hp
  exact okFlat_okN 8 (okSteps_mem _ 0 hp.2 x hx)
 ·exact okN_mono 7 x (h.2.2 x hx)
theorem okV_bare {v : V} (h : Val.okV v = true) : (v.k ≠ 3 → v.d = 0) ∧ (v.k ≠ 4 → v.s.toList = (⟨#[]⟩ : ByteArray).toList) ∧ (v.k = 4 → v.n = 0) ∧ (v.k = 7 ∨ v.k = 8 → v.n = 0) ∧ (v.k ≠ 7 → v.k ≠ 8 → v.l = []) := by
 unfold Val.okV at h
 rw [okN] at h
 simp only [okFlat, s0, Bool.or_eq_true, Bool.and_eq_true, beq_iff_eq, List.length_eq_zero_iff] at h
 grind
theorem isNum_k {v : V} (h : Val.okV v = true) : isNum v = (v.k == 2 || v.k == 3) := by unfold isNum; rw [h, Bool.and_true]
theorem cls_cmp {a b : Int} (ha : 0 ≤ a ∧ a ≤ 8) (hb : 0 ≤ b ∧ b ≤ 8) : ci (pcls a) (pcls b) = ci (rcls a) (rcls b) := by
 obtain ⟨x, rfl⟩ := Int.eq_ofNat_of_zero_le ha.1
 obtain ⟨y, rfl⟩ := Int.eq_ofNat_of_zero_le hb.1
 have hx : x < 9 := by omega
 have hy : y < 9 := by omega
 revert ha hb
 have key : ∀ (x y : Fin 9), ci (pcls (x.val : Int)) (pcls (y.val : Int)) = ci (rcls (x.val : Int)) (rcls (y.val : Int)) := by decide
 intro _ _
 exact key ⟨x, hx⟩ ⟨y, hy⟩
theorem rcls_kind {a b : Int} (ha : 0 ≤ a ∧ a ≤ 8) (hb : 0 ≤ b ∧ b ≤ 8) (h : ci (rcls a) (rcls b) = 0) (hn : (a == 2 || a == 3) = false) : a = b := by
 obtain ⟨x, rfl⟩ := Int.eq_ofNat_of_zero_le ha.1
 obtain ⟨y, rfl⟩ := Int.eq_ofNat_of_zero_le hb.1
 have hx : x < 9 := by omega
 have hy : y < 9 := by omega
 revert ha hb h hn
 have key : ∀ (x y : Fin 9), ci (rcls (x.val : Int)) (rcls (y.val : Int)) = 0 → ((x.val : Int) == 2 || (x.val : Int) == 3) = false → (x.val : Int) = (y.val : Int) := by decide
 intros
 exact key ⟨x, hx⟩ ⟨y, hy⟩ (by assumption) (by assumption)
theorem okV_rng {v : V} (h : Val.okV v = true) : 0 ≤ v.k ∧ v.k ≤ 8 := by have := okV_k h; omega
theorem cs_self {a b : ByteArray} (h : a.toList = b.toList) : cs a b = 0 := by
 unfold cs
 rw [h]
 have hl : ∀ l : List UInt8, Op.bytesLess l l = false := by
  intro l
  induction l with
  | nil => rfl
  | cons x r ih => simp [Op.bytesLess, ih]
 rw [hl]
 simp
theorem pcls_num {v : V} (h : Val.okV v = true) : (pcls v.k == 2) = isNum v := by
 rw [isNum_k h]
 have := okV_k h
 unfold pcls
 rcases this with e | e | e | e | e | e | e | e | e <;> rw [e] <;> rfl
theorem ordF_valid {a b : V} (ha : Val.okV a = true) (hb : Val.okV b = true) : ordF a b = bif ci (pcls a.k) (pcls b.k) != 0 then ci (pcls a.k) (pcls b.k) else bif pcls a.k == 2 then cmpQ (numN a) (numD a) (numN b) (numD b) else orL [cs a.s b.s, ci a.n b.n, cmpL ordF a.l b.l] := by
 rw [ordF_eq, stepO, ha, hb]
 have hra := okV_rng ha
 have hrb := okV_rng hb
 rw [cls_cmp hra hrb, pcls_num ha]
 simp only [bne_self_eq_false, Bool.not_true, cond_false]
 cases h1 : ci (rcls a.k) (rcls b.k) != 0 with
 | true => rfl
 | false =>
  simp only [cond_false]
  cases h2 : isNum a with
  | true => rfl
  | false =>
   simp only [cond_false]
   have hk : a.k = b.k := rcls_kind hra hrb (by simpa using h1) (by rw [← isNum_k ha]; exact h2)
   have hn3 : a.k ≠ 3 := by
    intro h
    rw [isNum_k ha, h] at h2
    cases h2
   obtain ⟨a1, a2, a3, a4, a5⟩ := okV_bare ha
   obtain ⟨b1, b2, b3, b4, b5⟩ := okV_bare hb
   have e1 : ci a.k b.k = 0 := by rw [hk]; exact ci_eq _
   have e2 : ci a.d b.d = 0 := by rw [a1 hn3, b1 (by rw [← hk]; exact hn3)]; exact ci_eq _
   unfold headO
   rw [e1, e2]
   simp only [orL, orI]
   simp only [bne_self_eq_false, cond_false]
   by_cases h4 : a.k = 4
   ·have e3 : ci a.n b.n = 0 := by rw [a3 h4, b3 (by rw [← hk]; exact h4)]; exact ci_eq _
    rw [e3]
    simp only [bne_self_eq_false, cond_false]
    rw [a5 (by omega) (by omega), b5 (by omega) (by omega)]
    simp only [cmpL, bne_self_eq_false, cond_false]
   ·have e3 : cs a.s b.s = 0 := cs_self (by rw [a2 h4, b2 (by rw [← hk]; exact h4)])
    rw [e3]
    simp only [bne_self_eq_false, cond_false]
    cases ci a.n b.n != 0 with
    | true => rfl
    | false =>
     simp only [cond_false]
     cases hq : cmpL ordF a.l b.l != 0 with
     | true => rfl
     | false => simp only [cond_false]; simpa using hq
theorem order_ev2 (a : V) : ∀ b : V, Val.okV a = true → Val.okV b = true → Ev E 232 [enc a, enc b] (.d (.int (ordF a b))) := by
 refine vind (P := fun a => ∀ b : V, Val.okV a = true → Val.okV b = true → Ev E 232 [enc a, enc b] (.d (.int (ordF a b)))) (fun k n d s l ih b ha hb => ?_) a
 have hka := okV_kids ha
 have hkb := okV_kids hb
 have hcf := compareFunc_ev 232 b232 ordF l b.l (fun x hx y hy => ih x hx y (hka x hx) (hkb y hy))
 rw [encL_map, encL_map, ← kids_eq b] at hcf
 have hkk : l.map enc = kids (.mk k n d s l) := (kids_eq (.mk k n d s l)).symm
 rw [hkk] at hcf
 rw [ordF_valid ha hb]
 have hll : cmpL ordF l b.l = cmpL ordF (V.mk k n d s l).l b.l := rfl
 rw [hll] at hcf
 generalize V.mk k n d s l = a at *
 clear ih hkk hll
 have ca := class_ev a
 have cb := class_ev b
 have hcc := compare_ev (pcls a.k) (pcls b.k)
 have na := Number_ev ixOK a
 have nb := Number_ev ixOK b
 have hc := cmp_ev (numN a) (numD a) (numN b) (numD b)
 have hcn := compare_ev a.n b.n
 have hcs := compareS_ev a.s b.s
 have hor := or_ev2 [cs a.s b.s, ci a.n b.n, cmpL ordF a.l b.l]
 cases h1 : ci (pcls a.k) (pcls b.k) != 0 with
 | true =>
  have h1' : (Lib.compareInt (pcls a.k) (pcls b.k) != 0) = true := h1
  refine ye2 func232 ntmps232 fun _ _ _=>?_
  repeat' (first | refine yz ?_ | refine qP (d := 11) rfl rfl rfl rfl rfl rfl b308 (ca) ?_ | refine yp b308 cb ?_ | refine yp b52 hcc ?_ | refine yx ?_ | (refine yy ?_ ?_ <;> intro _) | exact zD | exact zL)
 | false =>
 have h1' : (Lib.compareInt (pcls a.k) (pcls b.k) != 0) = false := h1
 cases h2 : pcls a.k == 2 with
 | true =>
  refine ye2 func232 ntmps232 fun _ _ _=>?_
  repeat' (first | refine yz ?_ | refine qP (d := 11) rfl rfl rfl rfl rfl rfl b308 (ca) ?_ | refine qP (d := 19) rfl rfl rfl rfl rfl rfl b308 (ca) ?_ | refine yp b308 cb ?_ | refine yp b52 hcc ?_ | refine qP (d := 23) rfl rfl rfl rfl rfl rfl b309 (na) ?_ | refine yp b309 nb ?_ | refine yp b310 hc ?_ | refine yx ?_ | (refine yy ?_ ?_ <;> intro _) | exact zD | exact zL)
 | false =>
  refine ye2 func232 ntmps232 fun _ _ _=>?_
  repeat' (first | refine yz ?_ | refine qP (d := 11) rfl rfl rfl rfl rfl rfl b308 (ca) ?_ | refine qP (d := 19) rfl rfl rfl rfl rfl rfl b308 (ca) ?_ | refine yp b308 cb ?_ | refine qP (d := 14) rfl rfl rfl rfl rfl rfl b52 (hcc) ?_ | refine yp b52 hcn ?_ | refine yp b234 hcs ?_ | refine yp b235 hcf ?_ | refine yp b233 hor ?_ | refine yx ?_ | (refine yy ?_ ?_ <;> intro _) | exact zD | exact zL)
theorem Order_ev (a : V) : ∀ b : V, Ev E 148 [enc a, enc b] (.d (.int (ordF a b))) := by
 refine vind (P := fun a => ∀ b : V, Ev E 148 [enc a, enc b] (.d (.int (ordF a b)))) (fun k n d s l ih b => ?_) a
 have hcf := compareFunc_ev 148 b148 ordF l b.l (fun x hx y hy => ih x hx y)
 rw [encL_map, encL_map, ← kids_eq b] at hcf
 have hkk : l.map enc = kids (.mk k n d s l) := (kids_eq (.mk k n d s l)).symm
 rw [hkk] at hcf
 have hll : cmpL ordF l b.l = cmpL ordF (V.mk k n d s l).l b.l := rfl
 rw [hll] at hcf
 generalize V.mk k n d s l = a at *
 clear ih hkk hll
 have va := Valid_ev ixOK a
 have vb := Valid_ev ixOK b
 have hck := compare_ev a.k b.k
 have hcn := compare_ev a.n b.n
 have hcd := compare_ev a.d b.d
 have hcs := compareS_ev a.s b.s
 have hor := or_ev2 [ci a.k b.k, ci a.n b.n, ci a.d b.d, cs a.s b.s, cmpL ordF a.l b.l]
 cases h1 : Val.okV a with
 | true =>
  cases h2 : Val.okV b with
  | true =>
   have ho := order_ev2 a b h1 h2
   refine ye2 func148 ntmps148 fun _ _ _=>?_
   repeat' (first | refine yz ?_ | refine qP (d := 8) rfl rfl rfl rfl rfl rfl b231 (va) ?_ | refine yp b231 vb ?_ | refine yp b232 ho ?_ | refine yx ?_ | (refine yy ?_ ?_ <;> intro _) | exact zD | exact zL)
  | false =>
   have e : ordF a b = -1 := by rw [ordF_eq, stepO, h1, h2]; rfl
   rw [e]
   refine ye2 func148 ntmps148 fun _ _ _=>?_
   repeat' (first | refine yz ?_ | refine qP (d := 8) rfl rfl rfl rfl rfl rfl b231 (va) ?_ | refine yp b231 vb ?_ | refine yx ?_ | (refine yy ?_ ?_ <;> intro _) | exact zD | exact zL)
 | false =>
  cases h2 : Val.okV b with
  | true =>
   have e : ordF a b = 1 := by rw [ordF_eq, stepO, h1, h2]; rfl
   rw [e]
   refine ye2 func148 ntmps148 fun _ _ _=>?_
   repeat' (first | refine yz ?_ | refine qP (d := 8) rfl rfl rfl rfl rfl rfl b231 (va) ?_ | refine yp b231 vb ?_ | refine yx ?_ | (refine yy ?_ ?_ <;> intro _) | exact zD | exact zL)
  | false =>
   have e : ordF a b = orL [ci a.k b.k, ci a.n b.n, ci a.d b.d, cs a.s b.s, cmpL ordF a.l b.l] := by
    rw [ordF_eq, stepO, h1, h2]
    simp only [bne_self_eq_false, Bool.not_false, cond_false, cond_true, headO, orL]
    have : orI (cmpL ordF a.l b.l) 0 = cmpL ordF a.l b.l := by
     unfold orI
     cases hq : cmpL ordF a.l b.l != 0 with
     | true => rfl
     | false => simp only [cond_false]; exact (by simpa using hq : cmpL ordF a.l b.l = 0).symm
    rw [this]
   rw [e]
   refine ye2 func148 ntmps148 fun _ _ _=>?_
   repeat' (first | refine yz ?_ | refine qP (d := 8) rfl rfl rfl rfl rfl rfl b231 (va) ?_ | refine yp b231 vb ?_ | refine qP (d := 27) rfl rfl rfl rfl rfl rfl b52 (hck) ?_ | refine qP (d := 32) rfl rfl rfl rfl rfl rfl b52 (hcn) ?_ | refine qP (d := 37) rfl rfl rfl rfl rfl rfl b52 (hcd) ?_ | refine yp b234 hcs ?_ | refine yp b235 hcf ?_ | refine yp b233 hor ?_ | refine yx ?_ | (refine yy ?_ ?_ <;> intro _) | exact zD | exact zL)
theorem fval_eq {n d n' d' : Int} (h : fval n d = true) (h' : fval n' d' = true) (he : n * d' = n' * d) : n = n' ∧ d = d' := by
 simp only [fval, Bool.and_eq_true, decide_eq_true_eq, beq_iff_eq] at h h'
 have g : Int.gcd n d = 1 := by have := h.2.2.2; omega
 have g' : Int.gcd n' d' = 1 := by have := h'.2.2.2; omega
 have key : ∀ {n d n' d' : Int}, Int.gcd n d = 1 → n * d' = n' * d → d ∣ d' := by
  intro n d n' d' g he
  have hdv : d ∣ n * d' := ⟨n', by rw [he, Int.mul_comm]⟩
  have h0 : d.natAbs ∣ d'.natAbs * n.natAbs := by
   have := Int.natAbs_dvd_natAbs.2 hdv
   rwa [Int.natAbs_mul, Nat.mul_comm] at this
  have hc : Nat.Coprime d.natAbs n.natAbs := by
   unfold Nat.Coprime
   rw [Nat.gcd_comm]
   exact g
  exact Int.natAbs_dvd_natAbs.1 (hc.dvd_of_dvd_mul_right h0)
 have h1 : d ∣ d' := key g he
 have h2 : d' ∣ d := key g' he.symm
 have hd : d = d' := Int.dvd_antisymm (by omega) (by omega) h1 h2
 refine ⟨?_, hd⟩
 rw [hd] at he
 exact Int.eq_of_mul_eq_mul_right (by omega) he
theorem fval_num {v : V} (h : isNum v = true) : fval (numN v) (numD v) = true := by
 have hok : Val.okV v = true := by unfold isNum at h; simp only [Bool.and_eq_true] at h; exact h.2
 have hk : v.k = 2 ∨ v.k = 3 := by unfold isNum at h; simp only [Bool.and_eq_true, Bool.or_eq_true, beq_iff_eq] at h; exact h.1
 unfold numN numD
 rw [h]
 simp only [cond_true]
 obtain ⟨k, n, d, s, l⟩ := v
 simp only [V.k] at hk
 unfold Val.okV at hok
 rw [okN_flat 8 k n d s l (by omega) (by omega)] at hok
 rcases hk with rfl | rfl
 ·simp [okFlat, V.k, V.n, V.d, V.s, V.l] at hok
  simp [V.k, V.n, fval, hok.2]
 ·simp [okFlat, V.k, V.n, V.d, V.s, V.l] at hok
  simpa [V.k, V.n, V.d] using hok.2.2
theorem cmpQ_zero {a b : V} (ha : isNum a = true) (hb : isNum b = true) : (cmpQ (numN a) (numD a) (numN b) (numD b) == 0) = ((numN a == numN b) && (numD a == numD b)) := by
 have fa := fval_num ha
 have fb := fval_num hb
 have e : cmpQ (numN a) (numD a) (numN b) (numD b) = sgn (numN a * numD b - numN b * numD a) := by
  unfold cmpQ fzn fzd
  rw [fa, fb]
  rfl
 rw [e, Bool.eq_iff_iff]
 simp only [beq_iff_eq, Bool.and_eq_true]
 constructor
 ·intro h
  refine fval_eq fa fb ?_
  unfold sgn at h
  split at h
  ·cases h
  ·split at h
   ·cases h
   ·omega
 ·rintro ⟨h1, h2⟩
  rw [h1, h2, Int.sub_self]
  rfl
def stepE (a b : V) (t : Int) : Int :=
 bif a.k == 0 || b.k == 0 || !Val.okV a || !Val.okV b then 1 else
 bif isNum a && isNum b then tt (cmpQ (numN a) (numD a) (numN b) (numD b) == 0) else
 bif a.k != b.k then 0 else
 bif a.k == 4 then tt (a.s.toList == b.s.toList) else
 bif a.k != 8 && a.k != 7 then tt (a.n == b.n) else
 bif a.l.length != b.l.length then 0 else t
mutual
def eqF : V → V → Int
 | .mk k n d s l, b => stepE (.mk k n d s l) b (eqL l b.l 2)
def eqL : List V → List V → Int → Int
 | x :: r, y :: q, t => eqL r q (min (kn t) (kn (eqF x y)))
 | [], _, t => t
 | _ :: _, [], t => t
end
def eqM (g : V → V → Int) : List V → List V → Int → Int
 | x :: r, y :: q, t => eqM g r q (min (kn t) (kn (g x y)))
 | [], _, t => t
 | _ :: _, [], t => t
theorem eqL_eq : ∀ (a b : List V) (t : Int), eqL a b t = eqM eqF a b t
 | [], b, t => by simp [eqL, eqM]
 | _ :: _, [], t => by simp [eqL, eqM]
 | x :: r, y :: q, t => by simp only [eqL, eqM]; rw [eqL_eq r q]
theorem eqF_eq (a b : V) : eqF a b = stepE a b (eqM eqF a.l b.l 2) := by
 cases a
 simp only [eqF, eqL_eq, V.l]
structure SE (a b : List V) where
 i : Nat
 t : Int
 hi : i ≤ a.length
 ok : eqM eqF a b 2 = eqM eqF (a.drop i) (b.drop i) t
end Go.Proofs.YtenpjlghikohmaaGreatDoor
namespace Go.Proofs.YtenpjlghikohmaaGreatDoor
set_option maxRecDepth 4000
open Go Go.Abs Go.Val Go.RowKit Go.Proofs.Tryz
attribute [local irreducible] go SGo HasBody Ev ExtEv EvO
set_option maxHeartbeats 2000000 in
theorem rEqual_ev (a : V) : ∀ b : V, Ev E 165 [enc a, enc b] (.d (.int (eqF a b))) := by
 refine vind (P := fun a => ∀ b : V, Ev E 165 [enc a, enc b] (.d (.int (eqF a b)))) (fun k n d s l ih b => ?_) a
 refine Ev.fit fun hfit => ?_
 obtain ⟨-, -, -, -, hma, -⟩ := fit_enc (hfit (enc (.mk k n d s l)) (by simp))
 rw [eqF_eq]
 have ih' : ∀ x ∈ (V.mk k n d s l).l, ∀ y : V, Ev E 165 [enc x, enc y] (.d (.int (eqF x y))) := ih
 generalize V.mk k n d s l = a at *
 clear ih
 have va := RValid_ev a
 have vb := RValid_ev b
 have na := RNumber_ev a
 have nb := RNumber_ev b
 have hc := rcmp_ev (numN a) (numD a) (numN b) (numD b)
 have hla : (kids a).length = a.l.length := kids_len a
 have hlb : (kids b).length = b.l.length := kids_len b
 unfold stepE
 cases h1 : a.k == 0 with
 | true =>
  simp only [Bool.true_or, cond_true]
  refine ye2 func165 ntmps165 fun _ _ _=>?_
  repeat' (first | refine yz ?_ | refine yx ?_ | (refine yy ?_ ?_ <;> intro _) | exact zD | exact zL)
 | false =>
 cases h2 : b.k == 0 with
 | true =>
  simp only [Bool.or_true, Bool.true_or, cond_true]
  refine ye2 func165 ntmps165 fun _ _ _=>?_
  repeat' (first | refine yz ?_ | refine yx ?_ | (refine yy ?_ ?_ <;> intro _) | exact zD | exact zL)
 | false =>
 cases h3 : Val.okV a with
 | false =>
  rw [h3] at va
  simp only [Bool.or_false, Bool.false_or, Bool.not_false, Bool.true_or, cond_true]
  refine ye2 func165 ntmps165 fun _ _ _=>?_
  repeat' (first | refine yz ?_ | refine yp b196 va ?_ | refine yx ?_ | (refine yy ?_ ?_ <;> intro _) | exact zD | exact zL)
 | true =>
 rw [h3] at va
 cases h4 : Val.okV b with
 | false =>
  rw [h4] at vb
  simp only [Bool.or_false, Bool.false_or, Bool.not_false, Bool.not_true, cond_true]
  refine ye2 func165 ntmps165 fun _ _ _=>?_
  repeat' (first | refine yz ?_ | refine qP (d := 21) rfl rfl rfl rfl rfl rfl b196 (va) ?_ | refine yp b196 vb ?_ | refine yx ?_ | (refine yy ?_ ?_ <;> intro _) | exact zD | exact zL)
 | true =>
 rw [h4] at vb
 simp only [Bool.or_false, Bool.not_true, cond_false]
 cases h5 : isNum a with
 | true =>
  rw [h5] at na
  cases h6 : isNum b with
  | true =>
   rw [h6] at nb
   have hy := yes_ev (cmpQ (numN a) (numD a) (numN b) (numD b) == 0)
   simp only [Bool.and_true, cond_true]
   refine ye2 func165 ntmps165 fun _ _ _=>?_
   repeat' (first | refine yz ?_ | refine qP (d := 21) rfl rfl rfl rfl rfl rfl b196 (va) ?_ | refine yp b196 vb ?_ | refine qP (d := 31) rfl rfl rfl rfl rfl rfl b201 (na) ?_ | refine yp b201 nb ?_ | refine yp b202 hc ?_ | refine yp b197 hy ?_ | refine yx ?_ | (refine yy ?_ ?_ <;> intro _) | exact zD | exact zL)
  | false =>
   rw [h6] at nb
   simp only [Bool.and_false, cond_false]
   have hk : (a.k != b.k) = true := by
    rw [isNum_k h3] at h5
    rw [isNum_k h4] at h6
    simp only [Bool.or_eq_true, Bool.or_eq_false_iff, beq_iff_eq, beq_eq_false_iff_ne, bne_iff_ne] at *
    omega
   rw [hk]
   refine ye2 func165 ntmps165 fun _ _ _=>?_
   repeat' (first | refine yz ?_ | refine qP (d := 21) rfl rfl rfl rfl rfl rfl b196 (va) ?_ | refine yp b196 vb ?_ | refine qP (d := 31) rfl rfl rfl rfl rfl rfl b201 (na) ?_ | refine yp b201 nb ?_ | refine yx ?_ | (refine yy ?_ ?_ <;> intro _) | exact zD | exact zL)
 | false =>
  rw [h5] at na
  simp only [Bool.false_and, cond_false]
  cases h7 : a.k != b.k with
  | true =>
   refine ye2 func165 ntmps165 fun _ _ _=>?_
   repeat' (first | refine yz ?_ | refine qP (d := 21) rfl rfl rfl rfl rfl rfl b196 (va) ?_ | refine yp b196 vb ?_ | refine qP (d := 31) rfl rfl rfl rfl rfl rfl b201 (na) ?_ | refine yp b201 nb ?_ | refine yx ?_ | (refine yy ?_ ?_ <;> intro _) | exact zD | exact zL)
  | false =>
  cases h8 : a.k == 4 with
  | true =>
   have hy := yes_ev (a.s.toList == b.s.toList)
   refine ye2 func165 ntmps165 fun _ _ _=>?_
   repeat' (first | refine yz ?_ | refine qP (d := 21) rfl rfl rfl rfl rfl rfl b196 (va) ?_ | refine yp b196 vb ?_ | refine qP (d := 31) rfl rfl rfl rfl rfl rfl b201 (na) ?_ | refine yp b201 nb ?_ | refine yp b197 hy ?_ | refine yx ?_ | (refine yy ?_ ?_ <;> intro _) | exact zD | exact zL)
  | false =>
  cases h9 : a.k != 8 && a.k != 7 with
  | true =>
   simp only [Bool.and_eq_true] at h9
   obtain ⟨g1, g2⟩ := h9
   have hy := yes_ev (a.n == b.n)
   refine ye2 func165 ntmps165 fun _ _ _=>?_
   repeat' (first | refine yz ?_ | refine qP (d := 21) rfl rfl rfl rfl rfl rfl b196 (va) ?_ | refine yp b196 vb ?_ | refine qP (d := 31) rfl rfl rfl rfl rfl rfl b201 (na) ?_ | refine yp b201 nb ?_ | refine yp b197 hy ?_ | refine yx ?_ | (refine yy ?_ ?_ <;> intro _) | exact zD | exact zL)
  | false =>
  have key : (a.l.length != b.l.length) = ((kids a).length != (kids b).length) := by rw [hla, hlb]
  have hkk : (((kids a).length : Int) != ((kids b).length : Int)) = (a.l.length != b.l.length) := by
   rw [key]
   cases hq : (kids a).length != (kids b).length with
   | true => simp only [bne_iff_ne] at hq ⊢; omega
   | false => simp only [bne_eq_false_iff_eq] at hq ⊢; omega
  cases h10 : a.l.length != b.l.length with
  | true =>
   rw [h10] at hkk
   cases g1 : a.k != 8 with
   | true =>
    rw [g1, Bool.true_and] at h9
    refine ye2 func165 ntmps165 fun _ _ _=>?_
    repeat' (first | refine yz ?_ | refine qP (d := 21) rfl rfl rfl rfl rfl rfl b196 (va) ?_ | refine yp b196 vb ?_ | refine qP (d := 31) rfl rfl rfl rfl rfl rfl b201 (na) ?_ | refine yp b201 nb ?_ | refine yx ?_ | (refine yy ?_ ?_ <;> intro _) | exact zD | exact zL)
   | false =>
    refine ye2 func165 ntmps165 fun _ _ _=>?_
    repeat' (first | refine yz ?_ | refine qP (d := 21) rfl rfl rfl rfl rfl rfl b196 (va) ?_ | refine yp b196 vb ?_ | refine qP (d := 31) rfl rfl rfl rfl rfl rfl b201 (na) ?_ | refine yp b201 nb ?_ | refine yx ?_ | (refine yy ?_ ?_ <;> intro _) | exact zD | exact zL)
  | false =>
   rw [h10] at hkk
   have hlen : a.l.length = b.l.length := by simpa using h10
   cases g1 : a.k != 8
   all_goals
    try rw [g1, Bool.true_and] at h9
    refine ye2 func165 ntmps165 fun _ _ _=>?_
    repeat' (first | refine yz ?_ | refine qP (d := 21) rfl rfl rfl rfl rfl rfl b196 (va) ?_ | refine yp b196 vb ?_ | refine qP (d := 31) rfl rfl rfl rfl rfl rfl b201 (na) ?_ | refine yp b201 nb ?_ | refine yx ?_ | (refine yy ?_ ?_ <;> intro _) | exact zD | exact zL)
    refine go_loop_ (α := SE a.l b.l) (fun p => ⟨[(2, .ptr 0 0), (3, .ptr 1 0), (9, .d (.int p.t)), (10, .d (.int p.i))], [.var 56 (.w (.d (enc a))), .var 56 (.w (.d (enc b)))]⟩) (fun p => a.l.length - p.i) ⟨0, 2, by omega, rfl⟩ (zle 2) ?_
    rintro ⟨i, t, hi, ok⟩
    dsimp only
    rcases Nat.lt_or_ge i a.l.length with hlt | hge
    ·have g3 : decide ((i : Int) < ((kids a).length : Int)) = true := by rw [hla]; simpa using hlt
     have hx0 := List.getElem?_eq_getElem hlt
     have hy0 := List.getElem?_eq_getElem (show i < b.l.length by omega)
     generalize a.l[i] = x at hx0
     generalize b.l[i] = y at hy0
     have hx : (kids a)[(i : Int).toNat]? = some (enc x) := kids_get (by rw [Int.toNat_natCast]; exact hx0)
     have hy : (kids b)[(i : Int).toNat]? = some (enc y) := kids_get (by rw [Int.toNat_natCast]; exact hy0)
     have he := ih' x (List.mem_of_getElem? hx0) y
     have hand := rand_ev t (eqF x y)
     repeat' (first | refine yz ?_ | refine yi (enc x) hx ?_ | refine yi (enc y) hy ?_ | refine yp b165 he ?_ | refine yp b253 hand ?_ | refine yx ?_ | (refine yy ?_ ?_ <;> intro _) | exact zD | exact zL)
     refine go_stop ?_
     exact ⟨⟨i + 1, min (kn t) (kn (eqF x y)), by omega, by rw [ok, drop_at hx0, drop_at hy0]; rfl⟩, by dsimp only; omega, (zle 2)⟩
    ·have g3 : decide ((i : Int) < ((kids a).length : Int)) = false := by rw [hla, decide_eq_false_iff_not]; omega
     rw [ok, List.drop_eq_nil_of_le hge]
     simp only [eqM]
     repeat' (first | refine yz ?_ | refine yx ?_ | (refine yy ?_ ?_ <;> intro _) | exact zD | exact zL)
set_option maxHeartbeats 2000000 in
theorem equal_ev (a : V) : ∀ b : V, Val.okV a = true → Val.okV b = true → Ev E 237 [enc a, enc b] (.d (.int (eqF a b))) := by
 refine vind (P := fun a => ∀ b : V, Val.okV a = true → Val.okV b = true → Ev E 237 [enc a, enc b] (.d (.int (eqF a b)))) (fun k n d s l ih b h3 h4 => ?_) a
 refine Ev.fit fun hfit => ?_
 obtain ⟨-, -, -, -, hma, -⟩ := fit_enc (hfit (enc (.mk k n d s l)) (by simp))
 rw [eqF_eq]
 have ih' : ∀ x ∈ (V.mk k n d s l).l, ∀ y : V, Val.okV x = true → Val.okV y = true → Ev E 237 [enc x, enc y] (.d (.int (eqF x y))) := ih
 generalize V.mk k n d s l = a at *
 clear ih
 have na := Number_ev ixOK a
 have nb := Number_ev ixOK b
 have hla : (kids a).length = a.l.length := kids_len a
 have hlb : (kids b).length = b.l.length := kids_len b
 have hka := okV_kids h3
 have hkb := okV_kids h4
 unfold stepE
 rw [h3, h4]
 simp only [Bool.or_false, Bool.not_true]
 cases h1 : a.k == 0 with
 | true =>
  simp only [Bool.true_or, cond_true]
  refine ye2 func237 ntmps237 fun _ _ _=>?_
  repeat' (first | refine yz ?_ | refine yx ?_ | (refine yy ?_ ?_ <;> intro _) | exact zD | exact zL)
 | false =>
 cases h2 : b.k == 0 with
 | true =>
  simp only [Bool.or_true, cond_true]
  refine ye2 func237 ntmps237 fun _ _ _=>?_
  repeat' (first | refine yz ?_ | refine yx ?_ | (refine yy ?_ ?_ <;> intro _) | exact zD | exact zL)
 | false =>
 simp only [Bool.or_false, cond_false]
 cases h5 : isNum a with
 | true =>
  rw [h5] at na
  cases h6 : isNum b with
  | true =>
   rw [h6] at nb
   rw [cmpQ_zero h5 h6]
   have hy := truth_ev ((numN a == numN b) && ((numD a == numD b) && true))
   have e2 : tt ((numN a == numN b) && (numD a == numD b)) = tt ((numN a == numN b) && ((numD a == numD b) && true)) := by rw [Bool.and_true]
   simp only [Bool.and_true, cond_true]
   rw [e2]
   refine ye2 func237 ntmps237 fun _ _ _=>?_
   repeat' (first | refine yz ?_ | refine qP (d := 21) rfl rfl rfl rfl rfl rfl b309 (na) ?_ | refine yp b309 nb ?_ | refine yp b312 hy ?_ | (refine go_eqS (by kernel_rfl) (by kernel_rfl) rfl rfl rfl rfl rfl rfl rfl rfl (.inl ⟨rfl, rfl⟩) ?_) | refine yx ?_ | (refine yy ?_ ?_ <;> intro _) | exact zD | exact zL)
  | false =>
   rw [h6] at nb
   simp only [Bool.and_false, cond_false]
   have hk : (a.k != b.k) = true := by
    rw [isNum_k h3] at h5
    rw [isNum_k h4] at h6
    simp only [Bool.or_eq_true, Bool.or_eq_false_iff, beq_iff_eq, beq_eq_false_iff_ne, bne_iff_ne] at *
    omega
   rw [hk]
   refine ye2 func237 ntmps237 fun _ _ _=>?_
   repeat' (first | refine yz ?_ | refine qP (d := 21) rfl rfl rfl rfl rfl rfl b309 (na) ?_ | refine yp b309 nb ?_ | refine yx ?_ | (refine yy ?_ ?_ <;> intro _) | exact zD | exact zL)
 | false =>
  rw [h5] at na
  simp only [Bool.false_and, cond_false]
  cases h7 : a.k != b.k with
  | true =>
   refine ye2 func237 ntmps237 fun _ _ _=>?_
   repeat' (first | refine yz ?_ | refine qP (d := 21) rfl rfl rfl rfl rfl rfl b309 (na) ?_ | refine yp b309 nb ?_ | refine yx ?_ | (refine yy ?_ ?_ <;> intro _) | exact zD | exact zL)
  | false =>
  have hkk : a.k = b.k := by simpa using h7
  cases h9 : a.k != 8 && a.k != 7 with
  | true =>
   have e : (bif a.k == 4 then tt (a.s.toList == b.s.toList) else bif true then tt (a.n == b.n) else bif a.l.length != b.l.length then 0 else eqM eqF a.l b.l 2) = tt ((a.n == b.n) && (a.s.toList == b.s.toList)) := by
    obtain ⟨-, a2, a3, -, -⟩ := okV_bare h3
    obtain ⟨-, b2, b3, -, -⟩ := okV_bare h4
    cases h8 : a.k == 4 with
    | true =>
     have h8' : a.k = 4 := by simpa using h8
     rw [a3 h8', b3 (by rw [← hkk]; exact h8')]
     rfl
    | false =>
     have h8' : a.k ≠ 4 := by simpa using h8
     rw [a2 h8', b2 (by rw [← hkk]; exact h8')]
     simp
   rw [e]
   simp only [Bool.and_eq_true] at h9
   obtain ⟨g1, g2⟩ := h9
   have hy := truth_ev ((a.n == b.n) && (a.s.toList == b.s.toList))
   cases g3 : a.n == b.n
   all_goals
    rw [g3] at hy
    simp only [Bool.true_and, Bool.false_and] at hy ⊢
    refine ye2 func237 ntmps237 fun _ _ _=>?_
    repeat' (first | refine yz ?_ | refine qP (d := 21) rfl rfl rfl rfl rfl rfl b309 (na) ?_ | refine yp b309 nb ?_ | refine yp b312 hy ?_ | refine yx ?_ | (refine yy ?_ ?_ <;> intro _) | exact zD | exact zL)
  | false =>
  have h8 : (a.k == 4) = false := by
   rw [beq_eq_false_iff_ne]
   intro h
   rw [h] at h9
   cases h9
  rw [h8]
  simp only [cond_false]
  have key : (a.l.length != b.l.length) = ((kids a).length != (kids b).length) := by rw [hla, hlb]
  have hkk : (((kids a).length : Int) != ((kids b).length : Int)) = (a.l.length != b.l.length) := by
   rw [key]
   cases hq : (kids a).length != (kids b).length with
   | true => simp only [bne_iff_ne] at hq ⊢; omega
   | false => simp only [bne_eq_false_iff_eq] at hq ⊢; omega
  cases h10 : a.l.length != b.l.length with
  | true =>
   rw [h10] at hkk
   cases g1 : a.k != 8
   all_goals
    try rw [g1, Bool.true_and] at h9
    refine ye2 func237 ntmps237 fun _ _ _=>?_
    repeat' (first | refine yz ?_ | refine qP (d := 21) rfl rfl rfl rfl rfl rfl b309 (na) ?_ | refine yp b309 nb ?_ | refine yx ?_ | (refine yy ?_ ?_ <;> intro _) | exact zD | exact zL)
  | false =>
   rw [h10] at hkk
   have hlen : a.l.length = b.l.length := by simpa using h10
   cases g1 : a.k != 8
   all_goals
    try rw [g1, Bool.true_and] at h9
    refine ye2 func237 ntmps237 fun _ _ _=>?_
    repeat' (first | refine yz ?_ | refine qP (d := 21) rfl rfl rfl rfl rfl rfl b309 (na) ?_ | refine yp b309 nb ?_ | refine yx ?_ | (refine yy ?_ ?_ <;> intro _) | exact zD | exact zL)
    refine go_loop_ (α := SE a.l b.l) (fun p => ⟨[(2, .ptr 0 0), (3, .ptr 1 0), (9, .d (.int p.t)), (76, .d (.int (kids a).length)), (77, .d (.int p.i))], [.var 56 (.w (.d (enc a))), .var 56 (.w (.d (enc b)))]⟩) (fun p => a.l.length - p.i) ⟨0, 2, by omega, rfl⟩ (zle 2) ?_
    rintro ⟨i, t, hi, ok⟩
    dsimp only
    rcases Nat.lt_or_ge i a.l.length with hlt | hge
    ·have g3 : decide ((i : Int) < ((kids a).length : Int)) = true := by rw [hla]; simpa using hlt
     have hx0 := List.getElem?_eq_getElem hlt
     have hy0 := List.getElem?_eq_getElem (show i < b.l.length by omega)
     generalize a.l[i] = x at hx0
     generalize b.l[i] = y at hy0
     have hx : (kids a)[(i : Int).toNat]? = some (enc x) := kids_get (by rw [Int.toNat_natCast]; exact hx0)
     have hy : (kids b)[(i : Int).toNat]? = some (enc y) := kids_get (by rw [Int.toNat_natCast]; exact hy0)
     have he := ih' x (List.mem_of_getElem? hx0) y (hka x (List.mem_of_getElem? hx0)) (hkb y (List.mem_of_getElem? hy0))
     have hand := and_ev t (eqF x y)
     repeat' (first | refine yz ?_ | refine yi (enc x) hx ?_ | refine yi (enc y) hy ?_ | refine yp b237 he ?_ | refine yp b313 hand ?_ | refine yx ?_ | (refine yy ?_ ?_ <;> intro _) | exact zD | exact zL)
     refine go_stop ?_
     exact ⟨⟨i + 1, min (kn t) (kn (eqF x y)), by omega, by rw [ok, drop_at hx0, drop_at hy0]; rfl⟩, by dsimp only; omega, (zle 2)⟩
    ·have g3 : decide ((i : Int) < ((kids a).length : Int)) = false := by rw [hla, decide_eq_false_iff_not]; omega
     rw [ok, List.drop_eq_nil_of_le hge]
     simp only [eqM]
     repeat' (first | refine yz ?_ | refine yx ?_ | (refine yy ?_ ?_ <;> intro _) | exact zD | exact zL)
theorem Equal_ev (a b : V) : Ev E 152 [enc a, enc b] (.d (.int (eqF a b))) := by
 have va := Valid_ev ixOK a
 have vb := Valid_ev ixOK b
 have he := equal_ev a b
 have hq := eqF_eq a b
 unfold stepE at hq
 cases h1 : a.k == 0 with
 | true =>
  rw [h1] at hq
  simp only [Bool.true_or, cond_true] at hq
  rw [hq]
  refine ye2 func152 ntmps152 fun _ _ _=>?_
  repeat' (first | refine yz ?_ | refine yx ?_ | (refine yy ?_ ?_ <;> intro _) | exact zD | exact zL)
 | false =>
 cases h2 : b.k == 0 with
 | true =>
  rw [h2] at hq
  simp only [Bool.or_true, Bool.true_or, cond_true] at hq
  rw [hq]
  refine ye2 func152 ntmps152 fun _ _ _=>?_
  repeat' (first | refine yz ?_ | refine yx ?_ | (refine yy ?_ ?_ <;> intro _) | exact zD | exact zL)
 | false =>
 cases h3 : Val.okV a with
 | false =>
  rw [h3] at va hq
  simp only [Bool.not_false, Bool.or_true, Bool.true_or, cond_true] at hq
  rw [hq]
  refine ye2 func152 ntmps152 fun _ _ _=>?_
  repeat' (first | refine yz ?_ | refine yp b231 va ?_ | refine yx ?_ | (refine yy ?_ ?_ <;> intro _) | exact zD | exact zL)
 | true =>
 rw [h3] at va
 cases h4 : Val.okV b with
 | false =>
  rw [h4] at vb hq
  simp only [Bool.not_false, Bool.or_true, cond_true] at hq
  rw [hq]
  refine ye2 func152 ntmps152 fun _ _ _=>?_
  repeat' (first | refine yz ?_ | refine qP (d := 15) rfl rfl rfl rfl rfl rfl b231 (va) ?_ | refine yp b231 vb ?_ | refine yx ?_ | (refine yy ?_ ?_ <;> intro _) | exact zD | exact zL)
 | true =>
  rw [h4] at vb
  have he' := he h3 h4
  refine ye2 func152 ntmps152 fun _ _ _=>?_
  repeat' (first | refine yz ?_ | refine qP (d := 15) rfl rfl rfl rfl rfl rfl b231 (va) ?_ | refine yp b231 vb ?_ | refine yp b237 he' ?_ | refine yx ?_ | (refine yy ?_ ?_ <;> intro _) | exact zD | exact zL)
end Go.Proofs.YtenpjlghikohmaaGreatDoor
