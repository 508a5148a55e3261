/- The program's order of values; equality and Less of both texts. Conditions: none. -/
import Derived.Test.YtpjnngfjbcjikaaDoorM23
namespace Go.Proofs.YtpjnngfjbcjikaaDoor
open Go Go.Abs Go.Val Go.RowKit
attribute [local irreducible] go SGo HasBody Ev ExtEv EvO

def pcls (k : Int) : Int := bif k == 3 then 2 else bif k == 7 then 9 else k
theorem class_ev (v : V) : Ev E 38 [enc v] (.d (.int (pcls v.k))) := by
  unfold pcls
  cases h1 : v.k == 3 with
  | true =>
    refine enter1 Tryd.func38 Tryd.ntmps38 rfl rfl fun w0 F0 => ?_
    repeat' (first | (refine qS rfl ?_ ?_; (first | exact True.intro | rfl | assumption | omega | (simp only [inR]; omega) | ((show _ ≤ (9223372036854775807 : Nat)); (try simp only [ByteArray.size_append]); omega) | exact tmod_ok (by omega) (by omega) | exact tdiv_ok (by omega) (by omega) | exact ⟨rfl, by decide, by decide⟩)) | refine qA ?_ | refine qB rfl ?_ | refine qC (by kernel_rfl) ?_ | refine qD ?_ | refine qE ?_ | refine qF ?_ | refine qG ?_ | refine qH rfl ?_ | (refine qT rfl ?_ ?_; (first | rfl | assumption)) | (refine qU rfl ?_ ?_; (first | rfl | assumption)) | refine qL rfl rfl ?_ | refine qM rfl rfl rfl ?_ | refine qO rfl rfl rfl ?_ | refine qX (b' := true) rfl rfl rfl rfl (by assumption) ?_ | refine qX (b' := false) rfl rfl rfl rfl (by assumption) ?_ | (refine qY rfl rfl rfl rfl ?_ ?_ <;> intro _) | exact (rfl : (_ : D) = _) | exact (rfl : (_ : List D) = _))
  | false =>
  cases h2 : v.k == 7 with
  | true =>
    refine enter1 Tryd.func38 Tryd.ntmps38 rfl rfl fun w0 F0 => ?_
    repeat' (first | (refine qS rfl ?_ ?_; (first | exact True.intro | rfl | assumption | omega | (simp only [inR]; omega) | ((show _ ≤ (9223372036854775807 : Nat)); (try simp only [ByteArray.size_append]); omega) | exact tmod_ok (by omega) (by omega) | exact tdiv_ok (by omega) (by omega) | exact ⟨rfl, by decide, by decide⟩)) | refine qA ?_ | refine qB rfl ?_ | refine qC (by kernel_rfl) ?_ | refine qD ?_ | refine qE ?_ | refine qF ?_ | refine qG ?_ | refine qH rfl ?_ | (refine qT rfl ?_ ?_; (first | rfl | assumption)) | (refine qU rfl ?_ ?_; (first | rfl | assumption)) | refine qL rfl rfl ?_ | refine qM rfl rfl rfl ?_ | refine qO rfl rfl rfl ?_ | refine qX (b' := true) rfl rfl rfl rfl (by assumption) ?_ | refine qX (b' := false) rfl rfl rfl rfl (by assumption) ?_ | (refine qY rfl rfl rfl rfl ?_ ?_ <;> intro _) | exact (rfl : (_ : D) = _) | exact (rfl : (_ : List D) = _))
  | false =>
    refine enter1 Tryd.func38 Tryd.ntmps38 rfl rfl fun w0 F0 => ?_
    repeat' (first | (refine qS rfl ?_ ?_; (first | exact True.intro | rfl | assumption | omega | (simp only [inR]; omega) | ((show _ ≤ (9223372036854775807 : Nat)); (try simp only [ByteArray.size_append]); omega) | exact tmod_ok (by omega) (by omega) | exact tdiv_ok (by omega) (by omega) | exact ⟨rfl, by decide, by decide⟩)) | refine qA ?_ | refine qB rfl ?_ | refine qC (by kernel_rfl) ?_ | refine qD ?_ | refine qE ?_ | refine qF ?_ | refine qG ?_ | refine qH rfl ?_ | (refine qT rfl ?_ ?_; (first | rfl | assumption)) | (refine qU rfl ?_ ?_; (first | rfl | assumption)) | refine qL rfl rfl ?_ | refine qM rfl rfl rfl ?_ | refine qO rfl rfl rfl ?_ | refine qX (b' := true) rfl rfl rfl rfl (by assumption) ?_ | refine qX (b' := false) rfl rfl rfl rfl (by assumption) ?_ | (refine qY rfl rfl rfl rfl ?_ ?_ <;> intro _) | exact (rfl : (_ : D) = _) | exact (rfl : (_ : List D) = _))
theorem okFlat_l {v : V} (h : okFlat v = true) : v.l = [] := by
  simp only [okFlat, Bool.or_eq_true, Bool.and_eq_true, beq_iff_eq, List.length_eq_zero_iff] at h
  grind
theorem okSteps_mem : ∀ (l : List V) (i : Nat), okSteps i l = true → ∀ x ∈ l, okFlat x = true
  | [], _, _, x, hx => by simp at hx
  | v :: r, i, h, x, hx => by
    simp only [okSteps, okStep, Bool.and_eq_true] at h
    rcases List.mem_cons.1 hx with e | e
    · rw [e]; exact h.1.2
    · exact okSteps_mem r (i + 1) h.2 x e
theorem okFlat_okN {v : V} (m : Nat) (h : okFlat v = true) : okN m v = true := by
  cases m <;> simp [okN, h]
theorem okN_mono : ∀ (m : Nat) (v : V), okN m v = true → okN (m + 1) v = true
  | 0, v, h => by
    simp only [okN, Bool.or_eq_true] at h ⊢
    exact .inl h
  | m + 1, v, h => by
    have ih := okN_mono m
    simp only [okN, Bool.or_eq_true, Bool.and_eq_true, List.all_eq_true, decide_eq_true_eq] at h ih ⊢
    rcases h with h | h
    · exact .inl h
    · exact .inr ⟨h.1, h.2.1, fun x hx => by have := ih x (by have := h.2.2 x hx; simpa [okN] using this); simpa [okN] using this⟩
theorem okV_kids {v : V} (h : Val.okV v = true) : ∀ x ∈ v.l, Val.okV x = true := by
  unfold Val.okV at h
  rw [okN] at h
  simp only [Bool.or_eq_true, Bool.and_eq_true, List.all_eq_true] at h
  intro x hx
  rcases h with (h | h) | h
  · rw [okFlat_l h] at hx; simp at hx
  · have hp := h.2.2
    simp only [okPath, Bool.and_eq_true] at hp
    exact okFlat_okN 8 (okSteps_mem _ 0 hp.2 x hx)
  · exact okN_mono 7 x (h.2.2 x hx)
/-- What valid values of one kind, not numbers and not lists, differ in. -/
theorem okV_bare {v : V} (h : Val.okV v = true) : (v.k ≠ 3 → v.d = 0) ∧ (v.k ≠ 4 → v.s.toList = (⟨#[]⟩ : ByteArray).toList) ∧ (v.k = 4 → v.n = 0) ∧ (v.k = 7 ∨ v.k = 8 → v.n = 0) ∧ (v.k ≠ 7 → v.k ≠ 8 → v.l = []) := by
  unfold Val.okV at h
  rw [okN] at h
  simp only [okFlat, s0, Bool.or_eq_true, Bool.and_eq_true, beq_iff_eq, List.length_eq_zero_iff] at h
  grind
theorem isNum_k {v : V} (h : Val.okV v = true) : isNum v = (v.k == 2 || v.k == 3) := by unfold isNum; rw [h, Bool.and_true]
theorem cls_cmp {a b : Int} (ha : 0 ≤ a ∧ a ≤ 8) (hb : 0 ≤ b ∧ b ≤ 8) : ci (pcls a) (pcls b) = ci (rcls a) (rcls b) := by
  obtain ⟨x, rfl⟩ := Int.eq_ofNat_of_zero_le ha.1
  obtain ⟨y, rfl⟩ := Int.eq_ofNat_of_zero_le hb.1
  have hx : x < 9 := by omega
  have hy : y < 9 := by omega
  revert ha hb
  have key : ∀ (x y : Fin 9), ci (pcls (x.val : Int)) (pcls (y.val : Int)) = ci (rcls (x.val : Int)) (rcls (y.val : Int)) := by decide
  intro _ _
  exact key ⟨x, hx⟩ ⟨y, hy⟩
theorem rcls_kind {a b : Int} (ha : 0 ≤ a ∧ a ≤ 8) (hb : 0 ≤ b ∧ b ≤ 8) (h : ci (rcls a) (rcls b) = 0) (hn : (a == 2 || a == 3) = false) : a = b := by
  obtain ⟨x, rfl⟩ := Int.eq_ofNat_of_zero_le ha.1
  obtain ⟨y, rfl⟩ := Int.eq_ofNat_of_zero_le hb.1
  have hx : x < 9 := by omega
  have hy : y < 9 := by omega
  revert ha hb h hn
  have key : ∀ (x y : Fin 9), ci (rcls (x.val : Int)) (rcls (y.val : Int)) = 0 → ((x.val : Int) == 2 || (x.val : Int) == 3) = false → (x.val : Int) = (y.val : Int) := by decide
  intros
  exact key ⟨x, hx⟩ ⟨y, hy⟩ (by assumption) (by assumption)
theorem okV_rng {v : V} (h : Val.okV v = true) : 0 ≤ v.k ∧ v.k ≤ 8 := by have := okV_k h; omega
theorem cs_self {a b : ByteArray} (h : a.toList = b.toList) : cs a b = 0 := by
  unfold cs
  rw [h]
  have hl : ∀ l : List UInt8, Op.bytesLess l l = false := by
    intro l
    induction l with
    | nil => rfl
    | cons x r ih => simp [Op.bytesLess, ih]
  rw [hl]
  simp
theorem pcls_num {v : V} (h : Val.okV v = true) : (pcls v.k == 2) = isNum v := by
  rw [isNum_k h]
  have := okV_k h
  unfold pcls
  rcases this with e | e | e | e | e | e | e | e | e <;> rw [e] <;> rfl
/-- The order of two valid values, as the program computes it. -/
theorem ordF_valid {a b : V} (ha : Val.okV a = true) (hb : Val.okV b = true) : ordF a b = bif ci (pcls a.k) (pcls b.k) != 0 then ci (pcls a.k) (pcls b.k) else bif pcls a.k == 2 then cmpQ (numN a) (numD a) (numN b) (numD b) else orL [cs a.s b.s, ci a.n b.n, cmpL ordF a.l b.l] := by
  rw [ordF_eq, stepO, ha, hb]
  have hra := okV_rng ha
  have hrb := okV_rng hb
  rw [cls_cmp hra hrb, pcls_num ha]
  simp only [bne_self_eq_false, Bool.not_true, cond_false]
  cases h1 : ci (rcls a.k) (rcls b.k) != 0 with
  | true => rfl
  | false =>
    simp only [cond_false]
    cases h2 : isNum a with
    | true => rfl
    | false =>
      simp only [cond_false]
      have hk : a.k = b.k := rcls_kind hra hrb (by simpa using h1) (by rw [← isNum_k ha]; exact h2)
      have hn3 : a.k ≠ 3 := by
        intro h
        rw [isNum_k ha, h] at h2
        cases h2
      obtain ⟨a1, a2, a3, a4, a5⟩ := okV_bare ha
      obtain ⟨b1, b2, b3, b4, b5⟩ := okV_bare hb
      have e1 : ci a.k b.k = 0 := by rw [hk]; exact ci_eq _
      have e2 : ci a.d b.d = 0 := by rw [a1 hn3, b1 (by rw [← hk]; exact hn3)]; exact ci_eq _
      unfold headO
      rw [e1, e2]
      simp only [orL, orI]
      simp only [bne_self_eq_false, cond_false]
      by_cases h4 : a.k = 4
      · have e3 : ci a.n b.n = 0 := by rw [a3 h4, b3 (by rw [← hk]; exact h4)]; exact ci_eq _
        rw [e3]
        simp only [bne_self_eq_false, cond_false]
        rw [a5 (by omega) (by omega), b5 (by omega) (by omega)]
        simp only [cmpL, bne_self_eq_false, cond_false]
      · have e3 : cs a.s b.s = 0 := cs_self (by rw [a2 h4, b2 (by rw [← hk]; exact h4)])
        rw [e3]
        simp only [bne_self_eq_false, cond_false]
        cases ci a.n b.n != 0 with
        | true => rfl
        | false =>
          simp only [cond_false]
          cases hq : cmpL ordF a.l b.l != 0 with
          | true => rfl
          | false => simp only [cond_false]; simpa using hq
theorem order_ev2 (a : V) : ∀ b : V, Val.okV a = true → Val.okV b = true → Ev E 21 [enc a, enc b] (.d (.int (ordF a b))) := by
  refine vind (P := fun a => ∀ b : V, Val.okV a = true → Val.okV b = true → Ev E 21 [enc a, enc b] (.d (.int (ordF a b)))) (fun k n d s l ih b ha hb => ?_) a
  have hka := okV_kids ha
  have hkb := okV_kids hb
  have hcf := compareFunc_ev 21 b21 ordF l b.l (fun x hx y hy => ih x hx y (hka x hx) (hkb y hy))
  rw [encL_map, encL_map, ← kids_eq b] at hcf
  have hkk : l.map enc = kids (.mk k n d s l) := (kids_eq (.mk k n d s l)).symm
  rw [hkk] at hcf
  rw [ordF_valid ha hb]
  have hll : cmpL ordF l b.l = cmpL ordF (V.mk k n d s l).l b.l := rfl
  rw [hll] at hcf
  generalize V.mk k n d s l = a at *
  clear ih hkk hll
  have ca := class_ev a
  have cb := class_ev b
  have hcc := compare_ev (pcls a.k) (pcls b.k)
  have na := Number_ev ixOK a
  have nb := Number_ev ixOK b
  have hc := cmp_ev (numN a) (numD a) (numN b) (numD b)
  have hcn := compare_ev a.n b.n
  have hcs := compareS_ev a.s b.s
  have hor := or_ev2 [cs a.s b.s, ci a.n b.n, cmpL ordF a.l b.l]
  cases h1 : ci (pcls a.k) (pcls b.k) != 0 with
  | true =>
    have h1' : (Lib.compareInt (pcls a.k) (pcls b.k) != 0) = true := h1
    refine enter2 Tryd.func21 Tryd.ntmps21 rfl rfl fun w0 F0 => ?_
    repeat' (first | (refine qS rfl ?_ ?_; (first | exact True.intro | rfl | assumption | omega | (simp only [inR]; omega) | ((show _ ≤ (9223372036854775807 : Nat)); (try simp only [ByteArray.size_append]); omega) | exact tmod_ok (by omega) (by omega) | exact tdiv_ok (by omega) (by omega) | exact ⟨rfl, by decide, by decide⟩)) | refine qA ?_ | refine qB rfl ?_ | refine qC (by kernel_rfl) ?_ | refine qD ?_ | refine qE ?_ | refine qF ?_ | refine qG ?_ | refine qH rfl ?_ | refine qP (d := 11) rfl rfl rfl rfl rfl rfl b38 (ca) ?_ | refine qP rfl rfl rfl rfl rfl rfl b38 (cb) ?_ | refine qP rfl rfl rfl rfl rfl rfl b23 (hcc) ?_ | (refine qT rfl ?_ ?_; (first | rfl | assumption)) | (refine qU rfl ?_ ?_; (first | rfl | assumption)) | refine qL rfl rfl ?_ | refine qM rfl rfl rfl ?_ | refine qO rfl rfl rfl ?_ | refine qX (b' := true) rfl rfl rfl rfl (by assumption) ?_ | refine qX (b' := false) rfl rfl rfl rfl (by assumption) ?_ | (refine qY rfl rfl rfl rfl ?_ ?_ <;> intro _) | exact (rfl : (_ : D) = _) | exact (rfl : (_ : List D) = _))
  | false =>
  have h1' : (Lib.compareInt (pcls a.k) (pcls b.k) != 0) = false := h1
  cases h2 : pcls a.k == 2 with
  | true =>
    refine enter2 Tryd.func21 Tryd.ntmps21 rfl rfl fun w0 F0 => ?_
    repeat' (first | (refine qS rfl ?_ ?_; (first | exact True.intro | rfl | assumption | omega | (simp only [inR]; omega) | ((show _ ≤ (9223372036854775807 : Nat)); (try simp only [ByteArray.size_append]); omega) | exact tmod_ok (by omega) (by omega) | exact tdiv_ok (by omega) (by omega) | exact ⟨rfl, by decide, by decide⟩)) | refine qA ?_ | refine qB rfl ?_ | refine qC (by kernel_rfl) ?_ | refine qD ?_ | refine qE ?_ | refine qF ?_ | refine qG ?_ | refine qH rfl ?_ | refine qP (d := 11) rfl rfl rfl rfl rfl rfl b38 (ca) ?_ | refine qP (d := 19) rfl rfl rfl rfl rfl rfl b38 (ca) ?_ | refine qP rfl rfl rfl rfl rfl rfl b38 (cb) ?_ | refine qP rfl rfl rfl rfl rfl rfl b23 (hcc) ?_ | refine qP (d := 23) rfl rfl rfl rfl rfl rfl b35 (na) ?_ | refine qP rfl rfl rfl rfl rfl rfl b35 (nb) ?_ | refine qP rfl rfl rfl rfl rfl rfl b37 (hc) ?_ | (refine qT rfl ?_ ?_; (first | rfl | assumption)) | (refine qU rfl ?_ ?_; (first | rfl | assumption)) | refine qL rfl rfl ?_ | refine qM rfl rfl rfl ?_ | refine qO rfl rfl rfl ?_ | refine qX (b' := true) rfl rfl rfl rfl (by assumption) ?_ | refine qX (b' := false) rfl rfl rfl rfl (by assumption) ?_ | (refine qY rfl rfl rfl rfl ?_ ?_ <;> intro _) | exact (rfl : (_ : D) = _) | exact (rfl : (_ : List D) = _))
  | false =>
    refine enter2 Tryd.func21 Tryd.ntmps21 rfl rfl fun w0 F0 => ?_
    repeat' (first | (refine qS rfl ?_ ?_; (first | exact True.intro | rfl | assumption | omega | (simp only [inR]; omega) | ((show _ ≤ (9223372036854775807 : Nat)); (try simp only [ByteArray.size_append]); omega) | exact tmod_ok (by omega) (by omega) | exact tdiv_ok (by omega) (by omega) | exact ⟨rfl, by decide, by decide⟩)) | refine qA ?_ | refine qB rfl ?_ | refine qC (by kernel_rfl) ?_ | refine qD ?_ | refine qE ?_ | refine qF ?_ | refine qG ?_ | refine qH rfl ?_ | refine qP (d := 11) rfl rfl rfl rfl rfl rfl b38 (ca) ?_ | refine qP (d := 19) rfl rfl rfl rfl rfl rfl b38 (ca) ?_ | refine qP rfl rfl rfl rfl rfl rfl b38 (cb) ?_ | refine qP (d := 14) rfl rfl rfl rfl rfl rfl b23 (hcc) ?_ | refine qP rfl rfl rfl rfl rfl rfl b23 (hcn) ?_ | refine qP rfl rfl rfl rfl rfl rfl b24 (hcs) ?_ | refine qP rfl rfl rfl rfl rfl rfl b25 (hcf) ?_ | refine qP rfl rfl rfl rfl rfl rfl b22 (hor) ?_ | (refine qT rfl ?_ ?_; (first | rfl | assumption)) | (refine qU rfl ?_ ?_; (first | rfl | assumption)) | refine qL rfl rfl ?_ | refine qM rfl rfl rfl ?_ | refine qO rfl rfl rfl ?_ | refine qX (b' := true) rfl rfl rfl rfl (by assumption) ?_ | refine qX (b' := false) rfl rfl rfl rfl (by assumption) ?_ | (refine qY rfl rfl rfl rfl ?_ ?_ <;> intro _) | exact (rfl : (_ : D) = _) | exact (rfl : (_ : List D) = _))
theorem Order_ev (a : V) : ∀ b : V, Ev E 7 [enc a, enc b] (.d (.int (ordF a b))) := by
  refine vind (P := fun a => ∀ b : V, Ev E 7 [enc a, enc b] (.d (.int (ordF a b)))) (fun k n d s l ih b => ?_) a
  have hcf := compareFunc_ev 7 b7 ordF l b.l (fun x hx y hy => ih x hx y)
  rw [encL_map, encL_map, ← kids_eq b] at hcf
  have hkk : l.map enc = kids (.mk k n d s l) := (kids_eq (.mk k n d s l)).symm
  rw [hkk] at hcf
  have hll : cmpL ordF l b.l = cmpL ordF (V.mk k n d s l).l b.l := rfl
  rw [hll] at hcf
  generalize V.mk k n d s l = a at *
  clear ih hkk hll
  have va := Valid_ev ixOK a
  have vb := Valid_ev ixOK b
  have hck := compare_ev a.k b.k
  have hcn := compare_ev a.n b.n
  have hcd := compare_ev a.d b.d
  have hcs := compareS_ev a.s b.s
  have hor := or_ev2 [ci a.k b.k, ci a.n b.n, ci a.d b.d, cs a.s b.s, cmpL ordF a.l b.l]
  cases h1 : Val.okV a with
  | true =>
    cases h2 : Val.okV b with
    | true =>
      have ho := order_ev2 a b h1 h2
      refine enter2 Tryd.func7 Tryd.ntmps7 rfl rfl fun w0 F0 => ?_
      repeat' (first | (refine qS rfl ?_ ?_; (first | exact True.intro | rfl | assumption | omega | (simp only [inR]; omega) | ((show _ ≤ (9223372036854775807 : Nat)); (try simp only [ByteArray.size_append]); omega) | exact tmod_ok (by omega) (by omega) | exact tdiv_ok (by omega) (by omega) | exact ⟨rfl, by decide, by decide⟩)) | refine qA ?_ | refine qB rfl ?_ | refine qC (by kernel_rfl) ?_ | refine qD ?_ | refine qE ?_ | refine qF ?_ | refine qG ?_ | refine qH rfl ?_ | refine qP (d := 8) rfl rfl rfl rfl rfl rfl b10 (va) ?_ | refine qP rfl rfl rfl rfl rfl rfl b10 (vb) ?_ | refine qP rfl rfl rfl rfl rfl rfl b21 (ho) ?_ | (refine qT rfl ?_ ?_; (first | rfl | assumption)) | (refine qU rfl ?_ ?_; (first | rfl | assumption)) | refine qL rfl rfl ?_ | refine qM rfl rfl rfl ?_ | refine qO rfl rfl rfl ?_ | refine qX (b' := true) rfl rfl rfl rfl (by assumption) ?_ | refine qX (b' := false) rfl rfl rfl rfl (by assumption) ?_ | (refine qY rfl rfl rfl rfl ?_ ?_ <;> intro _) | exact (rfl : (_ : D) = _) | exact (rfl : (_ : List D) = _))
    | false =>
      have e : ordF a b = -1 := by rw [ordF_eq, stepO, h1, h2]; rfl
      rw [e]
      refine enter2 Tryd.func7 Tryd.ntmps7 rfl rfl fun w0 F0 => ?_
      repeat' (first | (refine qS rfl ?_ ?_; (first | exact True.intro | rfl | assumption | omega | (simp only [inR]; omega) | ((show _ ≤ (9223372036854775807 : Nat)); (try simp only [ByteArray.size_append]); omega) | exact tmod_ok (by omega) (by omega) | exact tdiv_ok (by omega) (by omega) | exact ⟨rfl, by decide, by decide⟩)) | refine qA ?_ | refine qB rfl ?_ | refine qC (by kernel_rfl) ?_ | refine qD ?_ | refine qE ?_ | refine qF ?_ | refine qG ?_ | refine qH rfl ?_ | refine qP (d := 8) rfl rfl rfl rfl rfl rfl b10 (va) ?_ | refine qP rfl rfl rfl rfl rfl rfl b10 (vb) ?_ | (refine qT rfl ?_ ?_; (first | rfl | assumption)) | (refine qU rfl ?_ ?_; (first | rfl | assumption)) | refine qL rfl rfl ?_ | refine qM rfl rfl rfl ?_ | refine qO rfl rfl rfl ?_ | refine qX (b' := true) rfl rfl rfl rfl (by assumption) ?_ | refine qX (b' := false) rfl rfl rfl rfl (by assumption) ?_ | (refine qY rfl rfl rfl rfl ?_ ?_ <;> intro _) | exact (rfl : (_ : D) = _) | exact (rfl : (_ : List D) = _))
  | false =>
    cases h2 : Val.okV b with
    | true =>
      have e : ordF a b = 1 := by rw [ordF_eq, stepO, h1, h2]; rfl
      rw [e]
      refine enter2 Tryd.func7 Tryd.ntmps7 rfl rfl fun w0 F0 => ?_
      repeat' (first | (refine qS rfl ?_ ?_; (first | exact True.intro | rfl | assumption | omega | (simp only [inR]; omega) | ((show _ ≤ (9223372036854775807 : Nat)); (try simp only [ByteArray.size_append]); omega) | exact tmod_ok (by omega) (by omega) | exact tdiv_ok (by omega) (by omega) | exact ⟨rfl, by decide, by decide⟩)) | refine qA ?_ | refine qB rfl ?_ | refine qC (by kernel_rfl) ?_ | refine qD ?_ | refine qE ?_ | refine qF ?_ | refine qG ?_ | refine qH rfl ?_ | refine qP (d := 8) rfl rfl rfl rfl rfl rfl b10 (va) ?_ | refine qP rfl rfl rfl rfl rfl rfl b10 (vb) ?_ | (refine qT rfl ?_ ?_; (first | rfl | assumption)) | (refine qU rfl ?_ ?_; (first | rfl | assumption)) | refine qL rfl rfl ?_ | refine qM rfl rfl rfl ?_ | refine qO rfl rfl rfl ?_ | refine qX (b' := true) rfl rfl rfl rfl (by assumption) ?_ | refine qX (b' := false) rfl rfl rfl rfl (by assumption) ?_ | (refine qY rfl rfl rfl rfl ?_ ?_ <;> intro _) | exact (rfl : (_ : D) = _) | exact (rfl : (_ : List D) = _))
    | false =>
      have e : ordF a b = orL [ci a.k b.k, ci a.n b.n, ci a.d b.d, cs a.s b.s, cmpL ordF a.l b.l] := by
        rw [ordF_eq, stepO, h1, h2]
        simp only [bne_self_eq_false, Bool.not_false, cond_false, cond_true, headO, orL]
        have : orI (cmpL ordF a.l b.l) 0 = cmpL ordF a.l b.l := by
          unfold orI
          cases hq : cmpL ordF a.l b.l != 0 with
          | true => rfl
          | false => simp only [cond_false]; exact (by simpa using hq : cmpL ordF a.l b.l = 0).symm
        rw [this]
      rw [e]
      refine enter2 Tryd.func7 Tryd.ntmps7 rfl rfl fun w0 F0 => ?_
      repeat' (first | (refine qS rfl ?_ ?_; (first | exact True.intro | rfl | assumption | omega | (simp only [inR]; omega) | ((show _ ≤ (9223372036854775807 : Nat)); (try simp only [ByteArray.size_append]); omega) | exact tmod_ok (by omega) (by omega) | exact tdiv_ok (by omega) (by omega) | exact ⟨rfl, by decide, by decide⟩)) | refine qA ?_ | refine qB rfl ?_ | refine qC (by kernel_rfl) ?_ | refine qD ?_ | refine qE ?_ | refine qF ?_ | refine qG ?_ | refine qH rfl ?_ | refine qP (d := 8) rfl rfl rfl rfl rfl rfl b10 (va) ?_ | refine qP rfl rfl rfl rfl rfl rfl b10 (vb) ?_ | refine qP (d := 27) rfl rfl rfl rfl rfl rfl b23 (hck) ?_ | refine qP (d := 32) rfl rfl rfl rfl rfl rfl b23 (hcn) ?_ | refine qP (d := 37) rfl rfl rfl rfl rfl rfl b23 (hcd) ?_ | refine qP rfl rfl rfl rfl rfl rfl b24 (hcs) ?_ | refine qP rfl rfl rfl rfl rfl rfl b25 (hcf) ?_ | refine qP rfl rfl rfl rfl rfl rfl b22 (hor) ?_ | (refine qT rfl ?_ ?_; (first | rfl | assumption)) | (refine qU rfl ?_ ?_; (first | rfl | assumption)) | refine qL rfl rfl ?_ | refine qM rfl rfl rfl ?_ | refine qO rfl rfl rfl ?_ | refine qX (b' := true) rfl rfl rfl rfl (by assumption) ?_ | refine qX (b' := false) rfl rfl rfl rfl (by assumption) ?_ | (refine qY rfl rfl rfl rfl ?_ ?_ <;> intro _) | exact (rfl : (_ : D) = _) | exact (rfl : (_ : List D) = _))
/-! ## Equality -/
theorem fval_eq {n d n' d' : Int} (h : fval n d = true) (h' : fval n' d' = true) (he : n * d' = n' * d) : n = n' ∧ d = d' := by
  simp only [fval, Bool.and_eq_true, decide_eq_true_eq, beq_iff_eq] at h h'
  have g : Int.gcd n d = 1 := by have := h.2.2.2; omega
  have g' : Int.gcd n' d' = 1 := by have := h'.2.2.2; omega
  have key : ∀ {n d n' d' : Int}, Int.gcd n d = 1 → n * d' = n' * d → d ∣ d' := by
    intro n d n' d' g he
    have hdv : d ∣ n * d' := ⟨n', by rw [he, Int.mul_comm]⟩
    have h0 : d.natAbs ∣ d'.natAbs * n.natAbs := by
      have := Int.natAbs_dvd_natAbs.2 hdv
      rwa [Int.natAbs_mul, Nat.mul_comm] at this
    have hc : Nat.Coprime d.natAbs n.natAbs := by
      unfold Nat.Coprime
      rw [Nat.gcd_comm]
      exact g
    exact Int.natAbs_dvd_natAbs.1 (hc.dvd_of_dvd_mul_right h0)
  have h1 : d ∣ d' := key g he
  have h2 : d' ∣ d := key g' he.symm
  have hd : d = d' := Int.dvd_antisymm (by omega) (by omega) h1 h2
  refine ⟨?_, hd⟩
  rw [hd] at he
  exact Int.eq_of_mul_eq_mul_right (by omega) he
theorem fval_num {v : V} (h : isNum v = true) : fval (numN v) (numD v) = true := by
  have hok : Val.okV v = true := by unfold isNum at h; simp only [Bool.and_eq_true] at h; exact h.2
  have hk : v.k = 2 ∨ v.k = 3 := by unfold isNum at h; simp only [Bool.and_eq_true, Bool.or_eq_true, beq_iff_eq] at h; exact h.1
  unfold numN numD
  rw [h]
  simp only [cond_true]
  obtain ⟨k, n, d, s, l⟩ := v
  simp only [V.k] at hk
  unfold Val.okV at hok
  rw [okN_flat 8 k n d s l (by omega) (by omega)] at hok
  rcases hk with rfl | rfl
  · simp [okFlat, V.k, V.n, V.d, V.s, V.l] at hok
    simp [V.k, V.n, fval, hok.2]
  · simp [okFlat, V.k, V.n, V.d, V.s, V.l] at hok
    simpa [V.k, V.n, V.d] using hok.2.2
theorem cmpQ_zero {a b : V} (ha : isNum a = true) (hb : isNum b = true) : (cmpQ (numN a) (numD a) (numN b) (numD b) == 0) = ((numN a == numN b) && (numD a == numD b)) := by
  have fa := fval_num ha
  have fb := fval_num hb
  have e : cmpQ (numN a) (numD a) (numN b) (numD b) = sgn (numN a * numD b - numN b * numD a) := by
    unfold cmpQ fzn fzd
    rw [fa, fb]
    rfl
  rw [e, Bool.eq_iff_iff]
  simp only [beq_iff_eq, Bool.and_eq_true]
  constructor
  · intro h
    refine fval_eq fa fb ?_
    unfold sgn at h
    split at h
    · cases h
    · split at h
      · cases h
      · omega
  · rintro ⟨h1, h2⟩
    rw [h1, h2, Int.sub_self]
    rfl
def stepE (a b : V) (t : Int) : Int :=
  bif a.k == 0 || b.k == 0 || !Val.okV a || !Val.okV b then 1 else
  bif isNum a && isNum b then tt (cmpQ (numN a) (numD a) (numN b) (numD b) == 0) else
  bif a.k != b.k then 0 else
  bif a.k == 4 then tt (a.s.toList == b.s.toList) else
  bif a.k != 8 && a.k != 7 then tt (a.n == b.n) else
  bif a.l.length != b.l.length then 0 else t
mutual
def eqF : V → V → Int
  | .mk k n d s l, b => stepE (.mk k n d s l) b (eqL l b.l 2)
def eqL : List V → List V → Int → Int
  | x :: r, y :: q, t => eqL r q (min (kn t) (kn (eqF x y)))
  | [], _, t => t
  | _ :: _, [], t => t
end
def eqM (g : V → V → Int) : List V → List V → Int → Int
  | x :: r, y :: q, t => eqM g r q (min (kn t) (kn (g x y)))
  | [], _, t => t
  | _ :: _, [], t => t
theorem eqL_eq : ∀ (a b : List V) (t : Int), eqL a b t = eqM eqF a b t
  | [], b, t => by simp [eqL, eqM]
  | _ :: _, [], t => by simp [eqL, eqM]
  | x :: r, y :: q, t => by simp only [eqL, eqM]; rw [eqL_eq r q]
theorem eqF_eq (a b : V) : eqF a b = stepE a b (eqM eqF a.l b.l 2) := by
  cases a
  simp only [eqF, eqL_eq, V.l]
theorem tt_rng (b : Bool) : 0 ≤ tt b ∧ tt b ≤ 2 := by cases b <;> decide
structure SE (a b : List V) where
  i : Nat
  t : Int
  hi : i ≤ a.length
  ok : eqM eqF a b 2 = eqM eqF (a.drop i) (b.drop i) t
end Go.Proofs.YtpjnngfjbcjikaaDoor
