/- Equality and Less, by both texts. Conditions: none. -/
import Derived.Test.YtpjnngfjbcjikaaDoorM24
namespace Go.Proofs.YtpjnngfjbcjikaaDoor
open Go Go.Abs Go.Val Go.RowKit
attribute [local irreducible] go SGo HasBody Ev ExtEv EvO

set_option maxHeartbeats 2000000 in
theorem equal_ev (a : V) : ∀ b : V, Val.okV a = true → Val.okV b = true → Ev E 26 [enc a, enc b] (.d (.int (eqF a b))) := by
  refine vind (P := fun a => ∀ b : V, Val.okV a = true → Val.okV b = true → Ev E 26 [enc a, enc b] (.d (.int (eqF a b)))) (fun k n d s l ih b h3 h4 => ?_) a
  refine Ev.fit fun hfit => ?_
  obtain ⟨-, -, -, -, hma, -⟩ := fit_enc (hfit (enc (.mk k n d s l)) (by simp))
  rw [eqF_eq]
  have ih' : ∀ x ∈ (V.mk k n d s l).l, ∀ y : V, Val.okV x = true → Val.okV y = true → Ev E 26 [enc x, enc y] (.d (.int (eqF x y))) := ih
  generalize V.mk k n d s l = a at *
  clear ih
  have na := Number_ev ixOK a
  have nb := Number_ev ixOK b
  have hla : (kids a).length = a.l.length := kids_len a
  have hlb : (kids b).length = b.l.length := kids_len b
  have hka := okV_kids h3
  have hkb := okV_kids h4
  unfold stepE
  rw [h3, h4]
  simp only [Bool.or_false, Bool.not_true]
  cases h1 : a.k == 0 with
  | true =>
    simp only [Bool.true_or, cond_true]
    refine enter2 Tryd.func26 Tryd.ntmps26 rfl rfl fun w0 F0 => ?_
    repeat' (first | (refine qS rfl ?_ ?_; (first | exact True.intro | rfl | assumption | omega | (simp only [inR]; omega) | ((show _ ≤ (9223372036854775807 : Nat)); (try simp only [ByteArray.size_append]); omega) | exact tmod_ok (by omega) (by omega) | exact tdiv_ok (by omega) (by omega) | exact ⟨rfl, by decide, by decide⟩)) | refine qA ?_ | refine qB rfl ?_ | refine qC (by kernel_rfl) ?_ | refine qD ?_ | refine qE ?_ | refine qF ?_ | refine qG ?_ | refine qH rfl ?_ | (refine qT rfl ?_ ?_; (first | rfl | assumption)) | (refine qU rfl ?_ ?_; (first | rfl | assumption)) | refine qL rfl rfl ?_ | refine qM rfl rfl rfl ?_ | refine qO rfl rfl rfl ?_ | refine qX (b' := true) rfl rfl rfl rfl (by assumption) ?_ | refine qX (b' := false) rfl rfl rfl rfl (by assumption) ?_ | (refine qY rfl rfl rfl rfl ?_ ?_ <;> intro _) | exact (rfl : (_ : D) = _) | exact (rfl : (_ : List D) = _))
  | false =>
  cases h2 : b.k == 0 with
  | true =>
    simp only [Bool.or_true, cond_true]
    refine enter2 Tryd.func26 Tryd.ntmps26 rfl rfl fun w0 F0 => ?_
    repeat' (first | (refine qS rfl ?_ ?_; (first | exact True.intro | rfl | assumption | omega | (simp only [inR]; omega) | ((show _ ≤ (9223372036854775807 : Nat)); (try simp only [ByteArray.size_append]); omega) | exact tmod_ok (by omega) (by omega) | exact tdiv_ok (by omega) (by omega) | exact ⟨rfl, by decide, by decide⟩)) | refine qA ?_ | refine qB rfl ?_ | refine qC (by kernel_rfl) ?_ | refine qD ?_ | refine qE ?_ | refine qF ?_ | refine qG ?_ | refine qH rfl ?_ | (refine qT rfl ?_ ?_; (first | rfl | assumption)) | (refine qU rfl ?_ ?_; (first | rfl | assumption)) | refine qL rfl rfl ?_ | refine qM rfl rfl rfl ?_ | refine qO rfl rfl rfl ?_ | refine qX (b' := true) rfl rfl rfl rfl (by assumption) ?_ | refine qX (b' := false) rfl rfl rfl rfl (by assumption) ?_ | (refine qY rfl rfl rfl rfl ?_ ?_ <;> intro _) | exact (rfl : (_ : D) = _) | exact (rfl : (_ : List D) = _))
  | false =>
  simp only [Bool.or_false, cond_false]
  cases h5 : isNum a with
  | true =>
    rw [h5] at na
    cases h6 : isNum b with
    | true =>
      rw [h6] at nb
      rw [cmpQ_zero h5 h6]
      have hy := truth_ev ((numN a == numN b) && ((numD a == numD b) && true))
      have e2 : tt ((numN a == numN b) && (numD a == numD b)) = tt ((numN a == numN b) && ((numD a == numD b) && true)) := by rw [Bool.and_true]
      simp only [Bool.and_true, cond_true]
      rw [e2]
      refine enter2 Tryd.func26 Tryd.ntmps26 rfl rfl fun w0 F0 => ?_
      repeat' (first | (refine qS rfl ?_ ?_; (first | exact True.intro | rfl | assumption | omega | (simp only [inR]; omega) | ((show _ ≤ (9223372036854775807 : Nat)); (try simp only [ByteArray.size_append]); omega) | exact tmod_ok (by omega) (by omega) | exact tdiv_ok (by omega) (by omega) | exact ⟨rfl, by decide, by decide⟩)) | refine qA ?_ | refine qB rfl ?_ | refine qC (by kernel_rfl) ?_ | refine qD ?_ | refine qE ?_ | refine qF ?_ | refine qG ?_ | refine qH rfl ?_ | refine qP (d := 21) rfl rfl rfl rfl rfl rfl b35 (na) ?_ | refine qP rfl rfl rfl rfl rfl rfl b35 (nb) ?_ | refine qP rfl rfl rfl rfl rfl rfl b36 (hy) ?_ | (refine go_eqS (by kernel_rfl) (by kernel_rfl) rfl rfl rfl rfl rfl rfl rfl rfl (.inl ⟨rfl, rfl⟩) ?_) | (refine qT rfl ?_ ?_; (first | rfl | assumption)) | (refine qU rfl ?_ ?_; (first | rfl | assumption)) | refine qL rfl rfl ?_ | refine qM rfl rfl rfl ?_ | refine qO rfl rfl rfl ?_ | refine qX (b' := true) rfl rfl rfl rfl (by assumption) ?_ | refine qX (b' := false) rfl rfl rfl rfl (by assumption) ?_ | (refine qY rfl rfl rfl rfl ?_ ?_ <;> intro _) | exact (rfl : (_ : D) = _) | exact (rfl : (_ : List D) = _))
    | false =>
      rw [h6] at nb
      simp only [Bool.and_false, cond_false]
      have hk : (a.k != b.k) = true := by
        rw [isNum_k h3] at h5
        rw [isNum_k h4] at h6
        simp only [Bool.or_eq_true, Bool.or_eq_false_iff, beq_iff_eq, beq_eq_false_iff_ne, bne_iff_ne] at *
        omega
      rw [hk]
      refine enter2 Tryd.func26 Tryd.ntmps26 rfl rfl fun w0 F0 => ?_
      repeat' (first | (refine qS rfl ?_ ?_; (first | exact True.intro | rfl | assumption | omega | (simp only [inR]; omega) | ((show _ ≤ (9223372036854775807 : Nat)); (try simp only [ByteArray.size_append]); omega) | exact tmod_ok (by omega) (by omega) | exact tdiv_ok (by omega) (by omega) | exact ⟨rfl, by decide, by decide⟩)) | refine qA ?_ | refine qB rfl ?_ | refine qC (by kernel_rfl) ?_ | refine qD ?_ | refine qE ?_ | refine qF ?_ | refine qG ?_ | refine qH rfl ?_ | refine qP (d := 21) rfl rfl rfl rfl rfl rfl b35 (na) ?_ | refine qP rfl rfl rfl rfl rfl rfl b35 (nb) ?_ | (refine qT rfl ?_ ?_; (first | rfl | assumption)) | (refine qU rfl ?_ ?_; (first | rfl | assumption)) | refine qL rfl rfl ?_ | refine qM rfl rfl rfl ?_ | refine qO rfl rfl rfl ?_ | refine qX (b' := true) rfl rfl rfl rfl (by assumption) ?_ | refine qX (b' := false) rfl rfl rfl rfl (by assumption) ?_ | (refine qY rfl rfl rfl rfl ?_ ?_ <;> intro _) | exact (rfl : (_ : D) = _) | exact (rfl : (_ : List D) = _))
  | false =>
    rw [h5] at na
    simp only [Bool.false_and, cond_false]
    cases h7 : a.k != b.k with
    | true =>
      refine enter2 Tryd.func26 Tryd.ntmps26 rfl rfl fun w0 F0 => ?_
      repeat' (first | (refine qS rfl ?_ ?_; (first | exact True.intro | rfl | assumption | omega | (simp only [inR]; omega) | ((show _ ≤ (9223372036854775807 : Nat)); (try simp only [ByteArray.size_append]); omega) | exact tmod_ok (by omega) (by omega) | exact tdiv_ok (by omega) (by omega) | exact ⟨rfl, by decide, by decide⟩)) | refine qA ?_ | refine qB rfl ?_ | refine qC (by kernel_rfl) ?_ | refine qD ?_ | refine qE ?_ | refine qF ?_ | refine qG ?_ | refine qH rfl ?_ | refine qP (d := 21) rfl rfl rfl rfl rfl rfl b35 (na) ?_ | refine qP rfl rfl rfl rfl rfl rfl b35 (nb) ?_ | (refine qT rfl ?_ ?_; (first | rfl | assumption)) | (refine qU rfl ?_ ?_; (first | rfl | assumption)) | refine qL rfl rfl ?_ | refine qM rfl rfl rfl ?_ | refine qO rfl rfl rfl ?_ | refine qX (b' := true) rfl rfl rfl rfl (by assumption) ?_ | refine qX (b' := false) rfl rfl rfl rfl (by assumption) ?_ | (refine qY rfl rfl rfl rfl ?_ ?_ <;> intro _) | exact (rfl : (_ : D) = _) | exact (rfl : (_ : List D) = _))
    | false =>
    have hkk : a.k = b.k := by simpa using h7
    cases h9 : a.k != 8 && a.k != 7 with
    | true =>
      have e : (bif a.k == 4 then tt (a.s.toList == b.s.toList) else bif true then tt (a.n == b.n) else bif a.l.length != b.l.length then 0 else eqM eqF a.l b.l 2) = tt ((a.n == b.n) && (a.s.toList == b.s.toList)) := by
        obtain ⟨-, a2, a3, -, -⟩ := okV_bare h3
        obtain ⟨-, b2, b3, -, -⟩ := okV_bare h4
        cases h8 : a.k == 4 with
        | true =>
          have h8' : a.k = 4 := by simpa using h8
          rw [a3 h8', b3 (by rw [← hkk]; exact h8')]
          rfl
        | false =>
          have h8' : a.k ≠ 4 := by simpa using h8
          rw [a2 h8', b2 (by rw [← hkk]; exact h8')]
          simp
      rw [e]
      simp only [Bool.and_eq_true] at h9
      obtain ⟨g1, g2⟩ := h9
      have hy := truth_ev ((a.n == b.n) && (a.s.toList == b.s.toList))
      cases g3 : a.n == b.n
      all_goals
        rw [g3] at hy
        simp only [Bool.true_and, Bool.false_and] at hy ⊢
        refine enter2 Tryd.func26 Tryd.ntmps26 rfl rfl fun w0 F0 => ?_
        repeat' (first | (refine qS rfl ?_ ?_; (first | exact True.intro | rfl | assumption | omega | (simp only [inR]; omega) | ((show _ ≤ (9223372036854775807 : Nat)); (try simp only [ByteArray.size_append]); omega) | exact tmod_ok (by omega) (by omega) | exact tdiv_ok (by omega) (by omega) | exact ⟨rfl, by decide, by decide⟩)) | refine qA ?_ | refine qB rfl ?_ | refine qC (by kernel_rfl) ?_ | refine qD ?_ | refine qE ?_ | refine qF ?_ | refine qG ?_ | refine qH rfl ?_ | refine qP (d := 21) rfl rfl rfl rfl rfl rfl b35 (na) ?_ | refine qP rfl rfl rfl rfl rfl rfl b35 (nb) ?_ | refine qP rfl rfl rfl rfl rfl rfl b36 (hy) ?_ | (refine qT rfl ?_ ?_; (first | rfl | assumption)) | (refine qU rfl ?_ ?_; (first | rfl | assumption)) | refine qL rfl rfl ?_ | refine qM rfl rfl rfl ?_ | refine qO rfl rfl rfl ?_ | refine qX (b' := true) rfl rfl rfl rfl (by assumption) ?_ | refine qX (b' := false) rfl rfl rfl rfl (by assumption) ?_ | (refine qY rfl rfl rfl rfl ?_ ?_ <;> intro _) | exact (rfl : (_ : D) = _) | exact (rfl : (_ : List D) = _))
    | false =>
    have h8 : (a.k == 4) = false := by
      rw [beq_eq_false_iff_ne]
      intro h
      rw [h] at h9
      cases h9
    rw [h8]
    simp only [cond_false]
    have key : (a.l.length != b.l.length) = ((kids a).length != (kids b).length) := by rw [hla, hlb]
    have hkk : (((kids a).length : Int) != ((kids b).length : Int)) = (a.l.length != b.l.length) := by
      rw [key]
      cases hq : (kids a).length != (kids b).length with
      | true => simp only [bne_iff_ne] at hq ⊢; omega
      | false => simp only [bne_eq_false_iff_eq] at hq ⊢; omega
    cases h10 : a.l.length != b.l.length with
    | true =>
      rw [h10] at hkk
      cases g1 : a.k != 8
      all_goals
        try rw [g1, Bool.true_and] at h9
        refine enter2 Tryd.func26 Tryd.ntmps26 rfl rfl fun w0 F0 => ?_
        repeat' (first | (refine qS rfl ?_ ?_; (first | exact True.intro | rfl | assumption | omega | (simp only [inR]; omega) | ((show _ ≤ (9223372036854775807 : Nat)); (try simp only [ByteArray.size_append]); omega) | exact tmod_ok (by omega) (by omega) | exact tdiv_ok (by omega) (by omega) | exact ⟨rfl, by decide, by decide⟩)) | refine qA ?_ | refine qB rfl ?_ | refine qC (by kernel_rfl) ?_ | refine qD ?_ | refine qE ?_ | refine qF ?_ | refine qG ?_ | refine qH rfl ?_ | refine qP (d := 21) rfl rfl rfl rfl rfl rfl b35 (na) ?_ | refine qP rfl rfl rfl rfl rfl rfl b35 (nb) ?_ | (refine qT rfl ?_ ?_; (first | rfl | assumption)) | (refine qU rfl ?_ ?_; (first | rfl | assumption)) | refine qL rfl rfl ?_ | refine qM rfl rfl rfl ?_ | refine qO rfl rfl rfl ?_ | refine qX (b' := true) rfl rfl rfl rfl (by assumption) ?_ | refine qX (b' := false) rfl rfl rfl rfl (by assumption) ?_ | (refine qY rfl rfl rfl rfl ?_ ?_ <;> intro _) | exact (rfl : (_ : D) = _) | exact (rfl : (_ : List D) = _))
    | false =>
      rw [h10] at hkk
      have hlen : a.l.length = b.l.length := by simpa using h10
      cases g1 : a.k != 8
      all_goals
        try rw [g1, Bool.true_and] at h9
        refine enter2 Tryd.func26 Tryd.ntmps26 rfl rfl fun w0 F0 => ?_
        repeat' (first | (refine qS rfl ?_ ?_; (first | exact True.intro | rfl | assumption | omega | (simp only [inR]; omega) | ((show _ ≤ (9223372036854775807 : Nat)); (try simp only [ByteArray.size_append]); omega) | exact tmod_ok (by omega) (by omega) | exact tdiv_ok (by omega) (by omega) | exact ⟨rfl, by decide, by decide⟩)) | refine qA ?_ | refine qB rfl ?_ | refine qC (by kernel_rfl) ?_ | refine qD ?_ | refine qE ?_ | refine qF ?_ | refine qG ?_ | refine qH rfl ?_ | refine qP (d := 21) rfl rfl rfl rfl rfl rfl b35 (na) ?_ | refine qP rfl rfl rfl rfl rfl rfl b35 (nb) ?_ | (refine qT rfl ?_ ?_; (first | rfl | assumption)) | (refine qU rfl ?_ ?_; (first | rfl | assumption)) | refine qL rfl rfl ?_ | refine qM rfl rfl rfl ?_ | refine qO rfl rfl rfl ?_ | refine qX (b' := true) rfl rfl rfl rfl (by assumption) ?_ | refine qX (b' := false) rfl rfl rfl rfl (by assumption) ?_ | (refine qY rfl rfl rfl rfl ?_ ?_ <;> intro _) | exact (rfl : (_ : D) = _) | exact (rfl : (_ : List D) = _))
        refine go_loop_ (α := SE a.l b.l) (fun p => ⟨[(2, .ptr 0 0), (3, .ptr 1 0), (9, .d (.int p.t)), (76, .d (.int (kids a).length)), (77, .d (.int p.i))], [.var 24 (.w (.d (enc a))), .var 24 (.w (.d (enc b)))]⟩) (fun p => a.l.length - p.i) ⟨0, 2, by omega, rfl⟩ ((Le.of' 2 rfl (by repeat (first | exact trivial | refine ⟨⟨rfl, rfl⟩, ?_⟩)) (by repeat (first | exact trivial | refine ⟨rfl, ?_⟩)))) ?_
        rintro ⟨i, t, hi, ok⟩
        dsimp only
        rcases Nat.lt_or_ge i a.l.length with hlt | hge
        · have g3 : decide ((i : Int) < ((kids a).length : Int)) = true := by rw [hla]; simpa using hlt
          have hx0 := List.getElem?_eq_getElem hlt
          have hy0 := List.getElem?_eq_getElem (show i < b.l.length by omega)
          generalize a.l[i] = x at hx0
          generalize b.l[i] = y at hy0
          have hx : (kids a)[(i : Int).toNat]? = some (enc x) := kids_get (by rw [Int.toNat_natCast]; exact hx0)
          have hy : (kids b)[(i : Int).toNat]? = some (enc y) := kids_get (by rw [Int.toNat_natCast]; exact hy0)
          have he := ih' x (List.mem_of_getElem? hx0) y (hka x (List.mem_of_getElem? hx0)) (hkb y (List.mem_of_getElem? hy0))
          have hand := and_ev t (eqF x y)
          repeat' (first | (refine qS rfl ?_ ?_; (first | exact True.intro | rfl | assumption | omega | (simp only [inR]; omega) | ((show _ ≤ (9223372036854775807 : Nat)); (try simp only [ByteArray.size_append]); omega) | exact tmod_ok (by omega) (by omega) | exact tdiv_ok (by omega) (by omega) | exact ⟨rfl, by decide, by decide⟩)) | refine qA ?_ | refine qB rfl ?_ | refine qC (by kernel_rfl) ?_ | refine qD ?_ | refine qE ?_ | refine qF ?_ | refine qG ?_ | refine qH rfl ?_ | refine qI (enc x) rfl (guardX_ok rfl) rfl rfl rfl rfl rfl rfl (by first | omega | decide) hx ?_ | refine qI (enc y) rfl (guardX_ok rfl) rfl rfl rfl rfl rfl rfl (by first | omega | decide) hy ?_ | refine qP rfl rfl rfl rfl rfl rfl b26 (he) ?_ | refine qP rfl rfl rfl rfl rfl rfl b41 (hand) ?_ | (refine qT rfl ?_ ?_; (first | rfl | assumption)) | (refine qU rfl ?_ ?_; (first | rfl | assumption)) | refine qL rfl rfl ?_ | refine qM rfl rfl rfl ?_ | refine qO rfl rfl rfl ?_ | refine qX (b' := true) rfl rfl rfl rfl (by assumption) ?_ | refine qX (b' := false) rfl rfl rfl rfl (by assumption) ?_ | (refine qY rfl rfl rfl rfl ?_ ?_ <;> intro _) | exact (rfl : (_ : D) = _) | exact (rfl : (_ : List D) = _))
          refine go_stop ?_
          exact ⟨⟨i + 1, min (kn t) (kn (eqF x y)), by omega, by rw [ok, drop_at hx0, drop_at hy0]; rfl⟩, by dsimp only; omega, (Le.of' 2 rfl (by repeat (first | exact trivial | refine ⟨⟨rfl, rfl⟩, ?_⟩)) (by repeat (first | exact trivial | refine ⟨rfl, ?_⟩)))⟩
        · have g3 : decide ((i : Int) < ((kids a).length : Int)) = false := by rw [hla, decide_eq_false_iff_not]; omega
          rw [ok, List.drop_eq_nil_of_le hge]
          simp only [eqM]
          repeat' (first | (refine qS rfl ?_ ?_; (first | exact True.intro | rfl | assumption | omega | (simp only [inR]; omega) | ((show _ ≤ (9223372036854775807 : Nat)); (try simp only [ByteArray.size_append]); omega) | exact tmod_ok (by omega) (by omega) | exact tdiv_ok (by omega) (by omega) | exact ⟨rfl, by decide, by decide⟩)) | refine qA ?_ | refine qB rfl ?_ | refine qC (by kernel_rfl) ?_ | refine qD ?_ | refine qE ?_ | refine qF ?_ | refine qG ?_ | refine qH rfl ?_ | (refine qT rfl ?_ ?_; (first | rfl | assumption)) | (refine qU rfl ?_ ?_; (first | rfl | assumption)) | refine qL rfl rfl ?_ | refine qM rfl rfl rfl ?_ | refine qO rfl rfl rfl ?_ | refine qX (b' := true) rfl rfl rfl rfl (by assumption) ?_ | refine qX (b' := false) rfl rfl rfl rfl (by assumption) ?_ | (refine qY rfl rfl rfl rfl ?_ ?_ <;> intro _) | exact (rfl : (_ : D) = _) | exact (rfl : (_ : List D) = _))
theorem Equal_ev (a b : V) : Ev E 9 [enc a, enc b] (.d (.int (eqF a b))) := by
  have va := Valid_ev ixOK a
  have vb := Valid_ev ixOK b
  have he := equal_ev a b
  have hq := eqF_eq a b
  unfold stepE at hq
  cases h1 : a.k == 0 with
  | true =>
    rw [h1] at hq
    simp only [Bool.true_or, cond_true] at hq
    rw [hq]
    refine enter2 Tryd.func9 Tryd.ntmps9 rfl rfl fun w0 F0 => ?_
    repeat' (first | (refine qS rfl ?_ ?_; (first | exact True.intro | rfl | assumption | omega | (simp only [inR]; omega) | ((show _ ≤ (9223372036854775807 : Nat)); (try simp only [ByteArray.size_append]); omega) | exact tmod_ok (by omega) (by omega) | exact tdiv_ok (by omega) (by omega) | exact ⟨rfl, by decide, by decide⟩)) | refine qA ?_ | refine qB rfl ?_ | refine qC (by kernel_rfl) ?_ | refine qD ?_ | refine qE ?_ | refine qF ?_ | refine qG ?_ | refine qH rfl ?_ | (refine qT rfl ?_ ?_; (first | rfl | assumption)) | (refine qU rfl ?_ ?_; (first | rfl | assumption)) | refine qL rfl rfl ?_ | refine qM rfl rfl rfl ?_ | refine qO rfl rfl rfl ?_ | refine qX (b' := true) rfl rfl rfl rfl (by assumption) ?_ | refine qX (b' := false) rfl rfl rfl rfl (by assumption) ?_ | (refine qY rfl rfl rfl rfl ?_ ?_ <;> intro _) | exact (rfl : (_ : D) = _) | exact (rfl : (_ : List D) = _))
  | false =>
  cases h2 : b.k == 0 with
  | true =>
    rw [h2] at hq
    simp only [Bool.or_true, Bool.true_or, cond_true] at hq
    rw [hq]
    refine enter2 Tryd.func9 Tryd.ntmps9 rfl rfl fun w0 F0 => ?_
    repeat' (first | (refine qS rfl ?_ ?_; (first | exact True.intro | rfl | assumption | omega | (simp only [inR]; omega) | ((show _ ≤ (9223372036854775807 : Nat)); (try simp only [ByteArray.size_append]); omega) | exact tmod_ok (by omega) (by omega) | exact tdiv_ok (by omega) (by omega) | exact ⟨rfl, by decide, by decide⟩)) | refine qA ?_ | refine qB rfl ?_ | refine qC (by kernel_rfl) ?_ | refine qD ?_ | refine qE ?_ | refine qF ?_ | refine qG ?_ | refine qH rfl ?_ | (refine qT rfl ?_ ?_; (first | rfl | assumption)) | (refine qU rfl ?_ ?_; (first | rfl | assumption)) | refine qL rfl rfl ?_ | refine qM rfl rfl rfl ?_ | refine qO rfl rfl rfl ?_ | refine qX (b' := true) rfl rfl rfl rfl (by assumption) ?_ | refine qX (b' := false) rfl rfl rfl rfl (by assumption) ?_ | (refine qY rfl rfl rfl rfl ?_ ?_ <;> intro _) | exact (rfl : (_ : D) = _) | exact (rfl : (_ : List D) = _))
  | false =>
  cases h3 : Val.okV a with
  | false =>
    rw [h3] at va hq
    simp only [Bool.not_false, Bool.or_true, Bool.true_or, cond_true] at hq
    rw [hq]
    refine enter2 Tryd.func9 Tryd.ntmps9 rfl rfl fun w0 F0 => ?_
    repeat' (first | (refine qS rfl ?_ ?_; (first | exact True.intro | rfl | assumption | omega | (simp only [inR]; omega) | ((show _ ≤ (9223372036854775807 : Nat)); (try simp only [ByteArray.size_append]); omega) | exact tmod_ok (by omega) (by omega) | exact tdiv_ok (by omega) (by omega) | exact ⟨rfl, by decide, by decide⟩)) | refine qA ?_ | refine qB rfl ?_ | refine qC (by kernel_rfl) ?_ | refine qD ?_ | refine qE ?_ | refine qF ?_ | refine qG ?_ | refine qH rfl ?_ | refine qP rfl rfl rfl rfl rfl rfl b10 (va) ?_ | (refine qT rfl ?_ ?_; (first | rfl | assumption)) | (refine qU rfl ?_ ?_; (first | rfl | assumption)) | refine qL rfl rfl ?_ | refine qM rfl rfl rfl ?_ | refine qO rfl rfl rfl ?_ | refine qX (b' := true) rfl rfl rfl rfl (by assumption) ?_ | refine qX (b' := false) rfl rfl rfl rfl (by assumption) ?_ | (refine qY rfl rfl rfl rfl ?_ ?_ <;> intro _) | exact (rfl : (_ : D) = _) | exact (rfl : (_ : List D) = _))
  | true =>
  rw [h3] at va
  cases h4 : Val.okV b with
  | false =>
    rw [h4] at vb hq
    simp only [Bool.not_false, Bool.or_true, cond_true] at hq
    rw [hq]
    refine enter2 Tryd.func9 Tryd.ntmps9 rfl rfl fun w0 F0 => ?_
    repeat' (first | (refine qS rfl ?_ ?_; (first | exact True.intro | rfl | assumption | omega | (simp only [inR]; omega) | ((show _ ≤ (9223372036854775807 : Nat)); (try simp only [ByteArray.size_append]); omega) | exact tmod_ok (by omega) (by omega) | exact tdiv_ok (by omega) (by omega) | exact ⟨rfl, by decide, by decide⟩)) | refine qA ?_ | refine qB rfl ?_ | refine qC (by kernel_rfl) ?_ | refine qD ?_ | refine qE ?_ | refine qF ?_ | refine qG ?_ | refine qH rfl ?_ | refine qP (d := 15) rfl rfl rfl rfl rfl rfl b10 (va) ?_ | refine qP rfl rfl rfl rfl rfl rfl b10 (vb) ?_ | (refine qT rfl ?_ ?_; (first | rfl | assumption)) | (refine qU rfl ?_ ?_; (first | rfl | assumption)) | refine qL rfl rfl ?_ | refine qM rfl rfl rfl ?_ | refine qO rfl rfl rfl ?_ | refine qX (b' := true) rfl rfl rfl rfl (by assumption) ?_ | refine qX (b' := false) rfl rfl rfl rfl (by assumption) ?_ | (refine qY rfl rfl rfl rfl ?_ ?_ <;> intro _) | exact (rfl : (_ : D) = _) | exact (rfl : (_ : List D) = _))
  | true =>
    rw [h4] at vb
    have he' := he h3 h4
    refine enter2 Tryd.func9 Tryd.ntmps9 rfl rfl fun w0 F0 => ?_
    repeat' (first | (refine qS rfl ?_ ?_; (first | exact True.intro | rfl | assumption | omega | (simp only [inR]; omega) | ((show _ ≤ (9223372036854775807 : Nat)); (try simp only [ByteArray.size_append]); omega) | exact tmod_ok (by omega) (by omega) | exact tdiv_ok (by omega) (by omega) | exact ⟨rfl, by decide, by decide⟩)) | refine qA ?_ | refine qB rfl ?_ | refine qC (by kernel_rfl) ?_ | refine qD ?_ | refine qE ?_ | refine qF ?_ | refine qG ?_ | refine qH rfl ?_ | refine qP (d := 15) rfl rfl rfl rfl rfl rfl b10 (va) ?_ | refine qP rfl rfl rfl rfl rfl rfl b10 (vb) ?_ | refine qP rfl rfl rfl rfl rfl rfl b26 (he') ?_ | (refine qT rfl ?_ ?_; (first | rfl | assumption)) | (refine qU rfl ?_ ?_; (first | rfl | assumption)) | refine qL rfl rfl ?_ | refine qM rfl rfl rfl ?_ | refine qO rfl rfl rfl ?_ | refine qX (b' := true) rfl rfl rfl rfl (by assumption) ?_ | refine qX (b' := false) rfl rfl rfl rfl (by assumption) ?_ | (refine qY rfl rfl rfl rfl ?_ ?_ <;> intro _) | exact (rfl : (_ : D) = _) | exact (rfl : (_ : List D) = _))
/-! ## Less -/
def lessF (a b : V) : Int :=
  bif !Val.okV a || !Val.okV b then 1 else
  bif isNum a && isNum b then tt (decide (cmpQ (numN a) (numD a) (numN b) (numD b) < 0)) else
  bif a.k != b.k then 1 else
  bif a.k == 4 then tt (Op.bytesLess a.s.toList b.s.toList) else
  bif a.k == 1 then tt (decide (a.n < b.n)) else 1
theorem Less_ev (a b : V) : Ev E 19 [enc a, enc b] (.d (.int (lessF a b))) := by
  have va := Valid_ev ixOK a
  have vb := Valid_ev ixOK b
  have na := Number_ev ixOK a
  have nb := Number_ev ixOK b
  have hc := cmp_ev (numN a) (numD a) (numN b) (numD b)
  have y1 := truth_ev (decide (cmpQ (numN a) (numD a) (numN b) (numD b) < 0))
  have y2 := truth_ev (Op.bytesLess a.s.toList b.s.toList)
  have y3 := truth_ev (decide (a.n < b.n))
  have hq : lessF a b = bif isNum a && isNum b then tt (decide (cmpQ (numN a) (numD a) (numN b) (numD b) < 0)) else
      bif a.k != b.k || (!Val.okV a || !Val.okV b) then 1 else
      bif a.k == 4 then tt (Op.bytesLess a.s.toList b.s.toList) else bif a.k == 1 then tt (decide (a.n < b.n)) else 1 := by
    unfold lessF
    cases h3 : Val.okV a with
    | false =>
      have : isNum a = false := by unfold isNum; rw [h3, Bool.and_false]
      rw [this]
      simp
    | true =>
      cases h4 : Val.okV b with
      | false =>
        have : isNum b = false := by unfold isNum; rw [h4, Bool.and_false]
        rw [this]
        simp
      | true => simp
  rw [hq]
  clear hq
  cases h5 : isNum a && isNum b with
  | true =>
    simp only [Bool.and_eq_true] at h5
    rw [h5.1] at na
    rw [h5.2] at nb
    refine enter2 Tryd.func19 Tryd.ntmps19 rfl rfl fun w0 F0 => ?_
    repeat' (first | (refine qS rfl ?_ ?_; (first | exact True.intro | rfl | assumption | omega | (simp only [inR]; omega) | ((show _ ≤ (9223372036854775807 : Nat)); (try simp only [ByteArray.size_append]); omega) | exact tmod_ok (by omega) (by omega) | exact tdiv_ok (by omega) (by omega) | exact ⟨rfl, by decide, by decide⟩)) | refine qA ?_ | refine qB rfl ?_ | refine qC (by kernel_rfl) ?_ | refine qD ?_ | refine qE ?_ | refine qF ?_ | refine qG ?_ | refine qH rfl ?_ | refine qP (d := 11) rfl rfl rfl rfl rfl rfl b35 (na) ?_ | refine qP rfl rfl rfl rfl rfl rfl b35 (nb) ?_ | refine qP rfl rfl rfl rfl rfl rfl b37 (hc) ?_ | refine qP rfl rfl rfl rfl rfl rfl b36 (y1) ?_ | (refine qT rfl ?_ ?_; (first | rfl | assumption)) | (refine qU rfl ?_ ?_; (first | rfl | assumption)) | refine qL rfl rfl ?_ | refine qM rfl rfl rfl ?_ | refine qO rfl rfl rfl ?_ | refine qX (b' := true) rfl rfl rfl rfl (by assumption) ?_ | refine qX (b' := false) rfl rfl rfl rfl (by assumption) ?_ | (refine qY rfl rfl rfl rfl ?_ ?_ <;> intro _) | exact (rfl : (_ : D) = _) | exact (rfl : (_ : List D) = _))
  | false =>
    cases h6 : isNum a
    all_goals
      rw [h6] at na h5
      try (rw [Bool.true_and] at h5; rw [h5] at nb)
      cases h7 : a.k != b.k with
      | true =>
        refine enter2 Tryd.func19 Tryd.ntmps19 rfl rfl fun w0 F0 => ?_
        repeat' (first | (refine qS rfl ?_ ?_; (first | exact True.intro | rfl | assumption | omega | (simp only [inR]; omega) | ((show _ ≤ (9223372036854775807 : Nat)); (try simp only [ByteArray.size_append]); omega) | exact tmod_ok (by omega) (by omega) | exact tdiv_ok (by omega) (by omega) | exact ⟨rfl, by decide, by decide⟩)) | refine qA ?_ | refine qB rfl ?_ | refine qC (by kernel_rfl) ?_ | refine qD ?_ | refine qE ?_ | refine qF ?_ | refine qG ?_ | refine qH rfl ?_ | refine qP (d := 11) rfl rfl rfl rfl rfl rfl b35 (na) ?_ | refine qP rfl rfl rfl rfl rfl rfl b35 (nb) ?_ | (refine qT rfl ?_ ?_; (first | rfl | assumption)) | (refine qU rfl ?_ ?_; (first | rfl | assumption)) | refine qL rfl rfl ?_ | refine qM rfl rfl rfl ?_ | refine qO rfl rfl rfl ?_ | refine qX (b' := true) rfl rfl rfl rfl (by assumption) ?_ | refine qX (b' := false) rfl rfl rfl rfl (by assumption) ?_ | (refine qY rfl rfl rfl rfl ?_ ?_ <;> intro _) | exact (rfl : (_ : D) = _) | exact (rfl : (_ : List D) = _))
      | false =>
      cases h3 : Val.okV a with
      | false =>
        rw [h3] at va
        refine enter2 Tryd.func19 Tryd.ntmps19 rfl rfl fun w0 F0 => ?_
        repeat' (first | (refine qS rfl ?_ ?_; (first | exact True.intro | rfl | assumption | omega | (simp only [inR]; omega) | ((show _ ≤ (9223372036854775807 : Nat)); (try simp only [ByteArray.size_append]); omega) | exact tmod_ok (by omega) (by omega) | exact tdiv_ok (by omega) (by omega) | exact ⟨rfl, by decide, by decide⟩)) | refine qA ?_ | refine qB rfl ?_ | refine qC (by kernel_rfl) ?_ | refine qD ?_ | refine qE ?_ | refine qF ?_ | refine qG ?_ | refine qH rfl ?_ | refine qP (d := 11) rfl rfl rfl rfl rfl rfl b35 (na) ?_ | refine qP rfl rfl rfl rfl rfl rfl b35 (nb) ?_ | refine qP rfl rfl rfl rfl rfl rfl b10 (va) ?_ | (refine qT rfl ?_ ?_; (first | rfl | assumption)) | (refine qU rfl ?_ ?_; (first | rfl | assumption)) | refine qL rfl rfl ?_ | refine qM rfl rfl rfl ?_ | refine qO rfl rfl rfl ?_ | refine qX (b' := true) rfl rfl rfl rfl (by assumption) ?_ | refine qX (b' := false) rfl rfl rfl rfl (by assumption) ?_ | (refine qY rfl rfl rfl rfl ?_ ?_ <;> intro _) | exact (rfl : (_ : D) = _) | exact (rfl : (_ : List D) = _))
      | true =>
      rw [h3] at va
      cases h4 : Val.okV b with
      | false =>
        rw [h4] at vb
        refine enter2 Tryd.func19 Tryd.ntmps19 rfl rfl fun w0 F0 => ?_
        repeat' (first | (refine qS rfl ?_ ?_; (first | exact True.intro | rfl | assumption | omega | (simp only [inR]; omega) | ((show _ ≤ (9223372036854775807 : Nat)); (try simp only [ByteArray.size_append]); omega) | exact tmod_ok (by omega) (by omega) | exact tdiv_ok (by omega) (by omega) | exact ⟨rfl, by decide, by decide⟩)) | refine qA ?_ | refine qB rfl ?_ | refine qC (by kernel_rfl) ?_ | refine qD ?_ | refine qE ?_ | refine qF ?_ | refine qG ?_ | refine qH rfl ?_ | refine qP (d := 11) rfl rfl rfl rfl rfl rfl b35 (na) ?_ | refine qP rfl rfl rfl rfl rfl rfl b35 (nb) ?_ | refine qP (d := 37) rfl rfl rfl rfl rfl rfl b10 (va) ?_ | refine qP rfl rfl rfl rfl rfl rfl b10 (vb) ?_ | (refine qT rfl ?_ ?_; (first | rfl | assumption)) | (refine qU rfl ?_ ?_; (first | rfl | assumption)) | refine qL rfl rfl ?_ | refine qM rfl rfl rfl ?_ | refine qO rfl rfl rfl ?_ | refine qX (b' := true) rfl rfl rfl rfl (by assumption) ?_ | refine qX (b' := false) rfl rfl rfl rfl (by assumption) ?_ | (refine qY rfl rfl rfl rfl ?_ ?_ <;> intro _) | exact (rfl : (_ : D) = _) | exact (rfl : (_ : List D) = _))
      | true =>
      rw [h4] at vb
      cases h8 : a.k == 4 with
      | true =>
        refine enter2 Tryd.func19 Tryd.ntmps19 rfl rfl fun w0 F0 => ?_
        repeat' (first | (refine qS rfl ?_ ?_; (first | exact True.intro | rfl | assumption | omega | (simp only [inR]; omega) | ((show _ ≤ (9223372036854775807 : Nat)); (try simp only [ByteArray.size_append]); omega) | exact tmod_ok (by omega) (by omega) | exact tdiv_ok (by omega) (by omega) | exact ⟨rfl, by decide, by decide⟩)) | refine qA ?_ | refine qB rfl ?_ | refine qC (by kernel_rfl) ?_ | refine qD ?_ | refine qE ?_ | refine qF ?_ | refine qG ?_ | refine qH rfl ?_ | refine qP (d := 11) rfl rfl rfl rfl rfl rfl b35 (na) ?_ | refine qP rfl rfl rfl rfl rfl rfl b35 (nb) ?_ | refine qP (d := 37) rfl rfl rfl rfl rfl rfl b10 (va) ?_ | refine qP rfl rfl rfl rfl rfl rfl b10 (vb) ?_ | refine qP rfl rfl rfl rfl rfl rfl b36 (y2) ?_ | (refine qT rfl ?_ ?_; (first | rfl | assumption)) | (refine qU rfl ?_ ?_; (first | rfl | assumption)) | refine qL rfl rfl ?_ | refine qM rfl rfl rfl ?_ | refine qO rfl rfl rfl ?_ | refine qX (b' := true) rfl rfl rfl rfl (by assumption) ?_ | refine qX (b' := false) rfl rfl rfl rfl (by assumption) ?_ | (refine qY rfl rfl rfl rfl ?_ ?_ <;> intro _) | exact (rfl : (_ : D) = _) | exact (rfl : (_ : List D) = _))
      | false =>
      cases h9 : a.k == 1 with
      | true =>
        refine enter2 Tryd.func19 Tryd.ntmps19 rfl rfl fun w0 F0 => ?_
        repeat' (first | (refine qS rfl ?_ ?_; (first | exact True.intro | rfl | assumption | omega | (simp only [inR]; omega) | ((show _ ≤ (9223372036854775807 : Nat)); (try simp only [ByteArray.size_append]); omega) | exact tmod_ok (by omega) (by omega) | exact tdiv_ok (by omega) (by omega) | exact ⟨rfl, by decide, by decide⟩)) | refine qA ?_ | refine qB rfl ?_ | refine qC (by kernel_rfl) ?_ | refine qD ?_ | refine qE ?_ | refine qF ?_ | refine qG ?_ | refine qH rfl ?_ | refine qP (d := 11) rfl rfl rfl rfl rfl rfl b35 (na) ?_ | refine qP rfl rfl rfl rfl rfl rfl b35 (nb) ?_ | refine qP (d := 37) rfl rfl rfl rfl rfl rfl b10 (va) ?_ | refine qP rfl rfl rfl rfl rfl rfl b10 (vb) ?_ | refine qP rfl rfl rfl rfl rfl rfl b36 (y3) ?_ | (refine qT rfl ?_ ?_; (first | rfl | assumption)) | (refine qU rfl ?_ ?_; (first | rfl | assumption)) | refine qL rfl rfl ?_ | refine qM rfl rfl rfl ?_ | refine qO rfl rfl rfl ?_ | refine qX (b' := true) rfl rfl rfl rfl (by assumption) ?_ | refine qX (b' := false) rfl rfl rfl rfl (by assumption) ?_ | (refine qY rfl rfl rfl rfl ?_ ?_ <;> intro _) | exact (rfl : (_ : D) = _) | exact (rfl : (_ : List D) = _))
      | false =>
        refine enter2 Tryd.func19 Tryd.ntmps19 rfl rfl fun w0 F0 => ?_
        repeat' (first | (refine qS rfl ?_ ?_; (first | exact True.intro | rfl | assumption | omega | (simp only [inR]; omega) | ((show _ ≤ (9223372036854775807 : Nat)); (try simp only [ByteArray.size_append]); omega) | exact tmod_ok (by omega) (by omega) | exact tdiv_ok (by omega) (by omega) | exact ⟨rfl, by decide, by decide⟩)) | refine qA ?_ | refine qB rfl ?_ | refine qC (by kernel_rfl) ?_ | refine qD ?_ | refine qE ?_ | refine qF ?_ | refine qG ?_ | refine qH rfl ?_ | refine qP (d := 11) rfl rfl rfl rfl rfl rfl b35 (na) ?_ | refine qP rfl rfl rfl rfl rfl rfl b35 (nb) ?_ | refine qP (d := 37) rfl rfl rfl rfl rfl rfl b10 (va) ?_ | refine qP rfl rfl rfl rfl rfl rfl b10 (vb) ?_ | (refine qT rfl ?_ ?_; (first | rfl | assumption)) | (refine qU rfl ?_ ?_; (first | rfl | assumption)) | refine qL rfl rfl ?_ | refine qM rfl rfl rfl ?_ | refine qO rfl rfl rfl ?_ | refine qX (b' := true) rfl rfl rfl rfl (by assumption) ?_ | refine qX (b' := false) rfl rfl rfl rfl (by assumption) ?_ | (refine qY rfl rfl rfl rfl ?_ ?_ <;> intro _) | exact (rfl : (_ : D) = _) | exact (rfl : (_ : List D) = _))
end Go.Proofs.YtpjnngfjbcjikaaDoor
