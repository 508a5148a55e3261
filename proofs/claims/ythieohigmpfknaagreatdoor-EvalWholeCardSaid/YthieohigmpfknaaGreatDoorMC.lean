/- Equality and Less, by both texts; Lists and paths as values, and the worked examples of the chapter; From rows' readings to values; the listed variables as the engine wants them; a world for the witnesses; What smallness gives: short lists and short texts; Plain laws of the orders: antisymmetry, symmetry; Division of a double word by a word, as the library does it: two digits, each guessed and set right; The library's division of a double word by a word; Quotients and remainders of wide numbers, bounded products, and the reference's long division; The reference's long division and its narrowin. Conditions: each part's own, as it says. -/
import Derived.Test.YthieohigmpfknaaGreatDoorGC
import Derived.Test.YthieohigmpfknaaGreatDoorMB
import Derived.Test.YthieohigmpfknaaGreatDoorGB
import Derived.Test.YthieohigmpfknaaGreatDoorRows
import Derived.Test.YthieohigmpfknaaGreatDoorTie
import Derived.ProofKit
import Derived.Test.YthieohigmpfknaaGreatDoorMA
set_option linter.unusedVariables false
set_option linter.unusedSimpArgs false
/- Equality and Less, by both texts. Conditions: none. -/
namespace Go.Proofs.YthieohigmpfknaaGreatDoor
open Go Go.Abs Go.Val Go.RowKit
attribute [local irreducible] go SGo HasBody Ev ExtEv EvO

set_option maxHeartbeats 2000000 in
theorem equal_ev (a : V) : ∀ b : V, Val.okV a = true → Val.okV b = true → Ev E 201 [enc a, enc b] (.d (.int (eqF a b))) := by
  refine vind (P := fun a => ∀ b : V, Val.okV a = true → Val.okV b = true → Ev E 201 [enc a, enc b] (.d (.int (eqF a b)))) (fun k n d s l ih b h3 h4 => ?_) a
  refine Ev.fit fun hfit => ?_
  obtain ⟨-, -, -, -, hma, -⟩ := fit_enc (hfit (enc (.mk k n d s l)) (by simp))
  rw [eqF_eq]
  have ih' : ∀ x ∈ (V.mk k n d s l).l, ∀ y : V, Val.okV x = true → Val.okV y = true → Ev E 201 [enc x, enc y] (.d (.int (eqF x y))) := ih
  generalize V.mk k n d s l = a at *
  clear ih
  have na := Number_ev ixOK a
  have nb := Number_ev ixOK b
  have hla : (kids a).length = a.l.length := kids_len a
  have hlb : (kids b).length = b.l.length := kids_len b
  have hka := okV_kids h3
  have hkb := okV_kids h4
  unfold stepE
  rw [h3, h4]
  simp only [Bool.or_false, Bool.not_true]
  cases h1 : a.k == 0 with
  | true =>
    simp only [Bool.true_or, cond_true]
    refine enter2 Tryz.func201 Tryz.ntmps201 rfl rfl fun w0 F0 O => ?_
    repeat' (first | refine zS rfl ?_ | refine qA ?_ | refine qB rfl ?_ | refine qD ?_ | refine zT rfl ?_ | refine qL rfl rfl ?_ | refine zX rfl rfl rfl rfl ?_ | exact zD)
  | false =>
  cases h2 : b.k == 0 with
  | true =>
    simp only [Bool.or_true, cond_true]
    refine enter2 Tryz.func201 Tryz.ntmps201 rfl rfl fun w0 F0 O => ?_
    repeat' (first | refine zS rfl ?_ | refine qA ?_ | refine qB rfl ?_ | refine qD ?_ | refine zT rfl ?_ | refine qL rfl rfl ?_ | refine zW rfl rfl rfl rfl ?_ | exact zD)
  | false =>
  simp only [Bool.or_false, cond_false]
  cases h5 : isNum a with
  | true =>
    rw [h5] at na
    cases h6 : isNum b with
    | true =>
      rw [h6] at nb
      rw [cmpQ_zero h5 h6]
      have hy := truth_ev ((numN a == numN b) && ((numD a == numD b) && true))
      have e2 : tt ((numN a == numN b) && (numD a == numD b)) = tt ((numN a == numN b) && ((numD a == numD b) && true)) := by rw [Bool.and_true]
      simp only [Bool.and_true, cond_true]
      rw [e2]
      refine enter2 Tryz.func201 Tryz.ntmps201 rfl rfl fun w0 F0 O => ?_
      repeat' (first | refine zS rfl ?_ | refine qA ?_ | refine qB rfl ?_ | refine qD ?_ | refine qE ?_ | refine qF ?_ | refine qP (d := 21) rfl rfl rfl rfl rfl rfl b55 (na) ?_ | refine qP rfl rfl rfl rfl rfl rfl b55 (nb) ?_ | refine qP rfl rfl rfl rfl rfl rfl b79 (hy) ?_ | (refine go_eqS (by kernel_rfl) (by kernel_rfl) rfl rfl rfl rfl rfl rfl rfl rfl (.inl ⟨rfl, rfl⟩) ?_) | refine zT rfl ?_ | refine zU rfl ?_ | refine qL rfl rfl ?_ | refine zW rfl rfl rfl rfl ?_ | exact zD)
    | false =>
      rw [h6] at nb
      simp only [Bool.and_false, cond_false]
      have hk : (a.k != b.k) = true := by
        rw [isNum_k h3] at h5
        rw [isNum_k h4] at h6
        simp only [Bool.or_eq_true, Bool.or_eq_false_iff, beq_iff_eq, beq_eq_false_iff_ne, bne_iff_ne] at *
        omega
      rw [hk]
      refine enter2 Tryz.func201 Tryz.ntmps201 rfl rfl fun w0 F0 O => ?_
      repeat' (first | refine zS rfl ?_ | refine qA ?_ | refine qB rfl ?_ | refine qD ?_ | refine qE ?_ | refine qF ?_ | refine qP (d := 21) rfl rfl rfl rfl rfl rfl b55 (na) ?_ | refine qP rfl rfl rfl rfl rfl rfl b55 (nb) ?_ | refine zT rfl ?_ | refine zU rfl ?_ | refine qL rfl rfl ?_ | refine zW rfl rfl rfl rfl ?_ | exact zD)
  | false =>
    rw [h5] at na
    simp only [Bool.false_and, cond_false]
    cases h7 : a.k != b.k with
    | true =>
      refine enter2 Tryz.func201 Tryz.ntmps201 rfl rfl fun w0 F0 O => ?_
      repeat' (first | refine zS rfl ?_ | refine qA ?_ | refine qB rfl ?_ | refine qD ?_ | refine qE ?_ | refine qF ?_ | refine qP (d := 21) rfl rfl rfl rfl rfl rfl b55 (na) ?_ | refine qP rfl rfl rfl rfl rfl rfl b55 (nb) ?_ | refine zT rfl ?_ | refine zU rfl ?_ | refine qL rfl rfl ?_ | refine zW rfl rfl rfl rfl ?_ | exact zD)
    | false =>
    have hkk : a.k = b.k := by simpa using h7
    cases h9 : a.k != 8 && a.k != 7 with
    | true =>
      have e : (bif a.k == 4 then tt (a.s.toList == b.s.toList) else bif true then tt (a.n == b.n) else bif a.l.length != b.l.length then 0 else eqM eqF a.l b.l 2) = tt ((a.n == b.n) && (a.s.toList == b.s.toList)) := by
        obtain ⟨-, a2, a3, -, -⟩ := okV_bare h3
        obtain ⟨-, b2, b3, -, -⟩ := okV_bare h4
        cases h8 : a.k == 4 with
        | true =>
          have h8' : a.k = 4 := by simpa using h8
          rw [a3 h8', b3 (by rw [← hkk]; exact h8')]
          rfl
        | false =>
          have h8' : a.k ≠ 4 := by simpa using h8
          rw [a2 h8', b2 (by rw [← hkk]; exact h8')]
          simp
      rw [e]
      simp only [Bool.and_eq_true] at h9
      obtain ⟨g1, g2⟩ := h9
      have hy := truth_ev ((a.n == b.n) && (a.s.toList == b.s.toList))
      cases g3 : a.n == b.n
      all_goals
        rw [g3] at hy
        simp only [Bool.true_and, Bool.false_and] at hy ⊢
        refine enter2 Tryz.func201 Tryz.ntmps201 rfl rfl fun w0 F0 O => ?_
        repeat' (first | refine zS rfl ?_ | refine qA ?_ | refine qB rfl ?_ | refine qD ?_ | refine qE ?_ | refine qF ?_ | refine qP (d := 21) rfl rfl rfl rfl rfl rfl b55 (na) ?_ | refine qP rfl rfl rfl rfl rfl rfl b55 (nb) ?_ | refine qP rfl rfl rfl rfl rfl rfl b79 (hy) ?_ | refine zT rfl ?_ | refine zU rfl ?_ | refine qL rfl rfl ?_ | refine zX rfl rfl rfl rfl ?_ | refine zW rfl rfl rfl rfl ?_ | exact zD)
    | false =>
    have h8 : (a.k == 4) = false := by
      rw [beq_eq_false_iff_ne]
      intro h
      rw [h] at h9
      cases h9
    rw [h8]
    simp only [cond_false]
    have key : (a.l.length != b.l.length) = ((kids a).length != (kids b).length) := by rw [hla, hlb]
    have hkk : (((kids a).length : Int) != ((kids b).length : Int)) = (a.l.length != b.l.length) := by
      rw [key]
      cases hq : (kids a).length != (kids b).length with
      | true => simp only [bne_iff_ne] at hq ⊢; omega
      | false => simp only [bne_eq_false_iff_eq] at hq ⊢; omega
    cases h10 : a.l.length != b.l.length with
    | true =>
      rw [h10] at hkk
      cases g1 : a.k != 8
      all_goals
        try rw [g1, Bool.true_and] at h9
        refine enter2 Tryz.func201 Tryz.ntmps201 rfl rfl fun w0 F0 O => ?_
        repeat' (first | refine zS rfl ?_ | refine qA ?_ | refine qB rfl ?_ | refine qD ?_ | refine qE ?_ | refine qF ?_ | refine qP (d := 21) rfl rfl rfl rfl rfl rfl b55 (na) ?_ | refine qP rfl rfl rfl rfl rfl rfl b55 (nb) ?_ | refine zT rfl ?_ | refine zU rfl ?_ | refine qL rfl rfl ?_ | refine zX rfl rfl rfl rfl ?_ | refine zW rfl rfl rfl rfl ?_ | exact zD)
    | false =>
      rw [h10] at hkk
      have hlen : a.l.length = b.l.length := by simpa using h10
      cases g1 : a.k != 8
      all_goals
        try rw [g1, Bool.true_and] at h9
        refine enter2 Tryz.func201 Tryz.ntmps201 rfl rfl fun w0 F0 O => ?_
        repeat' (first | refine zS rfl ?_ | refine qA ?_ | refine qB rfl ?_ | refine qD ?_ | refine qE ?_ | refine qF ?_ | refine qG ?_ | refine qP (d := 21) rfl rfl rfl rfl rfl rfl b55 (na) ?_ | refine qP rfl rfl rfl rfl rfl rfl b55 (nb) ?_ | refine zU rfl ?_ | refine zX rfl rfl rfl rfl ?_ | refine zW rfl rfl rfl rfl ?_)
        refine go_loop_ (α := SE a.l b.l) (fun p => ⟨[(2, .ptr 0 0), (3, .ptr 1 0), (9, .d (.int p.t)), (76, .d (.int (kids a).length)), (77, .d (.int p.i))], [.var 28 (.w (.d (enc a))), .var 28 (.w (.d (enc b)))]⟩) (fun p => a.l.length - p.i) ⟨0, 2, by omega, rfl⟩ ((zle 2)) ?_
        rintro ⟨i, t, hi, ok⟩
        dsimp only
        rcases Nat.lt_or_ge i a.l.length with hlt | hge
        · have g3 : decide ((i : Int) < ((kids a).length : Int)) = true := by rw [hla]; simpa using hlt
          have hx0 := List.getElem?_eq_getElem hlt
          have hy0 := List.getElem?_eq_getElem (show i < b.l.length by omega)
          generalize a.l[i] = x at hx0
          generalize b.l[i] = y at hy0
          have hx : (kids a)[(i : Int).toNat]? = some (enc x) := kids_get (by rw [Int.toNat_natCast]; exact hx0)
          have hy : (kids b)[(i : Int).toNat]? = some (enc y) := kids_get (by rw [Int.toNat_natCast]; exact hy0)
          have he := ih' x (List.mem_of_getElem? hx0) y (hka x (List.mem_of_getElem? hx0)) (hkb y (List.mem_of_getElem? hy0))
          have hand := and_ev t (eqF x y)
          repeat' (first | refine zS rfl ?_ | refine qA ?_ | refine qB rfl ?_ | refine qC (by kernel_rfl) ?_ | refine qD ?_ | refine qE ?_ | refine qF ?_ | refine qG ?_ | refine qI (enc x) rfl (guardX_ok rfl) rfl rfl rfl rfl rfl rfl (by first | omega | decide) hx ?_ | refine qI (enc y) rfl (guardX_ok rfl) rfl rfl rfl rfl rfl rfl (by first | omega | decide) hy ?_ | refine qP rfl rfl rfl rfl rfl rfl b201 (he) ?_ | refine qP rfl rfl rfl rfl rfl rfl b104 (hand) ?_ | refine zT rfl ?_)
          refine go_stop ?_
          exact ⟨⟨i + 1, min (kn t) (kn (eqF x y)), by omega, by rw [ok, drop_at hx0, drop_at hy0]; rfl⟩, by dsimp only; omega, (zle 2)⟩
        · have g3 : decide ((i : Int) < ((kids a).length : Int)) = false := by rw [hla, decide_eq_false_iff_not]; omega
          rw [ok, List.drop_eq_nil_of_le hge]
          simp only [eqM]
          repeat' (first | refine zS rfl ?_ | refine qA ?_ | refine qB rfl ?_ | refine qD ?_ | refine qH rfl ?_ | refine zU rfl ?_ | refine qL rfl rfl ?_ | exact zD)
theorem Equal_ev (a b : V) : Ev E 162 [enc a, enc b] (.d (.int (eqF a b))) := by
  have va := Valid_ev ixOK a
  have vb := Valid_ev ixOK b
  have he := equal_ev a b
  have hq := eqF_eq a b
  unfold stepE at hq
  cases h1 : a.k == 0 with
  | true =>
    rw [h1] at hq
    simp only [Bool.true_or, cond_true] at hq
    rw [hq]
    refine enter2 Tryz.func162 Tryz.ntmps162 rfl rfl fun w0 F0 O => ?_
    repeat' (first | refine zS rfl ?_ | refine qA ?_ | refine qB rfl ?_ | refine qD ?_ | refine zT rfl ?_ | refine qL rfl rfl ?_ | refine zX rfl rfl rfl rfl ?_ | exact zD)
  | false =>
  cases h2 : b.k == 0 with
  | true =>
    rw [h2] at hq
    simp only [Bool.or_true, Bool.true_or, cond_true] at hq
    rw [hq]
    refine enter2 Tryz.func162 Tryz.ntmps162 rfl rfl fun w0 F0 O => ?_
    repeat' (first | refine zS rfl ?_ | refine qA ?_ | refine qB rfl ?_ | refine qD ?_ | refine zT rfl ?_ | refine qL rfl rfl ?_ | refine zX rfl rfl rfl rfl ?_ | refine zW rfl rfl rfl rfl ?_ | exact zD)
  | false =>
  cases h3 : Val.okV a with
  | false =>
    rw [h3] at va hq
    simp only [Bool.not_false, Bool.or_true, Bool.true_or, cond_true] at hq
    rw [hq]
    refine enter2 Tryz.func162 Tryz.ntmps162 rfl rfl fun w0 F0 O => ?_
    repeat' (first | refine zS rfl ?_ | refine qA ?_ | refine qB rfl ?_ | refine qD ?_ | refine qP rfl rfl rfl rfl rfl rfl b66 (va) ?_ | refine zT rfl ?_ | refine qL rfl rfl ?_ | refine zW rfl rfl rfl rfl ?_ | exact zD)
  | true =>
  rw [h3] at va
  cases h4 : Val.okV b with
  | false =>
    rw [h4] at vb hq
    simp only [Bool.not_false, Bool.or_true, cond_true] at hq
    rw [hq]
    refine enter2 Tryz.func162 Tryz.ntmps162 rfl rfl fun w0 F0 O => ?_
    repeat' (first | refine zS rfl ?_ | refine qA ?_ | refine qB rfl ?_ | refine qD ?_ | refine qP (d := 15) rfl rfl rfl rfl rfl rfl b66 (va) ?_ | refine qP rfl rfl rfl rfl rfl rfl b66 (vb) ?_ | refine zT rfl ?_ | refine qL rfl rfl ?_ | refine zW rfl rfl rfl rfl ?_ | exact zD)
  | true =>
    rw [h4] at vb
    have he' := he h3 h4
    refine enter2 Tryz.func162 Tryz.ntmps162 rfl rfl fun w0 F0 O => ?_
    repeat' (first | refine zS rfl ?_ | refine qA ?_ | refine qB rfl ?_ | refine qD ?_ | refine qE ?_ | refine qP (d := 15) rfl rfl rfl rfl rfl rfl b66 (va) ?_ | refine qP rfl rfl rfl rfl rfl rfl b66 (vb) ?_ | refine qP rfl rfl rfl rfl rfl rfl b201 (he') ?_ | refine zU rfl ?_ | refine qL rfl rfl ?_ | refine zW rfl rfl rfl rfl ?_ | exact zD)
/-! ## Less -/
def lessF (a b : V) : Int :=
  bif !Val.okV a || !Val.okV b then 1 else
  bif isNum a && isNum b then tt (decide (cmpQ (numN a) (numD a) (numN b) (numD b) < 0)) else
  bif a.k != b.k then 1 else
  bif a.k == 4 then tt (Op.bytesLess a.s.toList b.s.toList) else
  bif a.k == 1 then tt (decide (a.n < b.n)) else 1
theorem Less_ev (a b : V) : Ev E 163 [enc a, enc b] (.d (.int (lessF a b))) := by
  have va := Valid_ev ixOK a
  have vb := Valid_ev ixOK b
  have na := Number_ev ixOK a
  have nb := Number_ev ixOK b
  have hc := cmp_ev (numN a) (numD a) (numN b) (numD b)
  have y1 := truth_ev (decide (cmpQ (numN a) (numD a) (numN b) (numD b) < 0))
  have y2 := truth_ev (Op.bytesLess a.s.toList b.s.toList)
  have y3 := truth_ev (decide (a.n < b.n))
  have hq : lessF a b = bif isNum a && isNum b then tt (decide (cmpQ (numN a) (numD a) (numN b) (numD b) < 0)) else
      bif a.k != b.k || (!Val.okV a || !Val.okV b) then 1 else
      bif a.k == 4 then tt (Op.bytesLess a.s.toList b.s.toList) else bif a.k == 1 then tt (decide (a.n < b.n)) else 1 := by
    unfold lessF
    cases h3 : Val.okV a with
    | false =>
      have : isNum a = false := by unfold isNum; rw [h3, Bool.and_false]
      rw [this]
      simp
    | true =>
      cases h4 : Val.okV b with
      | false =>
        have : isNum b = false := by unfold isNum; rw [h4, Bool.and_false]
        rw [this]
        simp
      | true => simp
  rw [hq]
  clear hq
  cases h5 : isNum a && isNum b with
  | true =>
    simp only [Bool.and_eq_true] at h5
    rw [h5.1] at na
    rw [h5.2] at nb
    refine enter2 Tryz.func163 Tryz.ntmps163 rfl rfl fun w0 F0 O => ?_
    repeat' (first | refine zS rfl ?_ | refine qA ?_ | refine qB rfl ?_ | refine qD ?_ | refine qF ?_ | refine qP (d := 11) rfl rfl rfl rfl rfl rfl b55 (na) ?_ | refine qP rfl rfl rfl rfl rfl rfl b55 (nb) ?_ | refine qP rfl rfl rfl rfl rfl rfl b202 (hc) ?_ | refine qP rfl rfl rfl rfl rfl rfl b79 (y1) ?_ | refine zT rfl ?_ | refine qL rfl rfl ?_ | exact zD)
  | false =>
    cases h6 : isNum a
    all_goals
      rw [h6] at na h5
      try (rw [Bool.true_and] at h5; rw [h5] at nb)
      cases h7 : a.k != b.k with
      | true =>
        refine enter2 Tryz.func163 Tryz.ntmps163 rfl rfl fun w0 F0 O => ?_
        repeat' (first | refine zS rfl ?_ | refine qA ?_ | refine qB rfl ?_ | refine qD ?_ | refine qF ?_ | refine qP (d := 11) rfl rfl rfl rfl rfl rfl b55 (na) ?_ | refine qP rfl rfl rfl rfl rfl rfl b55 (nb) ?_ | refine zT rfl ?_ | refine zU rfl ?_ | refine qL rfl rfl ?_ | refine zX rfl rfl rfl rfl ?_ | exact zD)
      | false =>
      cases h3 : Val.okV a with
      | false =>
        rw [h3] at va
        refine enter2 Tryz.func163 Tryz.ntmps163 rfl rfl fun w0 F0 O => ?_
        repeat' (first | refine zS rfl ?_ | refine qA ?_ | refine qB rfl ?_ | refine qD ?_ | refine qF ?_ | refine qP (d := 11) rfl rfl rfl rfl rfl rfl b55 (na) ?_ | refine qP rfl rfl rfl rfl rfl rfl b55 (nb) ?_ | refine qP rfl rfl rfl rfl rfl rfl b66 (va) ?_ | refine zT rfl ?_ | refine zU rfl ?_ | refine qL rfl rfl ?_ | refine zW rfl rfl rfl rfl ?_ | exact zD)
      | true =>
      rw [h3] at va
      cases h4 : Val.okV b with
      | false =>
        rw [h4] at vb
        refine enter2 Tryz.func163 Tryz.ntmps163 rfl rfl fun w0 F0 O => ?_
        repeat' (first | refine zS rfl ?_ | refine qA ?_ | refine qB rfl ?_ | refine qD ?_ | refine qF ?_ | refine qP (d := 11) rfl rfl rfl rfl rfl rfl b55 (na) ?_ | refine qP rfl rfl rfl rfl rfl rfl b55 (nb) ?_ | refine qP (d := 37) rfl rfl rfl rfl rfl rfl b66 (va) ?_ | refine qP rfl rfl rfl rfl rfl rfl b66 (vb) ?_ | refine zT rfl ?_ | refine zU rfl ?_ | refine qL rfl rfl ?_ | refine zW rfl rfl rfl rfl ?_ | exact zD)
      | true =>
      rw [h4] at vb
      cases h8 : a.k == 4 with
      | true =>
        refine enter2 Tryz.func163 Tryz.ntmps163 rfl rfl fun w0 F0 O => ?_
        repeat' (first | refine zS rfl ?_ | refine qA ?_ | refine qB rfl ?_ | refine qD ?_ | refine qF ?_ | refine qP (d := 11) rfl rfl rfl rfl rfl rfl b55 (na) ?_ | refine qP rfl rfl rfl rfl rfl rfl b55 (nb) ?_ | refine qP (d := 37) rfl rfl rfl rfl rfl rfl b66 (va) ?_ | refine qP rfl rfl rfl rfl rfl rfl b66 (vb) ?_ | refine qP rfl rfl rfl rfl rfl rfl b79 (y2) ?_ | refine zT rfl ?_ | refine zU rfl ?_ | refine qL rfl rfl ?_ | refine zW rfl rfl rfl rfl ?_ | exact zD)
      | false =>
      cases h9 : a.k == 1 with
      | true =>
        refine enter2 Tryz.func163 Tryz.ntmps163 rfl rfl fun w0 F0 O => ?_
        repeat' (first | refine zS rfl ?_ | refine qA ?_ | refine qB rfl ?_ | refine qD ?_ | refine qF ?_ | refine qP (d := 11) rfl rfl rfl rfl rfl rfl b55 (na) ?_ | refine qP rfl rfl rfl rfl rfl rfl b55 (nb) ?_ | refine qP (d := 37) rfl rfl rfl rfl rfl rfl b66 (va) ?_ | refine qP rfl rfl rfl rfl rfl rfl b66 (vb) ?_ | refine qP rfl rfl rfl rfl rfl rfl b79 (y3) ?_ | refine zT rfl ?_ | refine zU rfl ?_ | refine qL rfl rfl ?_ | refine zW rfl rfl rfl rfl ?_ | exact zD)
      | false =>
        refine enter2 Tryz.func163 Tryz.ntmps163 rfl rfl fun w0 F0 O => ?_
        repeat' (first | refine zS rfl ?_ | refine qA ?_ | refine qB rfl ?_ | refine qD ?_ | refine qE ?_ | refine qF ?_ | refine qG ?_ | refine qP (d := 11) rfl rfl rfl rfl rfl rfl b55 (na) ?_ | refine qP rfl rfl rfl rfl rfl rfl b55 (nb) ?_ | refine qP (d := 37) rfl rfl rfl rfl rfl rfl b66 (va) ?_ | refine qP rfl rfl rfl rfl rfl rfl b66 (vb) ?_ | refine zU rfl ?_ | refine qL rfl rfl ?_ | refine zW rfl rfl rfl rfl ?_ | exact zD)
end Go.Proofs.YthieohigmpfknaaGreatDoor

/- Lists and paths as values, and the worked examples of the chapter. Conditions: no list of more than a million elements. -/
namespace Go.Proofs.YthieohigmpfknaaGreatDoor
open Go Go.Abs Go.Val Go.RowKit
attribute [local irreducible] go SGo HasBody Ev ExtEv EvO

def vList (l : List V) : V := .mk 8 0 0 ⟨#[]⟩ l
theorem list_ev (l : List V) (h : nar (vList l) = true) : Ev E 62 [.sl (encL l)] (.d (enc (vList l))) := by
  have hc : Ev E 97 [.sl (encL l)] (.d (.sl (encL l))) := copied_ev (vList l) h
  refine enter1 Tryz.func62 Tryz.ntmps62 rfl rfl fun w0 F0 O => ?_
  repeat' (first | refine zS rfl ?_ | refine qA ?_ | refine qB rfl ?_ | refine qD ?_ | refine qP rfl rfl rfl rfl rfl rfl b97 (hc) ?_ | refine qL rfl rfl ?_ | exact zD)
end Go.Proofs.YthieohigmpfknaaGreatDoor

/- From rows' readings to values; the listed variables as the engine wants them; a world for the witnesses. Conditions: none. -/
namespace Go.Proofs.YthieohigmpfknaaGreatDoor
open Go Go.Abs Go.Val Go.RowKit Go.ChangeShapes Go.WideShapes

theorem ty_V : ∀ {t : TypeId} {x : D}, HasTy Tryz.prog t x → (t = 28 → ∃ v, x = enc v) ∧ (t = 26 → ∃ l, x = .sl (encL l)) := by
  intro t x h
  induction h with
  | bool b h => exact ⟨fun e => (by subst e; rw [Tryz.underlying28] at h; cases h), fun e => (by subst e; rw [Tryz.underlying26] at h; cases h)⟩
  | int n h => exact ⟨fun e => (by subst e; rw [Tryz.underlying28] at h; cases h), fun e => (by subst e; rw [Tryz.underlying26] at h; cases h)⟩
  | str s h => exact ⟨fun e => (by subst e; rw [Tryz.underlying28] at h; cases h), fun e => (by subst e; rw [Tryz.underlying26] at h; cases h)⟩
  | arr ps h _ _ => exact ⟨fun e => (by subst e; rw [Tryz.underlying28] at h; cases h), fun e => (by subst e; rw [Tryz.underlying26] at h; cases h)⟩
  | sl xs h hx ih =>
    refine ⟨fun e => (by subst e; rw [Tryz.underlying28] at h; cases h), fun e => ?_⟩
    subst e
    rw [Tryz.underlying26] at h
    cases h
    have : ∀ ys : List D, (∀ y ∈ ys, ∃ v, y = enc v) → ∃ l, ys = encL l := by
      intro ys
      induction ys with
      | nil => exact fun _ => ⟨[], by simp [encL]⟩
      | cons y r ihr =>
        intro hy
        obtain ⟨v, rfl⟩ := hy y (by simp)
        obtain ⟨l, rfl⟩ := ihr fun z hz => hy z (by simp [hz])
        exact ⟨v :: l, by simp [encL, enc]⟩
    obtain ⟨l, rfl⟩ := this xs fun y hy => (ih y hy).1 rfl
    exact ⟨l, rfl⟩
  | struct parts h hl hp ih =>
    refine ⟨fun e => ?_, fun e => (by subst e; rw [Tryz.underlying26] at h; cases h)⟩
    subst e
    rw [Tryz.underlying28] at h
    cases h
    match parts, hl with
    | [p0, p1, p2, p3, p4], _ =>
      obtain ⟨k, rfl⟩ := HasTy.int_inv Tryz.underlying3 (hp 0 _ p0 rfl rfl)
      obtain ⟨n, rfl⟩ := HasTy.int_inv Tryz.underlying3 (hp 1 _ p1 rfl rfl)
      obtain ⟨d, rfl⟩ := HasTy.int_inv Tryz.underlying3 (hp 2 _ p2 rfl rfl)
      obtain ⟨s, rfl⟩ := HasTy.str_inv Tryz.underlying9 (hp 3 _ p3 rfl rfl)
      obtain ⟨l, rfl⟩ := (ih 4 _ p4 rfl rfl).2 rfl
      exact ⟨.mk k n d s l, rfl⟩
theorem ty_val {x : D} (h : HasTy Tryz.prog 28 x) : ∃ v, x = enc v := (ty_V h).1 rfl
/-- The types that the laws' arguments and the listed variables are made of. -/
def tys : List TypeId := [3, 9, 26, 28, 68]
theorem tys_ok : closedB Tryz.prog tys = true := by kernel_rfl
/-- The rows' list of listed variables. -/
noncomputable def seatLaid : List (String × DataW Unit) := Rows.evalAllRow.laid
theorem gi_of {W : World} (hL : laidMetH Tryz.prog seatLaid W) (hS : W.ShapedOpen Tryz.prog) : E.GI W (F0 W) := by
  rw [MakeChecks.laidMetH_plain _ _ _ (by kernel_rfl)] at hL
  obtain ⟨ps, hLV, -⟩ := hL
  have hlt : ∀ {g : Nat} {v : Value}, W.cell? ⟨g, 0, none⟩ = some v → F0 W g := fun {g v} h => by
    unfold F0
    rcases Nat.lt_or_ge g W.heap.size with h' | h'
    · exact h'
    · unfold World.cell? at h
      simp only at h
      rw [Array.getElem?_eq_none h'] at h
      cases h
  refine ⟨fun e he => ?_, ⟨?_, ?_⟩, ?_, ?_⟩
  · simp only [E, seatG, List.mem_singleton] at he
    subst he
    obtain ⟨x, hm, hs⟩ := listed_D tys tys_ok hLV "graphdb/frac.zero" Rows.laid_graphdb_frac_zero 0 68 (by simp [seatLaid, Rows.evalAllRow]) (by kernel_rfl) (by kernel_rfl) (by decide)
    obtain ⟨parts, rfl, hl, hp⟩ := Says.agg_inv hs
    match parts, hl with
    | [p0, p1], _ =>
      have e0 := Says.int_inv (hp 0 _ p0 rfl rfl)
      have e1 := Says.int_inv (hp 1 _ p1 rfl rfl)
      subst e0 e1
      exact hm
  · have ht : Lib.TabIs Tryz.prog W "internal/strconv.uint64pow10" .u64 Lib.pow10Tab :=
      listed_tab hLV "internal/strconv.uint64pow10" .u64 Lib.pow10Tab 1 183 155 20 (by
        have : (Lib.tabData .u64 Lib.pow10Tab : DataW Unit) = Rows.laid_internal_strconv_uint64pow10 := by rfl
        rw [this]
        simp [seatLaid, Rows.evalAllRow]) (by kernel_rfl) (by kernel_rfl) Tryz.underlying183 Tryz.underlying155 (by kernel_rfl) (by kernel_rfl)
    unfold Lib.TabIs World.var? at ht
    have hg : Tryz.prog.globalNamed "internal/strconv.uint64pow10" = some 1 := by kernel_rfl
    rw [hg] at ht
    simp only [Option.bind_some] at ht
    unfold F0
    rcases Nat.lt_or_ge 1 W.heap.size with h | h
    · exact h
    · rw [Array.getElem?_eq_none h] at ht; cases ht
  · exact listed_tab hLV "internal/strconv.uint64pow10" .u64 Lib.pow10Tab 1 183 155 20 (by
        have : (Lib.tabData .u64 Lib.pow10Tab : DataW Unit) = Rows.laid_internal_strconv_uint64pow10 := by rfl
        rw [this]
        simp [seatLaid, Rows.evalAllRow]) (by kernel_rfl) (by kernel_rfl) Tryz.underlying183 Tryz.underlying155 (by kernel_rfl) (by kernel_rfl)
  · obtain ⟨m, hm⟩ := cell_of_shapedOpen_int (P := Tryz.prog) (g := 2) (t := 3) (zero := #[.int .i64 0]) hS (by decide +kernel) (by kernel_rfl) (by decide) (by kernel_rfl) (by kernel_rfl) Tryz.underlying3
    exact hlt hm
  · exact cell_of_shapedOpen_int (P := Tryz.prog) (g := 2) (t := 3) (zero := #[.int .i64 0]) hS (by decide +kernel) (by kernel_rfl) (by decide) (by kernel_rfl) (by kernel_rfl) Tryz.underlying3
/-- A world in which the listed variables are as listed. -/
noncomputable def wit (os : Os) : World :=
  { World.doorLaid Tryz.prog 400 os with heap := (World.doorLaid Tryz.prog 400 os).heap.modify 3 fun o => match o with | .cells _ t z => .cells (tabRow Rows.laid_unicode_utf8_first) t z | o => o }
set_option maxRecDepth 100000 in
theorem wit_met (os : Os) (args : Array Value) : laidMetH Tryz.prog seatLaid ((wit os).forCall (fun _ _ => 0) ⟨#[], args, []⟩).memory :=
  laidMetH_of_parts3 (fuel := 8) (laidMet_of_run' 8 (by kernel_rfl) (by kernel_rfl)) (by kernel_rfl) (by kernel_rfl)
set_option maxRecDepth 100000 in
theorem wit_shaped (os : Os) (args : Array Value) : ((wit os).forCall (fun _ _ => 0) ⟨#[], args, []⟩).Shaped Tryz.prog := World.shaped_of_RefB (by kernel_rfl) (by kernel_rfl)
theorem seat_own : ownKnob Tryz.prog.godebug = none := by kernel_rfl
theorem seat_out : laidOutB Tryz.prog = true := by kernel_rfl
end Go.Proofs.YthieohigmpfknaaGreatDoor

/- What smallness gives: short lists and short texts. Conditions: none. -/
namespace Go.Proofs.YthieohigmpfknaaGreatDoor
open Go Go.Abs Go.Val Go.RowKit

mutual
/-- How many parts a value has; long strings count more. -/
def cost : V → Nat
  | .mk _ _ _ s l => 1 + s.size / 50 + costL l
def costL : List V → Nat
  | [] => 0
  | v :: r => cost v + costL r
end
theorem cost_eq (v : V) : cost v = 1 + v.s.size / 50 + costL v.l := by cases v; simp [cost, V.s, V.l]
theorem costL_len : ∀ l : List V, l.length ≤ costL l
  | [] => Nat.le_refl _
  | v :: r => by
    have := costL_len r
    have := cost_eq v
    simp only [costL, List.length_cons]
    omega
theorem costL_mem : ∀ {l : List V} {x : V}, x ∈ l → cost x ≤ costL l
  | [], x, h => by simp at h
  | v :: r, x, h => by
    simp only [costL]
    rcases List.mem_cons.1 h with e | e
    · rw [e]; omega
    · have := costL_mem e; omega
theorem nar_cost (v : V) : cost v ≤ 1000000 → nar v = true := by
  refine vind (P := fun v => cost v ≤ 1000000 → nar v = true) (fun k n d s l ih h => ?_) v
  have hl : ∀ l : List V, (∀ x ∈ l, cost x ≤ 1000000 → nar x = true) → costL l ≤ 1000000 → narL l = true := by
    intro l
    induction l with
    | nil => intro _ _; simp [narL]
    | cons a r ihr =>
      intro hx hc
      simp only [costL] at hc
      simp only [narL, Bool.and_eq_true]
      exact ⟨hx a (by simp) (by omega), ihr (fun x hm => hx x (by simp [hm])) (by omega)⟩
  simp only [cost] at h
  have := costL_len l
  simp only [nar, Bool.and_eq_true, decide_eq_true_eq]
  exact ⟨by omega, hl l ih (by omega)⟩
theorem join_len_le (sep : List UInt8) (c : V → Nat) : ∀ l : List V, sep.length ≤ 2 → (∀ x ∈ l, (txt x).length + 2 ≤ c x) → (Lib.join (l.map txt) sep).length ≤ (l.map c).sum
  | [], _, _ => by simp [Lib.join_nil]
  | x :: r, hs, h => by
    have key : ∀ q : List V, (∀ x ∈ q, (txt x).length + 2 ≤ c x) → (Lib.joinTail sep (q.map txt)).length ≤ (q.map c).sum := by
      intro q
      induction q with
      | nil => intro _; simp [Lib.joinTail]
      | cons y q ih =>
        intro hq
        have e : Lib.joinTail sep ((y :: q).map txt) = (sep ++ txt y) ++ Lib.joinTail sep (q.map txt) := rfl
        have h1 := hq y (by simp)
        have h2 := ih fun z hz => hq z (by simp [hz])
        rw [e, List.length_append, List.length_append]
        simp only [List.map_cons, List.sum_cons]
        omega
    have h1 := h x (by simp)
    have h2 := key r fun z hz => h z (by simp [hz])
    rw [List.map_cons, Lib.join_cons, List.length_append]
    simp only [List.map_cons, List.sum_cons]
    omega
theorem sum_cost (l : List V) : (l.map fun v => 150 * cost v).sum = 150 * costL l := by
  induction l with
  | nil => rfl
  | cons v r ih => simp only [List.map_cons, List.sum_cons, costL, ih]; omega
theorem okV_2 {n d : Int} {s : ByteArray} {l : List V} (h : Val.okV (.mk 2 n d s l) = true) : inM n = true := by
  unfold Val.okV at h
  rw [okN_flat 8 2 n d s l (by omega) (by omega)] at h
  simp [okFlat, V.k, V.n, V.d, V.s, V.l] at h
  exact h.2
theorem okV_56 {k n d : Int} {s : ByteArray} {l : List V} (hk : k = 5 ∨ k = 6) (h : Val.okV (.mk k n d s l) = true) : 1 ≤ n ∧ n ≤ 1000000 := by
  unfold Val.okV at h
  rw [okN_flat 8 k n d s l (by omega) (by omega)] at h
  rcases hk with rfl | rfl
  · simp [okFlat, V.k, V.n, V.d, V.s, V.l] at h
    exact ⟨h.2.1, of_decide_eq_true h.2.2⟩
  · simp [okFlat, V.k, V.n, V.d, V.s, V.l] at h
    exact ⟨h.2.1, of_decide_eq_true h.2.2⟩
theorem itoa_len' {n : Int} (h : -1000000000000000 ≤ n ∧ n ≤ 1000000000000000) : (Lib.itoa n).length ≤ 21 := Lib.itoa_length_le n (by omega) (by omega)
theorem txt_len (v : V) : (txt v).length + 2 ≤ 150 * cost v := by
  refine vind (P := fun v => (txt v).length + 2 ≤ 150 * cost v) (fun k n d s l ih => ?_) v
  have hc : 1 ≤ cost (.mk k n d s l) := by simp only [cost]; omega
  cases hok : Val.okV (.mk k n d s l) with
  | false =>
    have e : txt (.mk k n d s l) = [63] := by simp only [txt, hok]; rfl
    rw [e]
    simp only [List.length_cons, List.length_nil]
    omega
  | true =>
    have hk := okV_k hok
    simp only [V.k] at hk
    rcases hk with rfl | rfl | rfl | rfl | rfl | rfl | rfl | rfl | rfl
    · have e : txt (.mk 0 n d s l) = [110, 117, 108, 108] := by simp only [txt, hok]; rfl
      rw [e]
      simp only [List.length_cons, List.length_nil]
      omega
    · have e : txt (.mk 1 n d s l) = (bif n == 1 then [116, 114, 117, 101] else [102, 97, 108, 115, 101]) := by simp only [txt, hok]; rfl
      rw [e]
      cases n == 1 <;> simp only [cond_true, cond_false, List.length_cons, List.length_nil] <;> omega
    · have e : txt (.mk 2 n d s l) = Lib.itoa n := by simp only [txt, hok]; rfl
      have := itoa_len' ((inM_iff n).1 (okV_2 hok))
      rw [e]
      omega
    · have e : txt (.mk 3 n d s l) = Lib.itoa n ++ [47] ++ Lib.itoa d := by simp only [txt, hok]; rfl
      obtain ⟨h2, h3⟩ := okV_3 hok
      simp only [fval, Bool.and_eq_true, decide_eq_true_eq] at h3
      have h4 := (inM_iff n).1 h3.2.2.1
      have := itoa_len' h4
      have := itoa_len' (n := d) (by omega)
      rw [e, List.length_append, List.length_append]
      simp only [List.length_cons, List.length_nil]
      omega
    · have e : txt (.mk 4 n d s l) = [39] ++ dbl s.data.toList ++ [39] := by simp only [txt, hok]; rfl
      have := dbl_len s.data.toList
      have : s.data.toList.length = s.size := by simp
      have hcc : cost (.mk 4 n d s l) = 1 + s.size / 50 + costL l := by simp only [cost]
      rw [e, List.length_append, List.length_append]
      simp only [List.length_cons, List.length_nil]
      omega
    · have e : txt (.mk 5 n d s l) = [35] ++ Lib.itoa n := by simp only [txt, hok]; rfl
      have h5 := okV_56 (.inl rfl) hok
      have := itoa_len' (n := n) (by omega)
      rw [e, List.length_append]
      simp only [List.length_cons, List.length_nil]
      omega
    · have e : txt (.mk 6 n d s l) = [64] ++ Lib.itoa n := by simp only [txt, hok]; rfl
      have h5 := okV_56 (.inr rfl) hok
      have := itoa_len' (n := n) (by omega)
      rw [e, List.length_append]
      simp only [List.length_cons, List.length_nil]
      omega
    · have e : txt (.mk 7 n d s l) = [60] ++ Lib.join (l.map txt) [32] ++ [62] := by simp only [txt, hok, txtL_map]; rfl
      have hj := join_len_le [32] (fun v => 150 * cost v) l (by simp) ih
      rw [sum_cost] at hj
      have hcc : cost (.mk 7 n d s l) = 1 + s.size / 50 + costL l := by simp only [cost]
      rw [e, List.length_append, List.length_append]
      simp only [List.length_cons, List.length_nil]
      omega
    · have e : txt (.mk 8 n d s l) = [91] ++ Lib.join (l.map txt) [44, 32] ++ [93] := by simp only [txt, hok, txtL_map]; rfl
      have hj := join_len_le [44, 32] (fun v => 150 * cost v) l (by simp) ih
      rw [sum_cost] at hj
      have hcc : cost (.mk 8 n d s l) = 1 + s.size / 50 + costL l := by simp only [cost]
      rw [e, List.length_append, List.length_append]
      simp only [List.length_cons, List.length_nil]
      omega
end Go.Proofs.YthieohigmpfknaaGreatDoor

/- Plain laws of the orders: antisymmetry, symmetry. Conditions: none. -/
namespace Go.Proofs.YthieohigmpfknaaGreatDoor
open Go Go.Abs Go.Val Go.RowKit

theorem ci_anti (x y : Int) : ci y x = - ci x y := by
  rcases (show x < y ∨ x = y ∨ x > y by omega) with h | h | h
  · rw [ci_lt h, ci_gt h]; rfl
  · subst h; rw [ci_eq]; rfl
  · rw [ci_gt h, ci_lt h]
theorem bl_tri : ∀ a b : List UInt8, (Op.bytesLess a b = true ∧ Op.bytesLess b a = false ∧ a ≠ b) ∨ (Op.bytesLess a b = false ∧ Op.bytesLess b a = true ∧ a ≠ b) ∨ (Op.bytesLess a b = false ∧ Op.bytesLess b a = false ∧ a = b)
  | [], [] => .inr (.inr ⟨rfl, rfl, rfl⟩)
  | [], _ :: _ => .inl ⟨rfl, rfl, by simp⟩
  | _ :: _, [] => .inr (.inl ⟨rfl, rfl, by simp⟩)
  | x :: a, y :: b => by
    have ih := bl_tri a b
    simp only [Op.bytesLess]
    rcases Nat.lt_trichotomy x.toNat y.toNat with h | h | h
    · have h1 : x < y := h
      have h2 : ¬ y < x := fun h' => Nat.lt_asymm h h'
      have h3 : x ≠ y := fun e => by subst e; omega
      have h4 : (y == x) = false := by rw [beq_eq_false_iff_ne]; exact fun e => h3 e.symm
      left
      refine ⟨by simp [h1], by simp [h2, h4], fun e => h3 (List.cons.inj e).1⟩
    · have e : x = y := UInt8.toNat_inj.1 h
      subst e
      have h2 : ¬ x < x := fun h' => Nat.lt_irrefl _ h'
      simp only [h2, decide_false, beq_self_eq_true, Bool.true_and, Bool.false_or]
      rcases ih with ⟨i1, i2, i3⟩ | ⟨i1, i2, i3⟩ | ⟨i1, i2, i3⟩
      · exact .inl ⟨i1, i2, fun e => i3 (List.cons.inj e).2⟩
      · exact .inr (.inl ⟨i1, i2, fun e => i3 (List.cons.inj e).2⟩)
      · exact .inr (.inr ⟨i1, i2, by rw [i3]⟩)
    · have h1 : y < x := h
      have h2 : ¬ x < y := fun h' => Nat.lt_asymm h h'
      have h3 : x ≠ y := fun e => by subst e; omega
      have h4 : (x == y) = false := by rw [beq_eq_false_iff_ne]; exact h3
      right; left
      refine ⟨by simp [h2, h4], by simp [h1], fun e => h3 (List.cons.inj e).1⟩
theorem cs_cases (a b : ByteArray) : (cs a b = -1 ∧ cs b a = 1 ∧ a.toList ≠ b.toList) ∨ (cs a b = 1 ∧ cs b a = -1 ∧ a.toList ≠ b.toList) ∨ (cs a b = 0 ∧ cs b a = 0 ∧ a.toList = b.toList) := by
  unfold cs
  rcases bl_tri a.toList b.toList with ⟨h1, h2, h3⟩ | ⟨h1, h2, h3⟩ | ⟨h1, h2, h3⟩
  · left
    have : (b.toList == a.toList) = false := by rw [beq_eq_false_iff_ne]; exact fun e => h3 e.symm
    rw [h1, h2, this]
    exact ⟨rfl, rfl, h3⟩
  · right; left
    have : (a.toList == b.toList) = false := by rw [beq_eq_false_iff_ne]; exact h3
    rw [h1, h2, this]
    exact ⟨rfl, rfl, h3⟩
  · right; right
    rw [h1, h2, h3]
    simp
theorem cs_anti (a b : ByteArray) : cs b a = - cs a b := by
  rcases cs_cases a b with ⟨h1, h2, _⟩ | ⟨h1, h2, _⟩ | ⟨h1, h2, _⟩ <;> rw [h1, h2] <;> rfl
theorem orI_anti {x x' y y' : Int} (h1 : x' = -x) (h2 : y' = -y) : orI x' y' = - orI x y := by
  subst h1 h2
  unfold orI
  cases h : x != 0 with
  | true =>
    have : (-x != 0) = true := by simp only [bne_iff_ne] at h ⊢; omega
    rw [this]
    rfl
  | false =>
    have : (-x != 0) = false := by simp only [bne_eq_false_iff_eq] at h ⊢; omega
    rw [this]
    rfl
theorem cmpQ_anti (an ad bn bd : Int) : cmpQ bn bd an ad = - cmpQ an ad bn bd := by
  unfold cmpQ
  rw [← sgn_opp]
  congr 1
  omega
theorem tt_anti (a b : Bool) (h : (a != b) = true) : 1 - tt b = -(1 - tt a) := by
  cases a <;> cases b <;> first | rfl | (cases h; done)
theorem rcls_num {a b : V} (ha : Val.okV a = true) (hb : Val.okV b = true) (h : (ci (rcls a.k) (rcls b.k) != 0) = false) : isNum b = isNum a := by
  have e : ci (rcls a.k) (rcls b.k) = 0 := by simpa using h
  cases hn : isNum a with
  | false =>
    have := rcls_kind (okV_rng ha) (okV_rng hb) e (by rw [← isNum_k ha]; exact hn)
    rw [isNum_k hb, ← this, ← isNum_k ha, hn]
  | true =>
    cases hm : isNum b with
    | true => rfl
    | false =>
      have e' : ci (rcls b.k) (rcls a.k) = 0 := by rw [ci_anti, e]; rfl
      have := rcls_kind (okV_rng hb) (okV_rng ha) e' (by rw [← isNum_k hb]; exact hm)
      rw [isNum_k ha, ← this, ← isNum_k hb, hm] at hn
      cases hn
theorem cmpL_anti (g : V → V → Int) : ∀ (a b : List V), (∀ x ∈ a, ∀ y, g y x = - g x y) → cmpL g b a = - cmpL g a b
  | [], [], _ => rfl
  | [], _ :: _, _ => rfl
  | _ :: _, [], _ => rfl
  | x :: r, y :: q, h => by
    simp only [cmpL]
    exact orI_anti (h x (by simp) y) (cmpL_anti g r q fun z hz => h z (by simp [hz]))
theorem headO_anti {a b : V} {t t' : Int} (h : t' = -t) : headO b a t' = - headO a b t :=
  orI_anti (ci_anti _ _) (orI_anti (ci_anti _ _) (orI_anti (ci_anti _ _) (orI_anti (cs_anti _ _) h)))
theorem ordF_anti (a : V) : ∀ b : V, ordF b a = - ordF a b := by
  refine vind (P := fun a => ∀ b : V, ordF b a = - ordF a b) (fun k n d s l ih b => ?_) a
  have hl : cmpL ordF b.l (V.mk k n d s l).l = - cmpL ordF (V.mk k n d s l).l b.l := cmpL_anti ordF l b.l ih
  rw [ordF_eq, ordF_eq]
  generalize V.mk k n d s l = a at *
  unfold stepO
  cases h1 : Val.okV a != Val.okV b with
  | true =>
    have h1' : (Val.okV b != Val.okV a) = true := by rw [bne_comm]; exact h1
    rw [h1']
    exact tt_anti _ _ h1
  | false =>
    have e : Val.okV a = Val.okV b := by simpa using h1
    rw [e]
    simp only [bne_self_eq_false, cond_false]
    cases h2 : Val.okV b with
    | false => exact headO_anti hl
    | true =>
      rw [h2] at e
      simp only [Bool.not_true, cond_false]
      have hci : ci (rcls b.k) (rcls a.k) = - ci (rcls a.k) (rcls b.k) := ci_anti _ _
      cases h3 : ci (rcls a.k) (rcls b.k) != 0 with
      | true =>
        have : (ci (rcls b.k) (rcls a.k) != 0) = true := by rw [hci]; simp only [bne_iff_ne] at h3 ⊢; omega
        rw [this]
        exact hci
      | false =>
        have : (ci (rcls b.k) (rcls a.k) != 0) = false := by rw [hci]; simp only [bne_eq_false_iff_eq] at h3 ⊢; omega
        rw [this, rcls_num e h2 h3]
        simp only [cond_false]
        cases isNum a with
        | true => exact cmpQ_anti _ _ _ _
        | false => exact headO_anti hl
end Go.Proofs.YthieohigmpfknaaGreatDoor

/- Division of a double word by a word, as the library does it: two digits, each guessed and set right. Conditions: the high word is below the divisor. -/
namespace Go.Proofs.YthieohigmpfknaaGreatDoor
open Go Go.Abs Go.Val Go.RowKit
attribute [local irreducible] go SGo HasBody Ev ExtEv EvO EvS

theorem kn_mul (q y1 y0 : Nat) : q * (y1 * 4294967296 + y0) = (q * y1) * 4294967296 + q * y0 := by rw [Nat.mul_add, Nat.mul_assoc]
theorem kn_ge {u un1 y1 y0 : Nat} (h1 : 0 < y1) (hu : un1 < 4294967296) : (u * 4294967296 + un1) / (y1 * 4294967296 + y0) ≤ u / y1 := by
  rw [Nat.le_div_iff_mul_le h1]
  have h := Nat.div_mul_le_self (u * 4294967296 + un1) (y1 * 4294967296 + y0)
  rw [kn_mul] at h
  omega
theorem kn_gt {u un1 y1 y0 q r : Nat} (h : q * y1 + r = u) (hN : u < y1 * 4294967296 + y0) (hu : un1 < 4294967296) (hc : 4294967296 ≤ q ∨ 4294967296 * r + un1 < q * y0) :
    (u * 4294967296 + un1) / (y1 * 4294967296 + y0) < q := by
  rw [Nat.div_lt_iff_lt_mul (by omega)]
  rcases hc with hc | hc
  · have : 4294967296 * (y1 * 4294967296 + y0) ≤ q * (y1 * 4294967296 + y0) := Nat.mul_le_mul_right _ hc
    omega
  · rw [kn_mul]
    omega
theorem kn_le {u un1 y1 y0 q r : Nat} (h1 : 0 < y1) (h : q * y1 + r = u) (hc : q * y0 ≤ 4294967296 * r + un1) : q ≤ (u * 4294967296 + un1) / (y1 * 4294967296 + y0) := by
  rw [Nat.le_div_iff_mul_le (by omega), kn_mul]
  omega
theorem kn_brk {u un1 y1 y0 q r : Nat} (h1 : 0 < y1) (h : q * y1 + r = u) (hN : u < y1 * 4294967296 + y0) (h0 : y0 < 4294967296) (hr : 4294967296 ≤ r) : q < 4294967296 ∧ q * y0 ≤ 4294967296 * r + un1 := by
  have hq : q < 4294967296 := by
    rcases Nat.lt_or_ge q 4294967296 with hq | hq
    · exact hq
    · have := Nat.mul_le_mul_right y1 hq
      omega
  refine ⟨hq, ?_⟩
  have : q * y0 ≤ 4294967296 * 4294967296 := Nat.mul_le_mul (by omega) (by omega)
  omega
theorem kn_top {u y1 y0 : Nat} (h1 : 2147483648 ≤ y1) (hN : u < y1 * 4294967296 + y0) (h0 : y0 < 4294967296) : u / y1 ≤ 4294967297 := by
  rw [← Nat.lt_succ_iff, Nat.div_lt_iff_lt_mul (by omega)]
  omega

theorem bl_bnd : ∀ (f x : Nat), x ≠ 0 → x < 2 ^ f → 1 ≤ Lib.bitLenAux f x ∧ Lib.bitLenAux f x ≤ f ∧ 2 ^ Lib.bitLenAux f x ≤ 2 * x ∧ x < 2 ^ Lib.bitLenAux f x
  | 0, x, h0, h => by simp at h; exact absurd h h0
  | f + 1, x, h0, h => by
    simp only [Lib.bitLenAux, if_neg h0]
    by_cases h1 : x / 2 = 0
    · have : x = 1 := by omega
      subst this
      cases f <;> simp [Lib.bitLenAux]
    · obtain ⟨a1, a2, a3, a4⟩ := bl_bnd f (x / 2) h1 (by rw [Nat.pow_succ] at h; omega)
      refine ⟨by omega, by omega, ?_, ?_⟩
      · rw [Nat.add_comm, Nat.pow_succ]; omega
      · rw [Nat.add_comm 1, Nat.pow_succ]; omega
theorem lz_ev (y : Nat) (h0 : 0 < y) (h1 : y < 18446744073709551616) : ∃ s : Nat, s ≤ 63 ∧ 9223372036854775808 ≤ y * 2 ^ s ∧ y * 2 ^ s < 18446744073709551616 ∧ Ev E 240 [.imm (.int .u64 (y : Int))] (.d (.int (s : Int))) := by
  obtain ⟨b1, b2, b3, b4⟩ := bl_bnd 64 y (by omega) (by omega)
  have e64 : (2 : Nat) ^ Lib.bitLen y * 2 ^ (64 - Lib.bitLen y) = 18446744073709551616 := by
    rw [← Nat.pow_add, show Lib.bitLen y + (64 - Lib.bitLen y) = 64 by unfold Lib.bitLen; omega]
  have hp : 0 < 2 ^ (64 - Lib.bitLen y) := Nat.pow_pos (by omega)
  have c1 := Nat.mul_le_mul_right (2 ^ (64 - Lib.bitLen y)) b3
  have c2 := Nat.mul_lt_mul_of_lt_of_le b4 (Nat.le_refl (2 ^ (64 - Lib.bitLen y))) hp
  change 2 ^ Lib.bitLen y * _ ≤ _ at c1
  change _ < 2 ^ Lib.bitLen y * _ at c2
  rw [e64] at c1 c2
  rw [Nat.mul_assoc] at c1
  refine ⟨64 - Lib.bitLen y, by unfold Lib.bitLen; omega, by omega, c2, ?_⟩
  refine of_lib1 (inR_ok (k := .i64) (by simp only [inR]; omega)) fun w F _ _ => ?_
  refine (Tryz.bits_LeadingZeros64 (y : Int) w (by omega) (by omega)).mono ?_
  rintro e w' ⟨rfl, rfl⟩
  refine ⟨?_, Below.refl _ _⟩
  rw [show (y : Int).toNat = y from Int.toNat_natCast y]
  have : (64 : Int) - (Lib.bitLen y : Int) = ((64 - Lib.bitLen y : Nat) : Int) := by
    have : Lib.bitLen y ≤ 64 := b2
    omega
  rw [this]
end Go.Proofs.YthieohigmpfknaaGreatDoor

/- The library's division of a double word by a word. Conditions: the high word is below the divisor. -/
namespace Go.Proofs.YthieohigmpfknaaGreatDoor
open Go Go.Abs Go.Val Go.RowKit
attribute [local irreducible] go SGo HasBody Ev ExtEv EvO EvS binOp

structure SKn (y1 y0 u un1 : Nat) where
  q : Nat
  r : Nat
  h : q * y1 + r = u
  hr : r < 4294967296
  hq : q ≤ 4294967297
  hge : (u * 4294967296 + un1) / (y1 * 4294967296 + y0) ≤ q
theorem split64 (hi lo s : Nat) (hs : s ≤ 63) (hlo : lo < 18446744073709551616) : (hi * 18446744073709551616 + lo) * 2 ^ s = (hi * 2 ^ s + lo / 2 ^ (64 - s)) * 18446744073709551616 + (lo * 2 ^ s) % 18446744073709551616 ∧ lo / 2 ^ (64 - s) < 2 ^ s := by
  have e : (2 : Nat) ^ (64 - s) * 2 ^ s = 18446744073709551616 := by rw [← Nat.pow_add, show 64 - s + s = 64 by omega]
  have hp : 0 < (2 : Nat) ^ (64 - s) := Nat.pow_pos (by omega)
  have hp2 : 0 < (2 : Nat) ^ s := Nat.pow_pos (by omega)
  have h1 := Nat.div_add_mod lo (2 ^ (64 - s))
  have h2 := Nat.mod_lt lo hp
  generalize lo / 2 ^ (64 - s) = a at *
  generalize lo % 2 ^ (64 - s) = b at *
  have h3 : lo * 2 ^ s = a * 18446744073709551616 + b * 2 ^ s := by rw [← h1, Nat.add_mul, ← e, Nat.mul_comm (2 ^ (64 - s)) a, Nat.mul_assoc]
  have h4 : b * 2 ^ s < 18446744073709551616 := by rw [← e]; exact Nat.mul_lt_mul_of_lt_of_le h2 (Nat.le_refl _) hp2
  refine ⟨?_, ?_⟩
  · rw [Nat.add_mul, h3, Nat.add_mul]
    have : hi * 18446744073709551616 * 2 ^ s = hi * 2 ^ s * 18446744073709551616 := by rw [Nat.mul_assoc, Nat.mul_comm _ (2 ^ s), Nat.mul_assoc]
    omega
  · have h5 : a * 2 ^ (64 - s) < 2 ^ s * 2 ^ (64 - s) := by
      rw [Nat.mul_comm (2 ^ s), e, Nat.mul_comm]
      omega
    exact Nat.lt_of_mul_lt_mul_right h5
theorem wrap_sub (a b c z : Nat) (h : b + z = a * 4294967296 + c) (hz : z < 18446744073709551616) : (((a * 4294967296) % 18446744073709551616 + c) % 18446744073709551616 + (18446744073709551616 - b % 18446744073709551616)) % 18446744073709551616 = z := by omega
theorem or_add (a b s : Nat) (h : b < 2 ^ s) : a * 2 ^ s ||| b = a * 2 ^ s + b := by
  rw [Nat.mul_comm, Nat.two_pow_add_eq_or_of_lt h]
set_option maxRecDepth 20000 in
set_option maxHeartbeats 4000000 in
theorem div64_ev (hi lo y : Nat) (hlt : hi < y) (hy : y < 18446744073709551616) (hlo : lo < 18446744073709551616) :
    Ev E 228 [.imm (.int .u64 (hi : Int)), .imm (.int .u64 (lo : Int)), .imm (.int .u64 (y : Int))]
      (.tup [.imm (.int .u64 (((hi * 18446744073709551616 + lo) / y : Nat) : Int)), .imm (.int .u64 (((hi * 18446744073709551616 + lo) % y : Nat) : Int))]) := by
  have g1 : ((y : Int) == 0) = false := by rw [beq_eq_false_iff_ne]; omega
  have g2 : decide ((y : Int) ≤ (hi : Int)) = false := by simp; omega
  by_cases h0 : hi = 0
  · subst h0
    have g3 : (((0 : Nat) : Int) == 0) = true := rfl
    have e1 := fun (P : Program) (t : TypeId) (w : World) => Go.Abs.u64_quo (P := P) (t := t) lo y hlo (by omega) w
    have e2 := fun (P : Program) (t : TypeId) (w : World) => Go.Abs.u64_rem (P := P) (t := t) lo y (by omega) w
    have k1 := u64_ok (lo / y) (Nat.lt_of_le_of_lt (Nat.div_le_self lo y) hlo)
    have k2 := u64_ok (lo % y) (Nat.lt_of_le_of_lt (Nat.mod_le lo y) hlo)
    rw [show 0 * 18446744073709551616 + lo = lo by omega]
    refine enter3 Tryz.func228 Tryz.ntmps228 rfl rfl fun w0 F0 O => ?_
    repeat' (first | (refine go_binN _ rfl rfl rfl rfl rfl rfl (e1 _ _) k1 ?_) | (refine go_binN _ rfl rfl rfl rfl rfl rfl (e2 _ _) k2 ?_) | refine zS rfl ?_ | refine qA ?_ | refine qB rfl ?_ | refine qC (by kernel_rfl) ?_ | refine qD ?_ | refine qE ?_ | refine zT rfl ?_ | refine zU rfl ?_ | refine qM rfl rfl rfl ?_ | exact zL)
  have g3 : ((hi : Int) == 0) = false := by rw [beq_eq_false_iff_ne]; omega
  obtain ⟨s, hs, s1, s2, hlz⟩ := lz_ev y (by omega) hy
  obtain ⟨sp1, sp2⟩ := split64 hi lo s hs hlo
  have hor := or_add hi (lo / 2 ^ (64 - s)) s sp2
  have hA : hi * 2 ^ s < 18446744073709551616 := Nat.lt_of_le_of_lt (Nat.mul_le_mul_right _ (Nat.le_of_lt hlt)) s2
  have hub : hi * 2 ^ s + lo / 2 ^ (64 - s) < y * 2 ^ s := by
    have := Nat.mul_le_mul_right (2 ^ s) hlt
    rw [Nat.succ_mul] at this
    omega
  have hfin1 : ((hi * 18446744073709551616 + lo) * 2 ^ s) / (y * 2 ^ s) = (hi * 18446744073709551616 + lo) / y := Nat.mul_div_mul_right _ _ (Nat.pow_pos (by omega))
  have hfin2 : ((hi * 18446744073709551616 + lo) * 2 ^ s) % (y * 2 ^ s) / 2 ^ s = (hi * 18446744073709551616 + lo) % y := by
    rw [Nat.mul_mod_mul_right, Nat.mul_div_cancel _ (Nat.pow_pos (by omega))]
  rw [sp1] at hfin1 hfin2
  have hlb : lo / 2 ^ (64 - s) < 18446744073709551616 := Nat.lt_of_le_of_lt (Nat.div_le_self _ _) hlo
  have c1 := fun (P : Program) (t : TypeId) (k : IntKind) (w : World) => Go.Abs.u64_shl (P := P) (t := t) (k := k) y s (by omega) w
  have c2 := fun (P : Program) (t : TypeId) (k : IntKind) (w : World) => Go.Abs.u64_shl (P := P) (t := t) (k := k) hi s (by omega) w
  have c3 := fun (P : Program) (t : TypeId) (k : IntKind) (w : World) => Go.Abs.u64_shl (P := P) (t := t) (k := k) lo s (by omega) w
  have c4 := fun (P : Program) (t : TypeId) (k : IntKind) (w : World) => Go.Abs.u64_shr (P := P) (t := t) (k := k) lo (64 - s) (by omega) w
  have c5 := fun (P : Program) (t : TypeId) (w : World) => Go.Abs.u64_or (P := P) (t := t) (hi * 2 ^ s) (lo / 2 ^ (64 - s)) hA hlb w
  have c6 := fun (P : Program) (t : TypeId) (w : World) => Go.Abs.u64_sub (P := P) (t := t) 64 s (by omega) w
  have c7 := fun (P : Program) (t : TypeId) (k : IntKind) (a : Nat) (w : World) => Go.Abs.u64_shr (P := P) (t := t) (k := k) a 32 (by omega) w
  have c8 := fun (P : Program) (t : TypeId) (a : Nat) (ha : a < 18446744073709551616) (w : World) => Go.Abs.u64_and (P := P) (t := t) a 4294967295 ha (by omega) w
  rw [hor] at c5
  simp only [Nat.mod_eq_of_lt hA] at c2
  simp only [Nat.mod_eq_of_lt s2] at c1
  simp only [show (64 + (18446744073709551616 - s)) % 18446744073709551616 = 64 - s by omega] at c6
  simp only [show ∀ a : Nat, a &&& 4294967295 = a % 4294967296 from fun a => Nat.and_two_pow_sub_one_eq_mod a 32] at c8
  simp only [show (2 : Nat) ^ 32 = 4294967296 from rfl] at c7
  have m1 : (lo * 2 ^ s) % 18446744073709551616 < 18446744073709551616 := Nat.mod_lt _ (by omega)
  generalize lo / 2 ^ (64 - s) = lb at *
  generalize (lo * 2 ^ s) % 18446744073709551616 = ul at *
  generalize hi * 2 ^ s = hs2 at *
  generalize y * 2 ^ s = Y at *
  generalize hU : hs2 + lb = u at *
  have k0 := u64_ok
  have hsI : inR .u64 (s : Int) := by simp only [inR]; omega
  refine enter3 Tryz.func228 Tryz.ntmps228 rfl rfl fun w0 F0 O => ?_
  repeat' (first | (refine go_binN _ rfl rfl rfl rfl rfl rfl (c1 _ _ _) (k0 _ (by omega)) ?_) | (refine go_binN _ rfl rfl rfl rfl rfl rfl (c2 _ _ _) (k0 _ (by omega)) ?_) | (refine go_binN _ rfl rfl rfl rfl rfl rfl (c3 _ _ _) (k0 _ (by omega)) ?_) | (refine go_binN _ rfl rfl rfl rfl rfl rfl (c4 _ _ _) (k0 _ (by omega)) ?_) | (refine go_binN _ rfl rfl rfl rfl rfl rfl (c5 _ _) (k0 _ (by omega)) ?_) | (refine go_binN _ rfl rfl rfl rfl rfl rfl (c6 _ _) (k0 _ (by omega)) ?_) | (refine go_binN _ rfl rfl rfl rfl rfl rfl (c7 _ _ _ _) (k0 _ (by omega)) ?_) | (refine go_binN _ rfl rfl rfl rfl rfl rfl (c8 _ _ _ (by assumption)) (k0 _ (by omega)) ?_) | refine zS rfl ?_ | refine qA ?_ | refine qB rfl ?_ | refine qD ?_ | refine qE ?_ | refine qP rfl rfl rfl rfl rfl rfl b240 (hlz) ?_ | refine zU rfl ?_)
  clear c1 c2 c3 c4 c5 c6 c7 c8 hlz hor
  obtain ⟨y1, hy1⟩ : ∃ y1, Y / 4294967296 = y1 := ⟨_, rfl⟩
  obtain ⟨y0, hy0⟩ : ∃ y0, Y % 4294967296 = y0 := ⟨_, rfl⟩
  obtain ⟨un1, hun1⟩ : ∃ x, ul / 4294967296 = x := ⟨_, rfl⟩
  obtain ⟨un0, hun0⟩ : ∃ x, ul % 4294967296 = x := ⟨_, rfl⟩
  rw [hy1, hy0, hun1, hun0]
  have hY : Y = y1 * 4294967296 + y0 := by omega
  have hul : ul = un1 * 4294967296 + un0 := by omega
  have b1 : 2147483648 ≤ y1 ∧ y1 < 4294967296 := by omega
  have b2 : y0 < 4294967296 := by omega
  have b3 : un1 < 4294967296 ∧ un0 < 4294967296 := by omega
  clear hy1 hy0 hun1 hun0
  obtain ⟨q, hq⟩ : ∃ q, u / y1 = q := ⟨_, rfl⟩
  obtain ⟨r, hr⟩ : ∃ r, u % y1 = r := ⟨_, rfl⟩
  have hqr : q * y1 + r = u := by rw [← hq, ← hr, Nat.mul_comm]; exact Nat.div_add_mod u y1
  have hry : r < y1 := by rw [← hr]; exact Nat.mod_lt _ (by omega)
  have hq2 : q ≤ 4294967297 := by rw [← hq]; exact kn_top b1.1 (by omega) b2
  have hge : (u * 4294967296 + un1) / (y1 * 4294967296 + y0) ≤ q := by rw [← hq]; exact kn_ge (by omega) b3.1
  have d1 := fun (P : Program) (t : TypeId) (w : World) => Go.Abs.u64_quo (P := P) (t := t) u y1 (by omega) (by omega) w
  rw [hq] at d1
  have d2 := fun (P : Program) (t : TypeId) (w : World) => Go.Abs.u64_mul (P := P) (t := t) q y1 w
  simp only [Nat.mod_eq_of_lt (show q * y1 < 18446744073709551616 by omega)] at d2
  have d3 := fun (P : Program) (t : TypeId) (w : World) => Go.Abs.u64_sub (P := P) (t := t) u (q * y1) (by omega) w
  simp only [show (u + (18446744073709551616 - q * y1)) % 18446744073709551616 = r by omega] at d3
  repeat' (first | (refine go_binN _ rfl rfl rfl rfl rfl rfl (d1 _ _) (k0 _ (by omega)) ?_) | (refine go_binN _ rfl rfl rfl rfl rfl rfl (d2 _ _) (k0 _ (by omega)) ?_) | (refine go_binN _ rfl rfl rfl rfl rfl rfl (d3 _ _) (k0 _ (by omega)) ?_) | (refine go_cutB 0 (fun b => ⟨[(2, .d (.imm (.int .u64 ((Y : Nat) : Int)))), (8, .d (.imm (.int .u64 ((s : Nat) : Int)))), (9, .d (.imm (.int .u64 ((y1 : Nat) : Int)))), (10, .d (.imm (.int .u64 ((y0 : Nat) : Int)))), (11, .d (.imm (.int .u64 ((u : Nat) : Int)))), (13, .d (.imm (.int .u64 ((un1 : Nat) : Int)))), (14, .d (.imm (.int .u64 ((un0 : Nat) : Int)))), (15, .d (.imm (.int .u64 ((b : Nat) : Int))))], []⟩) ((u * 4294967296 + un1) / (y1 * 4294967296 + y0)) ?_ ?_) | refine zS rfl ?_ | refine qA ?_ | refine qB rfl ?_ | refine qD ?_ | refine qF ?_)
  · refine go_loop_ (α := SKn y1 y0 u un1) (fun p => ⟨[(2, .d (.imm (.int .u64 ((Y : Nat) : Int)))), (8, .d (.imm (.int .u64 ((s : Nat) : Int)))), (9, .d (.imm (.int .u64 ((y1 : Nat) : Int)))), (10, .d (.imm (.int .u64 ((y0 : Nat) : Int)))), (11, .d (.imm (.int .u64 ((u : Nat) : Int)))), (13, .d (.imm (.int .u64 ((un1 : Nat) : Int)))), (14, .d (.imm (.int .u64 ((un0 : Nat) : Int)))), (15, .d (.imm (.int .u64 ((p.q : Nat) : Int)))), (16, .d (.imm (.int .u64 ((p.r : Nat) : Int))))], []⟩) (fun p => p.q) ⟨q, r, hqr, by omega, hq2, hge⟩ ((zle 0)) ?_
    rintro ⟨q', r', h', hr', hq', hge'⟩
    dsimp only
    obtain ⟨Q1, hQ⟩ : ∃ Q1, (u * 4294967296 + un1) / (y1 * 4294967296 + y0) = Q1 := ⟨_, rfl⟩
    rw [hQ] at hge'
    cases hc1 : decide ((q' : Int) ≥ 4294967296) with
    | true =>
      have hgt := kn_gt (y0 := y0) (un1 := un1) h' (by omega) (by omega) (.inl (by have := of_decide_eq_true hc1; omega))
      rw [hQ] at hgt
      have hq1 : 1 ≤ q' := by omega
      have e1 := fun (P : Program) (t : TypeId) (w : World) => Go.Abs.u64_sub (P := P) (t := t) q' 1 (by omega) w
      simp only [show (q' + (18446744073709551616 - 1)) % 18446744073709551616 = q' - 1 by omega] at e1
      have e2 := fun (P : Program) (t : TypeId) (w : World) => Go.Abs.u64_add (P := P) (t := t) r' y1 w
      simp only [show (r' + y1) % 18446744073709551616 = r' + y1 by omega] at e2
      have h'' : (q' - 1) * y1 + (r' + y1) = u := by
        have : q' * y1 = (q' - 1) * y1 + y1 := by rw [← Nat.succ_mul, show (q' - 1).succ = q' by omega]
        omega
      cases hc3 : decide (((r' + y1 : Nat) : Int) ≥ 4294967296) with
      | true =>
        have hk := kn_brk (un1 := un1) (by omega) h'' (by omega) b2 (by have := of_decide_eq_true hc3; omega)
        have hle := kn_le (by omega) h'' hk.2
        rw [hQ] at hle
        repeat' (first | (refine go_binN _ rfl rfl rfl rfl rfl rfl (e1 _ _) (k0 _ (by omega)) ?_) | (refine go_binN _ rfl rfl rfl rfl rfl rfl (e2 _ _) (k0 _ (by omega)) ?_) | refine zS rfl ?_ | refine qA ?_ | refine qB rfl ?_ | refine qD ?_ | refine qE ?_ | refine qF ?_ | refine qH rfl ?_ | refine zT rfl ?_ | refine zX rfl rfl rfl rfl ?_)
        exact go_stop ⟨q' - 1, by rw [hQ]; omega, (zle 0)⟩
      | false =>
        have hc3' := of_decide_eq_false hc3
        repeat' (first | (refine go_binN _ rfl rfl rfl rfl rfl rfl (e1 _ _) (k0 _ (by omega)) ?_) | (refine go_binN _ rfl rfl rfl rfl rfl rfl (e2 _ _) (k0 _ (by omega)) ?_) | refine zS rfl ?_ | refine qA ?_ | refine qB rfl ?_ | refine qD ?_ | refine qE ?_ | refine qF ?_ | refine qG ?_ | refine zT rfl ?_ | refine zU rfl ?_ | refine zX rfl rfl rfl rfl ?_)
        refine go_stop ?_
        exact ⟨⟨q' - 1, r' + y1, h'', by omega, by omega, by rw [hQ]; omega⟩, by dsimp only; omega, (zle 0)⟩
    | false =>
      have hc1' := of_decide_eq_false hc1
      have hm2 : q' * y0 < 18446744073709551616 := by
        have := Nat.mul_le_mul (show q' ≤ 4294967295 by omega) (show y0 ≤ 4294967295 by omega)
        omega
      have e3 := fun (P : Program) (t : TypeId) (w : World) => Go.Abs.u64_mul (P := P) (t := t) q' y0 w
      simp only [Nat.mod_eq_of_lt hm2] at e3
      have e4 := fun (P : Program) (t : TypeId) (w : World) => Go.Abs.u64_mul (P := P) (t := t) 4294967296 r' w
      simp only [show (4294967296 * r') % 18446744073709551616 = 4294967296 * r' by omega] at e4
      have e5 := fun (P : Program) (t : TypeId) (w : World) => Go.Abs.u64_add (P := P) (t := t) (4294967296 * r') un1 w
      simp only [show (4294967296 * r' + un1) % 18446744073709551616 = 4294967296 * r' + un1 by omega] at e5
      cases hc2 : decide (((q' * y0 : Nat) : Int) > ((4294967296 * r' + un1 : Nat) : Int)) with
      | true =>
        have hgt := kn_gt (y0 := y0) (un1 := un1) h' (by omega) (by omega) (.inr (by have := of_decide_eq_true hc2; omega))
        rw [hQ] at hgt
        have hq1 : 1 ≤ q' := by omega
        have e1 := fun (P : Program) (t : TypeId) (w : World) => Go.Abs.u64_sub (P := P) (t := t) q' 1 (by omega) w
        simp only [show (q' + (18446744073709551616 - 1)) % 18446744073709551616 = q' - 1 by omega] at e1
        have e2 := fun (P : Program) (t : TypeId) (w : World) => Go.Abs.u64_add (P := P) (t := t) r' y1 w
        simp only [show (r' + y1) % 18446744073709551616 = r' + y1 by omega] at e2
        have h'' : (q' - 1) * y1 + (r' + y1) = u := by
          have : q' * y1 = (q' - 1) * y1 + y1 := by rw [← Nat.succ_mul, show (q' - 1).succ = q' by omega]
          omega
        cases hc3 : decide (((r' + y1 : Nat) : Int) ≥ 4294967296) with
        | true =>
          have hk := kn_brk (un1 := un1) (by omega) h'' (by omega) b2 (by have := of_decide_eq_true hc3; omega)
          have hle := kn_le (by omega) h'' hk.2
          rw [hQ] at hle
          repeat' (first | (refine go_binN _ rfl rfl rfl rfl rfl rfl (e3 _ _) (k0 _ (by omega)) ?_) | (refine go_binN _ rfl rfl rfl rfl rfl rfl (e4 _ _) (k0 _ (by omega)) ?_) | (refine go_binN _ rfl rfl rfl rfl rfl rfl (e5 _ _) (k0 _ (by omega)) ?_) | (refine go_binN _ rfl rfl rfl rfl rfl rfl (e1 _ _) (k0 _ (by omega)) ?_) | (refine go_binN _ rfl rfl rfl rfl rfl rfl (e2 _ _) (k0 _ (by omega)) ?_) | refine zS rfl ?_ | refine qA ?_ | refine qB rfl ?_ | refine qD ?_ | refine qE ?_ | refine qF ?_ | refine qH rfl ?_ | refine zT rfl ?_ | refine zW rfl rfl rfl rfl ?_)
          exact go_stop ⟨q' - 1, by rw [hQ]; omega, (zle 0)⟩
        | false =>
          have hc3' := of_decide_eq_false hc3
          repeat' (first | (refine go_binN _ rfl rfl rfl rfl rfl rfl (e3 _ _) (k0 _ (by omega)) ?_) | (refine go_binN _ rfl rfl rfl rfl rfl rfl (e4 _ _) (k0 _ (by omega)) ?_) | (refine go_binN _ rfl rfl rfl rfl rfl rfl (e5 _ _) (k0 _ (by omega)) ?_) | (refine go_binN _ rfl rfl rfl rfl rfl rfl (e1 _ _) (k0 _ (by omega)) ?_) | (refine go_binN _ rfl rfl rfl rfl rfl rfl (e2 _ _) (k0 _ (by omega)) ?_) | refine zS rfl ?_ | refine qA ?_ | refine qB rfl ?_ | refine qD ?_ | refine qE ?_ | refine qF ?_ | refine qG ?_ | refine zT rfl ?_ | refine zU rfl ?_ | refine zW rfl rfl rfl rfl ?_)
          refine go_stop ?_
          exact ⟨⟨q' - 1, r' + y1, h'', by omega, by omega, by rw [hQ]; omega⟩, by dsimp only; omega, (zle 0)⟩
      | false =>
        have hc2' := of_decide_eq_false hc2
        have hle := kn_le (un1 := un1) (y0 := y0) (by omega) h' (by omega)
        rw [hQ] at hle
        repeat' (first | (refine go_binN _ rfl rfl rfl rfl rfl rfl (e3 _ _) (k0 _ (by omega)) ?_) | (refine go_binN _ rfl rfl rfl rfl rfl rfl (e4 _ _) (k0 _ (by omega)) ?_) | (refine go_binN _ rfl rfl rfl rfl rfl rfl (e5 _ _) (k0 _ (by omega)) ?_) | refine zS rfl ?_ | refine qA ?_ | refine qB rfl ?_ | refine qD ?_ | refine qH rfl ?_ | refine zU rfl ?_ | refine zW rfl rfl rfl rfl ?_)
        exact go_stop ⟨q', by rw [hQ]; omega, (zle 0)⟩
  · obtain ⟨Q, hQ⟩ : ∃ Q, (u * 4294967296 + un1) / (y1 * 4294967296 + y0) = Q := ⟨_, rfl⟩
    obtain ⟨v, hv⟩ : ∃ v, (u * 4294967296 + un1) % (y1 * 4294967296 + y0) = v := ⟨_, rfl⟩
    rw [hQ]
    have hQv : Q * Y + v = u * 4294967296 + un1 := by rw [← hQ, ← hv, hY, Nat.mul_comm]; exact Nat.div_add_mod _ _
    have hvY : v < y1 * 4294967296 + y0 := by rw [← hv]; exact Nat.mod_lt _ (by omega)
    have hQ32 : Q < 4294967296 := by rw [← hQ]; exact Nat.div_lt_of_lt_mul (by omega)
    clear d1 d2 d3 hq2 hge hqr hq hr hry
    have d1 := fun (P : Program) (t : TypeId) (w : World) => Go.Abs.u64_mul (P := P) (t := t) u 4294967296 w
    have d2 := fun (P : Program) (t : TypeId) (w : World) => Go.Abs.u64_add (P := P) (t := t) ((u * 4294967296) % 18446744073709551616) un1 w
    have d3 := fun (P : Program) (t : TypeId) (w : World) => Go.Abs.u64_mul (P := P) (t := t) Q Y w
    have d4 := fun (P : Program) (t : TypeId) (w : World) => Go.Abs.u64_sub (P := P) (t := t) (((u * 4294967296) % 18446744073709551616 + un1) % 18446744073709551616) ((Q * Y) % 18446744073709551616) (by omega) w
    simp only [wrap_sub u (Q * Y) un1 v hQv (by omega)] at d4
    obtain ⟨q, hq⟩ : ∃ q, v / y1 = q := ⟨_, rfl⟩
    obtain ⟨r, hr⟩ : ∃ r, v % y1 = r := ⟨_, rfl⟩
    have hqr : q * y1 + r = v := by rw [← hq, ← hr, Nat.mul_comm]; exact Nat.div_add_mod v y1
    have hry : r < y1 := by rw [← hr]; exact Nat.mod_lt _ (by omega)
    have hq2 : q ≤ 4294967297 := by rw [← hq]; exact kn_top b1.1 (by omega) b2
    have hge : (v * 4294967296 + un0) / (y1 * 4294967296 + y0) ≤ q := by rw [← hq]; exact kn_ge (by omega) b3.2
    have d5 := fun (P : Program) (t : TypeId) (w : World) => Go.Abs.u64_quo (P := P) (t := t) v y1 (by omega) (by omega) w
    rw [hq] at d5
    have d6 := fun (P : Program) (t : TypeId) (w : World) => Go.Abs.u64_mul (P := P) (t := t) q y1 w
    simp only [Nat.mod_eq_of_lt (show q * y1 < 18446744073709551616 by omega)] at d6
    have d7 := fun (P : Program) (t : TypeId) (w : World) => Go.Abs.u64_sub (P := P) (t := t) v (q * y1) (by omega) w
    simp only [show (v + (18446744073709551616 - q * y1)) % 18446744073709551616 = r by omega] at d7
    repeat' (first | (refine go_binN _ rfl rfl rfl rfl rfl rfl (d1 _ _) (k0 _ (by omega)) ?_) | (refine go_binN _ rfl rfl rfl rfl rfl rfl (d2 _ _) (k0 _ (by omega)) ?_) | (refine go_binN _ rfl rfl rfl rfl rfl rfl (d3 _ _) (k0 _ (by omega)) ?_) | (refine go_binN _ rfl rfl rfl rfl rfl rfl (d4 _ _) (k0 _ (by omega)) ?_) | (refine go_binN _ rfl rfl rfl rfl rfl rfl (d5 _ _) (k0 _ (by omega)) ?_) | (refine go_binN _ rfl rfl rfl rfl rfl rfl (d6 _ _) (k0 _ (by omega)) ?_) | (refine go_binN _ rfl rfl rfl rfl rfl rfl (d7 _ _) (k0 _ (by omega)) ?_) | (refine go_cutB 2 (fun b => ⟨[(2, .d (.imm (.int .u64 ((Y : Nat) : Int)))), (8, .d (.imm (.int .u64 ((s : Nat) : Int)))), (14, .d (.imm (.int .u64 ((un0 : Nat) : Int)))), (15, .d (.imm (.int .u64 ((Q : Nat) : Int)))), (17, .d (.imm (.int .u64 ((v : Nat) : Int)))), (18, .d (.imm (.int .u64 ((b : Nat) : Int))))], []⟩) ((v * 4294967296 + un0) / (y1 * 4294967296 + y0)) ?_ ?_) | refine zS rfl ?_ | refine qA ?_ | refine qB rfl ?_ | refine qD ?_ | refine qF ?_)
    · refine go_loop_ (α := SKn y1 y0 v un0) (fun p => ⟨[(2, .d (.imm (.int .u64 ((Y : Nat) : Int)))), (8, .d (.imm (.int .u64 ((s : Nat) : Int)))), (9, .d (.imm (.int .u64 ((y1 : Nat) : Int)))), (10, .d (.imm (.int .u64 ((y0 : Nat) : Int)))), (14, .d (.imm (.int .u64 ((un0 : Nat) : Int)))), (15, .d (.imm (.int .u64 ((Q : Nat) : Int)))), (17, .d (.imm (.int .u64 ((v : Nat) : Int)))), (18, .d (.imm (.int .u64 ((p.q : Nat) : Int)))), (16, .d (.imm (.int .u64 ((p.r : Nat) : Int))))], []⟩) (fun p => p.q) ⟨q, r, hqr, by omega, hq2, hge⟩ ((zle 0)) ?_
      rintro ⟨q', r', h', hr', hq', hge'⟩
      dsimp only
      obtain ⟨Q1, hQ⟩ : ∃ Q1, (v * 4294967296 + un0) / (y1 * 4294967296 + y0) = Q1 := ⟨_, rfl⟩
      rw [hQ] at hge'
      cases hc1 : decide ((q' : Int) ≥ 4294967296) with
      | true =>
        have hgt := kn_gt (y0 := y0) (un1 := un0) h' (by omega) (by omega) (.inl (by have := of_decide_eq_true hc1; omega))
        rw [hQ] at hgt
        have hq1 : 1 ≤ q' := by omega
        have e1 := fun (P : Program) (t : TypeId) (w : World) => Go.Abs.u64_sub (P := P) (t := t) q' 1 (by omega) w
        simp only [show (q' + (18446744073709551616 - 1)) % 18446744073709551616 = q' - 1 by omega] at e1
        have e2 := fun (P : Program) (t : TypeId) (w : World) => Go.Abs.u64_add (P := P) (t := t) r' y1 w
        simp only [show (r' + y1) % 18446744073709551616 = r' + y1 by omega] at e2
        have h'' : (q' - 1) * y1 + (r' + y1) = v := by
          have : q' * y1 = (q' - 1) * y1 + y1 := by rw [← Nat.succ_mul, show (q' - 1).succ = q' by omega]
          omega
        cases hc3 : decide (((r' + y1 : Nat) : Int) ≥ 4294967296) with
        | true =>
          have hk := kn_brk (un1 := un0) (by omega) h'' (by omega) b2 (by have := of_decide_eq_true hc3; omega)
          have hle := kn_le (by omega) h'' hk.2
          rw [hQ] at hle
          repeat' (first | (refine go_binN _ rfl rfl rfl rfl rfl rfl (e1 _ _) (k0 _ (by omega)) ?_) | (refine go_binN _ rfl rfl rfl rfl rfl rfl (e2 _ _) (k0 _ (by omega)) ?_) | refine zS rfl ?_ | refine qA ?_ | refine qB rfl ?_ | refine qD ?_ | refine qE ?_ | refine qF ?_ | refine qH rfl ?_ | refine zT rfl ?_ | refine zX rfl rfl rfl rfl ?_)
          exact go_stop ⟨q' - 1, by rw [hQ]; omega, (zle 0)⟩
        | false =>
          have hc3' := of_decide_eq_false hc3
          repeat' (first | (refine go_binN _ rfl rfl rfl rfl rfl rfl (e1 _ _) (k0 _ (by omega)) ?_) | (refine go_binN _ rfl rfl rfl rfl rfl rfl (e2 _ _) (k0 _ (by omega)) ?_) | refine zS rfl ?_ | refine qA ?_ | refine qB rfl ?_ | refine qD ?_ | refine qE ?_ | refine qF ?_ | refine qG ?_ | refine zT rfl ?_ | refine zU rfl ?_ | refine zX rfl rfl rfl rfl ?_)
          refine go_stop ?_
          exact ⟨⟨q' - 1, r' + y1, h'', by omega, by omega, by rw [hQ]; omega⟩, by dsimp only; omega, (zle 0)⟩
      | false =>
        have hc1' := of_decide_eq_false hc1
        have hm2 : q' * y0 < 18446744073709551616 := by
          have := Nat.mul_le_mul (show q' ≤ 4294967295 by omega) (show y0 ≤ 4294967295 by omega)
          omega
        have e3 := fun (P : Program) (t : TypeId) (w : World) => Go.Abs.u64_mul (P := P) (t := t) q' y0 w
        simp only [Nat.mod_eq_of_lt hm2] at e3
        have e4 := fun (P : Program) (t : TypeId) (w : World) => Go.Abs.u64_mul (P := P) (t := t) 4294967296 r' w
        simp only [show (4294967296 * r') % 18446744073709551616 = 4294967296 * r' by omega] at e4
        have e5 := fun (P : Program) (t : TypeId) (w : World) => Go.Abs.u64_add (P := P) (t := t) (4294967296 * r') un0 w
        simp only [show (4294967296 * r' + un0) % 18446744073709551616 = 4294967296 * r' + un0 by omega] at e5
        cases hc2 : decide (((q' * y0 : Nat) : Int) > ((4294967296 * r' + un0 : Nat) : Int)) with
        | true =>
          have hgt := kn_gt (y0 := y0) (un1 := un0) h' (by omega) (by omega) (.inr (by have := of_decide_eq_true hc2; omega))
          rw [hQ] at hgt
          have hq1 : 1 ≤ q' := by omega
          have e1 := fun (P : Program) (t : TypeId) (w : World) => Go.Abs.u64_sub (P := P) (t := t) q' 1 (by omega) w
          simp only [show (q' + (18446744073709551616 - 1)) % 18446744073709551616 = q' - 1 by omega] at e1
          have e2 := fun (P : Program) (t : TypeId) (w : World) => Go.Abs.u64_add (P := P) (t := t) r' y1 w
          simp only [show (r' + y1) % 18446744073709551616 = r' + y1 by omega] at e2
          have h'' : (q' - 1) * y1 + (r' + y1) = v := by
            have : q' * y1 = (q' - 1) * y1 + y1 := by rw [← Nat.succ_mul, show (q' - 1).succ = q' by omega]
            omega
          cases hc3 : decide (((r' + y1 : Nat) : Int) ≥ 4294967296) with
          | true =>
            have hk := kn_brk (un1 := un0) (by omega) h'' (by omega) b2 (by have := of_decide_eq_true hc3; omega)
            have hle := kn_le (by omega) h'' hk.2
            rw [hQ] at hle
            repeat' (first | (refine go_binN _ rfl rfl rfl rfl rfl rfl (e3 _ _) (k0 _ (by omega)) ?_) | (refine go_binN _ rfl rfl rfl rfl rfl rfl (e4 _ _) (k0 _ (by omega)) ?_) | (refine go_binN _ rfl rfl rfl rfl rfl rfl (e5 _ _) (k0 _ (by omega)) ?_) | (refine go_binN _ rfl rfl rfl rfl rfl rfl (e1 _ _) (k0 _ (by omega)) ?_) | (refine go_binN _ rfl rfl rfl rfl rfl rfl (e2 _ _) (k0 _ (by omega)) ?_) | refine zS rfl ?_ | refine qA ?_ | refine qB rfl ?_ | refine qD ?_ | refine qE ?_ | refine qF ?_ | refine qH rfl ?_ | refine zT rfl ?_ | refine zW rfl rfl rfl rfl ?_)
            exact go_stop ⟨q' - 1, by rw [hQ]; omega, (zle 0)⟩
          | false =>
            have hc3' := of_decide_eq_false hc3
            repeat' (first | (refine go_binN _ rfl rfl rfl rfl rfl rfl (e3 _ _) (k0 _ (by omega)) ?_) | (refine go_binN _ rfl rfl rfl rfl rfl rfl (e4 _ _) (k0 _ (by omega)) ?_) | (refine go_binN _ rfl rfl rfl rfl rfl rfl (e5 _ _) (k0 _ (by omega)) ?_) | (refine go_binN _ rfl rfl rfl rfl rfl rfl (e1 _ _) (k0 _ (by omega)) ?_) | (refine go_binN _ rfl rfl rfl rfl rfl rfl (e2 _ _) (k0 _ (by omega)) ?_) | refine zS rfl ?_ | refine qA ?_ | refine qB rfl ?_ | refine qD ?_ | refine qE ?_ | refine qF ?_ | refine qG ?_ | refine zT rfl ?_ | refine zU rfl ?_ | refine zW rfl rfl rfl rfl ?_)
            refine go_stop ?_
            exact ⟨⟨q' - 1, r' + y1, h'', by omega, by omega, by rw [hQ]; omega⟩, by dsimp only; omega, (zle 0)⟩
        | false =>
          have hc2' := of_decide_eq_false hc2
          have hle := kn_le (un1 := un0) (y0 := y0) (by omega) h' (by omega)
          rw [hQ] at hle
          repeat' (first | (refine go_binN _ rfl rfl rfl rfl rfl rfl (e3 _ _) (k0 _ (by omega)) ?_) | (refine go_binN _ rfl rfl rfl rfl rfl rfl (e4 _ _) (k0 _ (by omega)) ?_) | (refine go_binN _ rfl rfl rfl rfl rfl rfl (e5 _ _) (k0 _ (by omega)) ?_) | refine zS rfl ?_ | refine qA ?_ | refine qB rfl ?_ | refine qD ?_ | refine qH rfl ?_ | refine zU rfl ?_ | refine zW rfl rfl rfl rfl ?_)
          exact go_stop ⟨q', by rw [hQ]; omega, (zle 0)⟩
    · obtain ⟨P0, hP0⟩ : ∃ Q, (v * 4294967296 + un0) / (y1 * 4294967296 + y0) = Q := ⟨_, rfl⟩
      obtain ⟨z, hz⟩ : ∃ v', (v * 4294967296 + un0) % (y1 * 4294967296 + y0) = v' := ⟨_, rfl⟩
      rw [hP0]
      have hPz : P0 * Y + z = v * 4294967296 + un0 := by rw [← hP0, ← hz, hY, Nat.mul_comm]; exact Nat.div_add_mod _ _
      have hzY : z < y1 * 4294967296 + y0 := by rw [← hz]; exact Nat.mod_lt _ (by omega)
      have hP32 : P0 < 4294967296 := by rw [← hP0]; exact Nat.div_lt_of_lt_mul (by omega)
      clear d1 d2 d3 d4 d5 d6 d7 hP0 hz hQ hv hq hr hqr hry hq2 hge
      have d1 := fun (P : Program) (t : TypeId) (w : World) => Go.Abs.u64_mul (P := P) (t := t) Q 4294967296 w
      simp only [Nat.mod_eq_of_lt (show Q * 4294967296 < 18446744073709551616 from by clear hfin1 hfin2 sp1 sp2; omega)] at d1
      have d2 := fun (P : Program) (t : TypeId) (w : World) => Go.Abs.u64_add (P := P) (t := t) (Q * 4294967296) P0 w
      simp only [Nat.mod_eq_of_lt (show Q * 4294967296 + P0 < 18446744073709551616 from by clear hfin1 hfin2 sp1 sp2; omega)] at d2
      have d3 := fun (P : Program) (t : TypeId) (w : World) => Go.Abs.u64_mul (P := P) (t := t) v 4294967296 w
      have d4 := fun (P : Program) (t : TypeId) (w : World) => Go.Abs.u64_add (P := P) (t := t) ((v * 4294967296) % 18446744073709551616) un0 w
      have d5 := fun (P : Program) (t : TypeId) (w : World) => Go.Abs.u64_mul (P := P) (t := t) P0 Y w
      have d6 := fun (P : Program) (t : TypeId) (w : World) => Go.Abs.u64_sub (P := P) (t := t) (((v * 4294967296) % 18446744073709551616 + un0) % 18446744073709551616) ((P0 * Y) % 18446744073709551616) (by omega) w
      simp only [wrap_sub v (P0 * Y) un0 z hPz (by omega)] at d6
      have d7 := fun (P : Program) (t : TypeId) (k : IntKind) (w : World) => Go.Abs.u64_shr (P := P) (t := t) (k := k) z s (by omega) w
      have hdm : (Q * 4294967296 + P0) * Y + z = u * 18446744073709551616 + ul := by
        rw [Nat.add_mul, show Q * 4294967296 * Y = Q * Y * 4294967296 by rw [Nat.mul_assoc, Nat.mul_comm 4294967296, Nat.mul_assoc]]
        omega
      have hd1 : (u * 18446744073709551616 + ul) / Y = Q * 4294967296 + P0 := by
        rw [← hdm, Nat.mul_comm, Nat.mul_add_div (by omega), Nat.div_eq_of_lt (by omega), Nat.add_zero]
      have hd2 : (u * 18446744073709551616 + ul) % Y = z := by
        rw [← hdm, Nat.mul_comm, Nat.mul_add_mod, Nat.mod_eq_of_lt (by omega)]
      rw [hd1] at hfin1
      rw [hd2] at hfin2
      rw [← hfin1, ← hfin2]
      have kz : okV (.int .u64 ((z / 2 ^ s : Nat) : Int)) = true := k0 _ (Nat.lt_of_le_of_lt (Nat.div_le_self _ _) (by omega))
      repeat' (first | (refine go_binN _ rfl rfl rfl rfl rfl rfl (d2 _ _) (k0 _ (by omega)) ?_) | (refine go_binN _ rfl rfl rfl rfl rfl rfl (d3 _ _) (k0 _ (by omega)) ?_) | (refine go_binN _ rfl rfl rfl rfl rfl rfl (d4 _ _) (k0 _ (by omega)) ?_) | (refine go_binN _ rfl rfl rfl rfl rfl rfl (d5 _ _) (k0 _ (by omega)) ?_) | (refine go_binN _ rfl rfl rfl rfl rfl rfl (d6 _ _) (k0 _ (by omega)) ?_) | (refine go_binN _ rfl rfl rfl rfl rfl rfl (d7 _ _ _) kz ?_) | refine zS rfl ?_ | refine qD ?_ | refine qM rfl rfl rfl ?_ | exact zL)
end Go.Proofs.YthieohigmpfknaaGreatDoor

/- Quotients and remainders of wide numbers, bounded products, and the reference's long division. Conditions: divisors from 1 to 10^15; magnitudes below 2^128. -/
namespace Go.Proofs.YthieohigmpfknaaGreatDoor
open Go Go.Abs Go.Val Go.RowKit
attribute [local irreducible] go SGo HasBody Ev ExtEv EvO EvS binOp

theorem mod_fold (m g : Nat) : (m / 18446744073709551616 % g * 18446744073709551616 + m % 18446744073709551616) % g = m % g := by
  have h := Nat.div_add_mod m 18446744073709551616
  conv => rhs; rw [← h]
  rw [Nat.add_mod, Nat.mul_mod, Nat.mod_mod, ← Nat.mul_mod, ← Nat.add_mod, Nat.mul_comm]
theorem wmod_ev (p : Bool) (m g : Nat) (hg : 0 < g) (hg2 : g < 18446744073709551616) (hm : m < 18446744073709551616 * 18446744073709551616) : Ev E 198 [wideD p m, .imm (.int .u64 (g : Int))] (.d (.imm (.int .u64 ((m % g : Nat) : Int)))) := by
  have h1 := div64_ev (m / 18446744073709551616 % g) (m % 18446744073709551616) g (Nat.mod_lt _ hg) hg2 (Nat.mod_lt _ (by omega))
  rw [mod_fold] at h1
  have e1 := fun (P : Program) (t : TypeId) (w : World) => Go.Abs.u64_rem (P := P) (t := t) (m / 18446744073709551616) g hg w
  have k1 := u64_ok (m / 18446744073709551616 % g) (Nat.lt_trans (Nat.mod_lt _ hg) hg2)
  have k0 := hg
  generalize m / 18446744073709551616 % g = a at *
  unfold wideD
  refine enter2 Tryz.func198 Tryz.ntmps198 rfl rfl fun w0 F0 O => ?_
  repeat' (first | (refine go_binN _ rfl rfl rfl rfl rfl rfl (e1 _ _) k1 ?_) | refine zS rfl ?_ | refine qA ?_ | refine qB rfl ?_ | refine qC (by kernel_rfl) ?_ | refine qD ?_ | refine qP rfl rfl rfl rfl rfl rfl b228 (h1) ?_ | refine qL rfl rfl ?_ | exact zD)
def ovB (m h : Nat) : Bool := decide (m / h ≤ 1000000000000000)
def ovN (p : Bool) (m h : Nat) : Int := bif ovB m h then sv p (m / h) else 0
theorem over_ev (p : Bool) (m h : Nat) (hh : 0 < h) (h2 : h < 18446744073709551616) : Ev E 199 [wideD p m, .imm (.int .u64 (h : Int))] (.tup [.int (ovN p m h), .bool (ovB m h)]) := by
  cases g1 : decide (((m / 18446744073709551616 : Nat) : Int) ≥ (h : Int)) with
  | true =>
    have hb : ovB m h = false := by
      have g := of_decide_eq_true g1
      have : h ≤ m / 18446744073709551616 := by omega
      rw [Nat.le_div_iff_mul_le (by omega)] at this
      have : 18446744073709551616 ≤ m / h := by rw [Nat.le_div_iff_mul_le hh]; omega
      unfold ovB
      simp
      omega
    unfold ovN
    rw [hb]
    unfold wideD
    refine enter2 Tryz.func199 Tryz.ntmps199 rfl rfl fun w0 F0 O => ?_
    repeat' (first | refine zS rfl ?_ | refine qA ?_ | refine qB rfl ?_ | refine qD ?_ | refine zT rfl ?_ | refine qM rfl rfl rfl ?_ | exact zL)
  | false =>
    have g := of_decide_eq_false g1
    have h1 := div64_ev (m / 18446744073709551616) (m % 18446744073709551616) h (by omega) h2 (Nat.mod_lt _ (by omega))
    rw [show m / 18446744073709551616 * 18446744073709551616 + m % 18446744073709551616 = m by omega] at h1
    unfold ovN
    cases hb : ovB m h with
    | false =>
      have g2 : decide (((m / h : Nat) : Int) > 1000000000000000) = true := by unfold ovB at hb; simp at hb ⊢; omega
      generalize m / h = q at *
      unfold wideD
      refine enter2 Tryz.func199 Tryz.ntmps199 rfl rfl fun w0 F0 O => ?_
      repeat' (first | refine zS rfl ?_ | refine qA ?_ | refine qB rfl ?_ | refine qD ?_ | refine qE ?_ | refine qP rfl rfl rfl rfl rfl rfl b228 (h1) ?_ | refine zT rfl ?_ | refine zU rfl ?_ | refine qM rfl rfl rfl ?_ | exact zL)
    | true =>
      have hq : m / h ≤ 1000000000000000 := by unfold ovB at hb; simpa using hb
      have g2 : decide (((m / h : Nat) : Int) > 1000000000000000) = false := by simp; omega
      generalize m / h = q at *
      have r1 : inR .i64 (q : Int) := by simp only [inR]; omega
      unfold wideD
      cases p with
      | true =>
        rw [show (bif true then sv true q else 0) = 0 - (q : Int) by simp [sv]]
        refine enter2 Tryz.func199 Tryz.ntmps199 rfl rfl fun w0 F0 O => ?_
        repeat' (first | refine zS rfl ?_ | refine qA ?_ | refine qB rfl ?_ | refine qD ?_ | refine qE ?_ | refine qP rfl rfl rfl rfl rfl rfl b228 (h1) ?_ | refine zT rfl ?_ | refine zU rfl ?_ | refine qM rfl rfl rfl ?_ | exact zL)
      | false =>
        refine enter2 Tryz.func199 Tryz.ntmps199 rfl rfl fun w0 F0 O => ?_
        repeat' (first | refine zS rfl ?_ | refine qA ?_ | refine qB rfl ?_ | refine qD ?_ | refine qE ?_ | refine qP rfl rfl rfl rfl rfl rfl b228 (h1) ?_ | refine zU rfl ?_ | refine qM rfl rfl rfl ?_ | exact zL)
/-! ## Bounded products and remainders -/
def mulB (a b : Int) : Bool := inM a && (inM b && decide (a.natAbs * b.natAbs ≤ 1000000000000000))
def mulN (a b : Int) : Int := bif mulB a b then a * b else 0
theorem natAbs_le_mul {a b : Int} (h : a.natAbs * b.natAbs ≤ 1000000000000000) : -1000000000000000 ≤ a * b ∧ a * b ≤ 1000000000000000 := by
  rw [← Int.natAbs_mul] at h
  omega
theorem nmul_ev (a b : Int) : Ev E 200 [.int a, .int b] (.tup [.int (mulN a b), .bool (mulB a b)]) := by
  have h1 := in_ev a
  have h2 := in_ev b
  unfold mulN
  cases ha : inM a with
  | false =>
    rw [ha] at h1
    rw [show mulB a b = false by unfold mulB; rw [ha]; rfl]
    refine enter2 Tryz.func200 Tryz.ntmps200 rfl rfl fun w0 F0 O => ?_
    repeat' (first | refine zS rfl ?_ | refine qA ?_ | refine qB rfl ?_ | refine qD ?_ | refine qP rfl rfl rfl rfl rfl rfl b165 (h1) ?_ | refine zT rfl ?_ | refine qM rfl rfl rfl ?_ | exact zL)
  | true =>
    cases hb : inM b with
    | false =>
      rw [ha] at h1
      rw [hb] at h2
      rw [show mulB a b = false by unfold mulB; rw [ha, hb]; rfl]
      refine enter2 Tryz.func200 Tryz.ntmps200 rfl rfl fun w0 F0 O => ?_
      repeat' (first | refine zS rfl ?_ | refine qA ?_ | refine qB rfl ?_ | refine qD ?_ | refine qP rfl rfl rfl rfl rfl rfl b165 (h1) ?_ | refine qP rfl rfl rfl rfl rfl rfl b165 (h2) ?_ | refine zT rfl ?_ | refine qM rfl rfl rfl ?_ | exact zL)
    | true =>
      have h3 := abs_ev a ha
      have h4 := abs_ev b hb
      rw [ha] at h1
      rw [hb] at h2
      have ha' := (inM_iff a).1 ha
      have hb' := (inM_iff b).1 hb
      have hm : mulB a b = decide (a.natAbs * b.natAbs ≤ 1000000000000000) := by unfold mulB; rw [ha, hb]; rfl
      cases h0 : a != 0 with
      | false =>
        have : a = 0 := by simpa using h0
        subst this
        rw [show mulB 0 b = true by rw [hm]; simp]
        refine enter2 Tryz.func200 Tryz.ntmps200 rfl rfl fun w0 F0 O => ?_
        repeat' (first | refine zS rfl ?_ | refine qA ?_ | refine qB rfl ?_ | refine qD ?_ | refine qE ?_ | refine qP rfl rfl rfl rfl rfl rfl b165 (h1) ?_ | refine qP rfl rfl rfl rfl rfl rfl b165 (h2) ?_ | refine zU rfl ?_ | refine qM rfl rfl rfl ?_ | exact zL)
      | true =>
        have h0' : a ≠ 0 := by simpa using h0
        have hdv : Int.tdiv 1000000000000000 (a.natAbs : Int) = ((1000000000000000 / a.natAbs : Nat) : Int) := by
          rw [Int.tdiv_eq_ediv_of_nonneg (by omega)]; rfl
        have hlt := Nat.div_le_self 1000000000000000 a.natAbs
        have hiff : b.natAbs ≤ 1000000000000000 / a.natAbs ↔ a.natAbs * b.natAbs ≤ 1000000000000000 := by rw [Nat.le_div_iff_mul_le (by omega), Nat.mul_comm]
        have hna : (a.natAbs : Int) ≠ 0 := by omega
        generalize 1000000000000000 / a.natAbs = Q at hdv hlt hiff
        have hri : inR .i64 (Int.tdiv 1000000000000000 (a.natAbs : Int)) := by rw [hdv]; simp only [inR]; omega
        cases hc : decide (a.natAbs * b.natAbs ≤ 1000000000000000) with
        | true =>
          have g : decide ((b.natAbs : Int) > Int.tdiv 1000000000000000 (a.natAbs : Int)) = false := by
            have := hiff.2 (of_decide_eq_true hc)
            rw [hdv]; simp; omega
          have := natAbs_le_mul (of_decide_eq_true hc)
          rw [hm, hc]
          refine enter2 Tryz.func200 Tryz.ntmps200 rfl rfl fun w0 F0 O => ?_
          repeat' (first | refine zS rfl ?_ | refine qA ?_ | refine qB rfl ?_ | refine qD ?_ | refine qE ?_ | refine qP rfl rfl rfl rfl rfl rfl b165 (h1) ?_ | refine qP rfl rfl rfl rfl rfl rfl b165 (h2) ?_ | refine qP rfl rfl rfl rfl rfl rfl b216 (h3) ?_ | refine qP rfl rfl rfl rfl rfl rfl b216 (h4) ?_ | refine zU rfl ?_ | refine qM rfl rfl rfl ?_ | refine zX rfl rfl rfl rfl ?_ | exact zL)
        | false =>
          have g : decide ((b.natAbs : Int) > Int.tdiv 1000000000000000 (a.natAbs : Int)) = true := by
            have := mt hiff.1 (of_decide_eq_false hc)
            rw [hdv]; simp; omega
          rw [hm, hc]
          refine enter2 Tryz.func200 Tryz.ntmps200 rfl rfl fun w0 F0 O => ?_
          repeat' (first | refine zS rfl ?_ | refine qA ?_ | refine qB rfl ?_ | refine qD ?_ | refine qP rfl rfl rfl rfl rfl rfl b165 (h1) ?_ | refine qP rfl rfl rfl rfl rfl rfl b165 (h2) ?_ | refine qP rfl rfl rfl rfl rfl rfl b216 (h3) ?_ | refine qP rfl rfl rfl rfl rfl rfl b216 (h4) ?_ | refine zT rfl ?_ | refine qM rfl rfl rfl ?_ | refine zX rfl rfl rfl rfl ?_ | exact zL)
def modB (a b : Int) : Bool := inM a && (inM b && !(b == 0))
def modN (a b : Int) : Int := bif modB a b then a.tmod b else 0
theorem nmod_ev (a b : Int) : Ev E 157 [.int a, .int b] (.tup [.int (modN a b), .bool (modB a b)]) := by
  have h1 := in_ev a
  have h2 := in_ev b
  unfold modN
  cases ha : inM a with
  | false =>
    rw [ha] at h1
    rw [show modB a b = false by unfold modB; rw [ha]; rfl]
    refine enter2 Tryz.func157 Tryz.ntmps157 rfl rfl fun w0 F0 O => ?_
    repeat' (first | refine zS rfl ?_ | refine qA ?_ | refine qB rfl ?_ | refine qD ?_ | refine qP rfl rfl rfl rfl rfl rfl b165 (h1) ?_ | refine zT rfl ?_ | refine qM rfl rfl rfl ?_ | exact zL)
  | true =>
    cases hb : inM b with
    | false =>
      rw [ha] at h1
      rw [hb] at h2
      rw [show modB a b = false by unfold modB; rw [ha, hb]; rfl]
      refine enter2 Tryz.func157 Tryz.ntmps157 rfl rfl fun w0 F0 O => ?_
      repeat' (first | refine zS rfl ?_ | refine qA ?_ | refine qB rfl ?_ | refine qD ?_ | refine qP rfl rfl rfl rfl rfl rfl b165 (h1) ?_ | refine qP rfl rfl rfl rfl rfl rfl b165 (h2) ?_ | refine zT rfl ?_ | refine qM rfl rfl rfl ?_ | exact zL)
    | true =>
      rw [ha] at h1
      rw [hb] at h2
      have ha' := (inM_iff a).1 ha
      have hb' := (inM_iff b).1 hb
      cases h0 : b == 0 with
      | true =>
        rw [show modB a b = false by unfold modB; rw [ha, hb, h0]; rfl]
        refine enter2 Tryz.func157 Tryz.ntmps157 rfl rfl fun w0 F0 O => ?_
        repeat' (first | refine zS rfl ?_ | refine qA ?_ | refine qB rfl ?_ | refine qD ?_ | refine qP rfl rfl rfl rfl rfl rfl b165 (h1) ?_ | refine qP rfl rfl rfl rfl rfl rfl b165 (h2) ?_ | refine zT rfl ?_ | refine qM rfl rfl rfl ?_ | exact zL)
      | false =>
        have h0' : b ≠ 0 := by simpa using h0
        have hri : inR .i64 (a.tmod b) := by
          have e := Int.natAbs_tmod a b
          have := Nat.mod_le a.natAbs b.natAbs
          generalize a.tmod b = z at *
          generalize a.natAbs % b.natAbs = y at *
          simp only [inR]; omega
        rw [show modB a b = true by unfold modB; rw [ha, hb, h0]; rfl]
        refine enter2 Tryz.func157 Tryz.ntmps157 rfl rfl fun w0 F0 O => ?_
        repeat' (first | refine zS rfl ?_ | refine qA ?_ | refine qB rfl ?_ | refine qD ?_ | refine qE ?_ | refine qP rfl rfl rfl rfl rfl rfl b165 (h1) ?_ | refine qP rfl rfl rfl rfl rfl rfl b165 (h2) ?_ | (refine qS rfl ⟨h0', hri⟩ ?_) | refine zU rfl ?_ | refine qM rfl rfl rfl ?_ | exact zL)
end Go.Proofs.YthieohigmpfknaaGreatDoor

/- The reference's long division and its narrowing of wide numbers. Conditions: divisors from 1 to 10^15; 14 digits. -/
namespace Go.Proofs.YthieohigmpfknaaGreatDoor
open Go Go.Abs Go.Val Go.RowKit
attribute [local irreducible] go SGo HasBody Ev ExtEv EvO EvS

end Go.Proofs.YthieohigmpfknaaGreatDoor

/- Sums of fractions: what both texts compute; the program's. Conditions: none. -/
namespace Go.Proofs.YthieohigmpfknaaGreatDoor
open Go Go.Abs Go.Val Go.RowKit
attribute [local irreducible] go SGo HasBody Ev ExtEv EvO EvS binOp

def adG (ad bd : Int) : Nat := Int.gcd ad bd
def adT (an ad bn bd : Int) : Int := an * Int.tdiv bd (adG ad bd) + bn * Int.tdiv ad (adG ad bd)
def adH (an ad bn bd : Int) : Nat := Int.gcd (((adT an ad bn bd).natAbs % adG ad bd : Nat) : Int) (adG ad bd : Int)
def adD (an ad bn bd : Int) : Int := Int.tdiv ad (adG ad bd) * Int.tdiv bd (adH an ad bn bd)
def adN (an ad bn bd : Int) : Int := sgn (adT an ad bn bd) * (((adT an ad bn bd).natAbs / adH an ad bn bd : Nat) : Int)
def adK (an ad bn bd : Int) : Bool := ovB (adT an ad bn bd).natAbs (adH an ad bn bd) && decide (adD an ad bn bd ≤ 1000000000000000)
def addB (an ad bn bd : Int) : Bool := fval an ad && fval bn bd && (adT an ad bn bd == 0 || adK an ad bn bd)
def addN (an ad bn bd : Int) : Int := bif addB an ad bn bd then (bif adT an ad bn bd == 0 then 0 else adN an ad bn bd) else 0
def addD (an ad bn bd : Int) : Int := bif addB an ad bn bd then (bif adT an ad bn bd == 0 then 1 else adD an ad bn bd) else 0
theorem fval_inv {n d : Int} (h : fval n d = true) : (1 ≤ d ∧ d ≤ 1000000000000000) ∧ (-1000000000000000 ≤ n ∧ n ≤ 1000000000000000) ∧ Int.gcd n d = 1 := by
  unfold fval at h
  simp only [Bool.and_eq_true, decide_eq_true_eq, beq_iff_eq] at h
  have := (inM_iff n).1 h.2.2.1
  exact ⟨⟨h.1, h.2.1⟩, this, by omega⟩
theorem tdiv_rng {b : Int} {g : Nat} (hb : 1 ≤ b ∧ b ≤ 1000000000000000) (hg : (g : Int) ∣ b) (h0 : 0 < g) : 1 ≤ Int.tdiv b g ∧ Int.tdiv b g ≤ 1000000000000000 := by
  rw [Int.tdiv_eq_ediv_of_nonneg (by omega)]
  have h1 : (g : Int) ≤ b := Int.le_of_dvd (by omega) hg
  refine ⟨?_, ?_⟩
  · rw [Int.le_ediv_iff_mul_le (by omega)]; omega
  · exact Int.le_trans (Int.ediv_le_self _ (by omega)) hb.2
theorem sv_inv {p : Bool} {m : Nat} {T : Int} (h : sv p m = T) : m = T.natAbs ∧ (T ≠ 0 → ∀ q : Nat, sv p q = sgn T * q) := by
  cases p
  · simp only [sv, cond_false] at h
    refine ⟨by omega, fun h0 q => ?_⟩
    rw [sgn_pos (by omega)]
    simp [sv]
  · simp only [sv, cond_true] at h
    refine ⟨by omega, fun h0 q => ?_⟩
    rw [sgn_neg (by omega)]
    simp [sv]
theorem add_key {an ad bn bd : Int} (hva : fval an ad = true) (hvb : fval bn bd = true) : ∃ (G H : Nat) (T : Int) (p q r : Bool) (m m' : Nat),
    G = adG ad bd ∧ H = adH an ad bn bd ∧ T = adT an ad bn bd ∧ (1 ≤ G ∧ G ≤ 1000000000000000) ∧ (1 ≤ H ∧ H ≤ 1000000000000000) ∧ (1 ≤ Int.tdiv bd G ∧ Int.tdiv bd G ≤ 1000000000000000) ∧ (1 ≤ Int.tdiv ad G ∧ Int.tdiv ad G ≤ 1000000000000000) ∧
    (1 ≤ Int.tdiv bd H ∧ Int.tdiv bd H ≤ 1000000000000000) ∧ T.natAbs ≤ 2000000000000000000000000000000 ∧ Ev E 185 [.int ad, .int bd] (.d (.int (G : Int))) ∧ Ev E 195 [.int an, .int (Int.tdiv bd G)] (.d (wideD p m)) ∧ Ev E 195 [.int bn, .int (Int.tdiv ad G)] (.d (wideD q m')) ∧
    Ev E 196 [wideD p m, wideD q m'] (.d (wideD r T.natAbs)) ∧ Ev E 197 [wideD r T.natAbs] (.d (.int (sgn T))) ∧ Ev E 198 [wideD r T.natAbs, .imm (.int .u64 (G : Int))] (.d (.imm (.int .u64 ((T.natAbs % G : Nat) : Int)))) ∧
    Ev E 185 [.int ((T.natAbs % G : Nat) : Int), .int (G : Int)] (.d (.int (H : Int))) ∧ (T ≠ 0 → ovN r T.natAbs H = bif ovB T.natAbs H then sgn T * ((T.natAbs / H : Nat) : Int) else 0) ∧
    Ev E 199 [wideD r T.natAbs, .imm (.int .u64 (H : Int))] (.tup [.int (ovN r T.natAbs H), .bool (ovB T.natAbs H)]) := by
  obtain ⟨a1, a2, -⟩ := fval_inv hva
  obtain ⟨b1, b2, -⟩ := fval_inv hvb
  have hG0 : 0 < Int.gcd ad bd := Int.gcd_pos_of_ne_zero_left _ (by omega)
  have hGa : ((Int.gcd ad bd : Nat) : Int) ∣ ad := Int.gcd_dvd_left ..
  have hGb : ((Int.gcd ad bd : Nat) : Int) ∣ bd := Int.gcd_dvd_right ..
  have hG1 : ((Int.gcd ad bd : Nat) : Int) ≤ ad := Int.le_of_dvd (by omega) hGa
  have r1 := tdiv_rng b1 hGb hG0
  have r2 := tdiv_rng a1 hGa hG0
  have n1 := nat_mul_bnd (a := an) (b := Int.tdiv bd (Int.gcd ad bd : Nat)) a2 (by omega)
  have n2 := nat_mul_bnd (a := bn) (b := Int.tdiv ad (Int.gcd ad bd : Nat)) b2 (by omega)
  have hw := wplus_ev (!(decide (an < 0) == decide (Int.tdiv bd (Int.gcd ad bd : Nat) < 0))) (!(decide (bn < 0) == decide (Int.tdiv ad (Int.gcd ad bd : Nat) < 0))) _ _ n1 n2
  have hsv := wsum_sv (!(decide (an < 0) == decide (Int.tdiv bd (Int.gcd ad bd : Nat) < 0))) (!(decide (bn < 0) == decide (Int.tdiv ad (Int.gcd ad bd : Nat) < 0))) (an.natAbs * (Int.tdiv bd (Int.gcd ad bd : Nat)).natAbs) (bn.natAbs * (Int.tdiv ad (Int.gcd ad bd : Nat)).natAbs)
  have hle := wsum_le (!(decide (an < 0) == decide (Int.tdiv bd (Int.gcd ad bd : Nat) < 0))) (!(decide (bn < 0) == decide (Int.tdiv ad (Int.gcd ad bd : Nat) < 0))) (an.natAbs * (Int.tdiv bd (Int.gcd ad bd : Nat)).natAbs) (bn.natAbs * (Int.tdiv ad (Int.gcd ad bd : Nat)).natAbs)
  rw [sv_mul, sv_mul] at hsv
  have hp1 := product_ev an (Int.tdiv bd (Int.gcd ad bd : Nat))
  have hp2 := product_ev bn (Int.tdiv ad (Int.gcd ad bd : Nat))
  obtain ⟨i1, i2⟩ := sv_inv hsv
  have hbig : (an * Int.tdiv bd (Int.gcd ad bd : Nat) + bn * Int.tdiv ad (Int.gcd ad bd : Nat)).natAbs ≤ 2000000000000000000000000000000 := by omega
  rw [i1] at hw hsv
  generalize (wsum _ _ _ _).1 = r at *
  change Ev E 196 _ (.d (wideD r (adT an ad bn bd).natAbs)) at hw
  have hHG : adH an ad bn bd ∣ adG ad bd := Int.ofNat_dvd.1 (Int.gcd_dvd_right ..)
  have hH0 : 0 < adH an ad bn bd := Nat.pos_of_dvd_of_pos hHG hG0
  have hHle : adH an ad bn bd ≤ adG ad bd := Nat.le_of_dvd hG0 hHG
  have hHb : ((adH an ad bn bd : Nat) : Int) ∣ bd := Int.dvd_trans (Int.ofNat_dvd.2 hHG) hGb
  have r3 := tdiv_rng b1 hHb hH0
  have hGM : adG ad bd ≤ 1000000000000000 := by show Int.gcd ad bd ≤ _; omega
  have hgc1 := gcd_ev ad bd
  rw [show gcdF ad bd = ((Int.gcd ad bd : Nat) : Int) by unfold gcdF; rw [(inM_iff ad).2 (by omega), (inM_iff bd).2 (by omega)]; rfl] at hgc1
  have hml : (adT an ad bn bd).natAbs % adG ad bd < adG ad bd := Nat.mod_lt _ hG0
  have hgc2 := gcd_ev (((adT an ad bn bd).natAbs % adG ad bd : Nat) : Int) (adG ad bd : Int)
  rw [show gcdF (((adT an ad bn bd).natAbs % adG ad bd : Nat) : Int) (adG ad bd : Int) = (adH an ad bn bd : Int) by unfold gcdF; rw [(inM_iff _).2 (by omega), (inM_iff _).2 (by omega)]; rfl] at hgc2
  have hbig2 : (adT an ad bn bd).natAbs ≤ 2000000000000000000000000000000 := hbig
  have hsg := wsign_ev r (adT an ad bn bd).natAbs (by omega)
  rw [show sv r (adT an ad bn bd).natAbs = adT an ad bn bd from hsv] at hsg
  have hmo := wmod_ev r (adT an ad bn bd).natAbs (adG ad bd) hG0 (by omega) (by omega)
  have hov := over_ev r (adT an ad bn bd).natAbs (adH an ad bn bd) hH0 (by omega)
  refine ⟨adG ad bd, adH an ad bn bd, adT an ad bn bd, _, _, r, _, _, rfl, rfl, rfl, ⟨hG0, hGM⟩, ⟨hH0, by omega⟩, r1, r2, r3, hbig2, hgc1, hp1, hp2, hw, hsg, hmo, hgc2, fun h0 => ?_, hov⟩
  unfold ovN
  cases ovB (adT an ad bn bd).natAbs (adH an ad bn bd) with
  | false => rfl
  | true => exact i2 h0 _
end Go.Proofs.YthieohigmpfknaaGreatDoor

/- Sums of fractions by the reference. Conditions: none. -/
namespace Go.Proofs.YthieohigmpfknaaGreatDoor
open Go Go.Abs Go.Val Go.RowKit
attribute [local irreducible] go SGo HasBody Ev ExtEv EvO EvS binOp

end Go.Proofs.YthieohigmpfknaaGreatDoor

/- Products of fractions, by both texts. Conditions: none. -/
namespace Go.Proofs.YthieohigmpfknaaGreatDoor
open Go Go.Abs Go.Val Go.RowKit
attribute [local irreducible] go SGo HasBody Ev ExtEv EvO EvS binOp

def muN (an ad bn bd : Int) : Int := Int.tdiv an (Int.gcd an bd : Nat) * Int.tdiv bn (Int.gcd bn ad : Nat)
def muD (an ad bn bd : Int) : Int := Int.tdiv ad (Int.gcd bn ad : Nat) * Int.tdiv bd (Int.gcd an bd : Nat)
def mulF (an ad bn bd : Int) : Bool := fval an ad && fval bn bd && (decide ((muN an ad bn bd).natAbs ≤ 1000000000000000) && decide (muD an ad bn bd ≤ 1000000000000000))
theorem tdiv_abs {a : Int} {g : Nat} (ha : -1000000000000000 ≤ a ∧ a ≤ 1000000000000000) : (Int.tdiv a g).natAbs = a.natAbs / g ∧ -1000000000000000 ≤ Int.tdiv a g ∧ Int.tdiv a g ≤ 1000000000000000 := by
  have e : (Int.tdiv a g).natAbs = a.natAbs / g := by rw [Int.natAbs_tdiv]; rfl
  have := Nat.div_le_self a.natAbs g
  refine ⟨e, ?_, ?_⟩ <;> omega
theorem mul_ev (an ad bn bd : Int) : Ev E 160 [.agg [.int an, .int ad], .agg [.int bn, .int bd]] (.tup [.agg [.int (bif mulF an ad bn bd then muN an ad bn bd else 0), .int (bif mulF an ad bn bd then muD an ad bn bd else 0)], .bool (mulF an ad bn bd)]) := by
  have hva := fvalid_ev an ad
  have hvb := fvalid_ev bn bd
  cases ha : fval an ad with
  | false =>
    rw [ha] at hva
    rw [show mulF an ad bn bd = false by unfold mulF; rw [ha]; rfl]
    refine enter2 Tryz.func160 Tryz.ntmps160 rfl rfl fun w0 F0 O => ?_
    repeat' (first | refine zS rfl ?_ | refine qA ?_ | refine qB rfl ?_ | refine qD ?_ | refine qP rfl rfl rfl rfl rfl rfl b148 (hva) ?_ | refine zT rfl ?_ | refine qM rfl rfl rfl ?_ | exact zL)
  | true =>
    cases hb : fval bn bd with
    | false =>
      rw [ha] at hva
      rw [hb] at hvb
      rw [show mulF an ad bn bd = false by unfold mulF; rw [ha, hb]; rfl]
      refine enter2 Tryz.func160 Tryz.ntmps160 rfl rfl fun w0 F0 O => ?_
      repeat' (first | refine zS rfl ?_ | refine qA ?_ | refine qB rfl ?_ | refine qD ?_ | refine qP rfl rfl rfl rfl rfl rfl b148 (hva) ?_ | refine qP rfl rfl rfl rfl rfl rfl b148 (hvb) ?_ | refine zT rfl ?_ | refine qM rfl rfl rfl ?_ | exact zL)
    | true =>
      obtain ⟨a1, a2, -⟩ := fval_inv ha
      obtain ⟨b1, b2, -⟩ := fval_inv hb
      rw [ha] at hva
      rw [hb] at hvb
      have hB : mulF an ad bn bd = (decide ((muN an ad bn bd).natAbs ≤ 1000000000000000) && decide (muD an ad bn bd ≤ 1000000000000000)) := by unfold mulF; rw [ha, hb]; rfl
      have g1 := gcd_ev an bd
      rw [show gcdF an bd = ((Int.gcd an bd : Nat) : Int) by unfold gcdF; rw [(inM_iff an).2 (by omega), (inM_iff bd).2 (by omega)]; rfl] at g1
      have g2 := gcd_ev bn ad
      rw [show gcdF bn ad = ((Int.gcd bn ad : Nat) : Int) by unfold gcdF; rw [(inM_iff bn).2 (by omega), (inM_iff ad).2 (by omega)]; rfl] at g2
      have hG0 : 0 < Int.gcd an bd := Int.gcd_pos_of_ne_zero_right _ (by omega)
      have hH0 : 0 < Int.gcd bn ad := Int.gcd_pos_of_ne_zero_right _ (by omega)
      obtain ⟨-, t1⟩ := tdiv_abs (g := Int.gcd an bd) a2
      obtain ⟨-, t2⟩ := tdiv_abs (g := Int.gcd bn ad) b2
      have t3 := tdiv_rng a1 (show ((Int.gcd bn ad : Nat) : Int) ∣ ad from Int.gcd_dvd_right ..) hH0
      have t4 := tdiv_rng b1 (show ((Int.gcd an bd : Nat) : Int) ∣ bd from Int.gcd_dvd_right ..) hG0
      have n1 := nmul_ev (Int.tdiv an (Int.gcd an bd : Nat)) (Int.tdiv bn (Int.gcd bn ad : Nat))
      have n2 := nmul_ev (Int.tdiv ad (Int.gcd bn ad : Nat)) (Int.tdiv bd (Int.gcd an bd : Nat))
      unfold mulN at n1 n2
      rw [show mulB (Int.tdiv an (Int.gcd an bd : Nat)) (Int.tdiv bn (Int.gcd bn ad : Nat)) = decide ((muN an ad bn bd).natAbs ≤ 1000000000000000) by
        unfold mulB muN; rw [(inM_iff _).2 t1, (inM_iff _).2 t2, Bool.true_and, Bool.true_and, ← Int.natAbs_mul]] at n1
      rw [show mulB (Int.tdiv ad (Int.gcd bn ad : Nat)) (Int.tdiv bd (Int.gcd an bd : Nat)) = decide (muD an ad bn bd ≤ 1000000000000000) by
        unfold mulB muD
        rw [(inM_iff _).2 (by omega), (inM_iff _).2 (by omega), Bool.true_and, Bool.true_and, ← Int.natAbs_mul]
        have : 0 ≤ Int.tdiv ad (Int.gcd bn ad : Nat) * Int.tdiv bd (Int.gcd an bd : Nat) := Int.mul_nonneg (by omega) (by omega)
        rw [decide_eq_decide]
        omega] at n2
      change Ev E 200 _ (.tup [.int (bif _ then muN an ad bn bd else 0), _]) at n1
      change Ev E 200 _ (.tup [.int (bif _ then muD an ad bn bd else 0), _]) at n2
      rw [hB]
      generalize muN an ad bn bd = x at *
      generalize muD an ad bn bd = y at *
      generalize decide (x.natAbs ≤ 1000000000000000) = k1 at *
      generalize decide (y ≤ 1000000000000000) = k2 at *
      clear hB ha hb
      generalize Int.gcd an bd = G at *
      generalize Int.gcd bn ad = H at *
      have w1 : inR .i64 (Int.tdiv an G) := by simp only [inR]; omega
      have w2 : inR .i64 (Int.tdiv bn H) := by simp only [inR]; omega
      have w3 : inR .i64 (Int.tdiv ad H) := by simp only [inR]; omega
      have w4 : inR .i64 (Int.tdiv bd G) := by simp only [inR]; omega
      have wG : (G : Int) ≠ 0 := by omega
      have wH : (H : Int) ≠ 0 := by omega
      cases k1 <;> cases k2
      all_goals
        refine enter2 Tryz.func160 Tryz.ntmps160 rfl rfl fun w0 F0 O => ?_
        repeat' (first | refine zS rfl ?_ | refine qA ?_ | refine qB rfl ?_ | refine qC (by kernel_rfl) ?_ | refine qD ?_ | refine qE ?_ | refine qP rfl rfl rfl rfl rfl rfl b148 (hva) ?_ | refine qP rfl rfl rfl rfl rfl rfl b148 (hvb) ?_ | refine qP (d := 25) rfl rfl rfl rfl rfl rfl b185 (g1) ?_ | refine qP (d := 30) rfl rfl rfl rfl rfl rfl b185 (g2) ?_ | refine qP (d := 40) rfl rfl rfl rfl rfl rfl b200 (n1) ?_ | refine qP (d := 52) rfl rfl rfl rfl rfl rfl b200 (n2) ?_ | refine zT rfl ?_ | refine zU rfl ?_ | refine qM rfl rfl rfl ?_ | exact zL)
end Go.Proofs.YthieohigmpfknaaGreatDoor

/- Quotients of fractions by the program. Conditions: none. -/
namespace Go.Proofs.YthieohigmpfknaaGreatDoor
open Go Go.Abs Go.Val Go.RowKit
attribute [local irreducible] go SGo HasBody Ev ExtEv EvO EvS binOp

def divB (an ad bn bd : Int) : Bool := (fval bn bd && !(bn == 0)) && mulF an ad (sgn bn * bd) (bn.natAbs : Int)
def divN (an ad bn bd : Int) : Int := bif divB an ad bn bd then muN an ad (sgn bn * bd) (bn.natAbs : Int) else 0
def divD (an ad bn bd : Int) : Int := bif divB an ad bn bd then muD an ad (sgn bn * bd) (bn.natAbs : Int) else 0
theorem div_ev (an ad bn bd : Int) : Ev E 161 [.agg [.int an, .int ad], .agg [.int bn, .int bd]] (.tup [.agg [.int (divN an ad bn bd), .int (divD an ad bn bd)], .bool (divB an ad bn bd)]) := by
  have hvb := fvalid_ev bn bd
  unfold divN divD
  cases hb : fval bn bd with
  | false =>
    rw [hb] at hvb
    rw [show divB an ad bn bd = false by unfold divB; rw [hb]; rfl]
    refine enter2 Tryz.func161 Tryz.ntmps161 rfl rfl fun w0 F0 O => ?_
    repeat' (first | refine zS rfl ?_ | refine qA ?_ | refine qB rfl ?_ | refine qD ?_ | refine qP rfl rfl rfl rfl rfl rfl b148 (hvb) ?_ | refine zT rfl ?_ | refine qM rfl rfl rfl ?_ | exact zL)
  | true =>
    obtain ⟨b1, b2, -⟩ := fval_inv hb
    rw [hb] at hvb
    cases h0 : bn == 0 with
    | true =>
      rw [show divB an ad bn bd = false by unfold divB; rw [hb, h0]; rfl]
      refine enter2 Tryz.func161 Tryz.ntmps161 rfl rfl fun w0 F0 O => ?_
      repeat' (first | refine zS rfl ?_ | refine qA ?_ | refine qB rfl ?_ | refine qD ?_ | refine qP rfl rfl rfl rfl rfl rfl b148 (hvb) ?_ | refine zT rfl ?_ | refine qM rfl rfl rfl ?_ | exact zL)
    | false =>
      have h0' : bn ≠ 0 := by simpa using h0
      rw [show divB an ad bn bd = mulF an ad (sgn bn * bd) (bn.natAbs : Int) by unfold divB; rw [hb, h0]; rfl]
      have hm := mul_ev an ad (sgn bn * bd) (bn.natAbs : Int)
      cases hneg : decide (bn < 0) with
      | true =>
        have hn := of_decide_eq_true hneg
        rw [show sgn bn * bd = 0 - bd by rw [sgn_neg hn]; omega, show (bn.natAbs : Int) = 0 - bn by omega] at hm ⊢
        refine enter2 Tryz.func161 Tryz.ntmps161 rfl rfl fun w0 F0 O => ?_
        repeat' (first | refine zS rfl ?_ | refine qA ?_ | refine qB rfl ?_ | refine qD ?_ | refine qE ?_ | refine qP rfl rfl rfl rfl rfl rfl b148 (hvb) ?_ | refine qP rfl rfl rfl rfl rfl rfl b160 (hm) ?_ | refine zT rfl ?_ | refine zU rfl ?_ | refine qM rfl rfl rfl ?_ | exact zL)
      | false =>
        have hn := of_decide_eq_false hneg
        rw [show sgn bn * bd = bd by rw [sgn_pos (by omega)]; omega, show (bn.natAbs : Int) = bn by omega] at hm ⊢
        refine enter2 Tryz.func161 Tryz.ntmps161 rfl rfl fun w0 F0 O => ?_
        repeat' (first | refine zS rfl ?_ | refine qA ?_ | refine qB rfl ?_ | refine qD ?_ | refine qE ?_ | refine qP rfl rfl rfl rfl rfl rfl b148 (hvb) ?_ | refine qP rfl rfl rfl rfl rfl rfl b160 (hm) ?_ | refine zU rfl ?_ | refine qM rfl rfl rfl ?_ | exact zL)
end Go.Proofs.YthieohigmpfknaaGreatDoor
