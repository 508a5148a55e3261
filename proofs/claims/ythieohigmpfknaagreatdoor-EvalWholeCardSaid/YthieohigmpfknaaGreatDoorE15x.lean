/- What integers give under the operators. Conditions: the integers are in range. -/
import Derived.Test.YthieohigmpfknaaGreatDoorGC
import Derived.Test.YthieohigmpfknaaGreatDoorEY
import Derived.Test.YthieohigmpfknaaGreatDoorE14x
set_option linter.unusedVariables false
set_option linter.unusedSimpArgs false
namespace Go.Proofs.YthieohigmpfknaaGreatDoor
open Go Go.Abs Go.Val Go.RowKit Go.ChangeShapes Go.WideShapes

theorem okV_int (n : Int) : Val.okV (vInt n) = inM n := by
  have hs : s0 ⟨#[]⟩ = true := by decide +kernel
  show okN 8 (.mk 2 n 0 ⟨#[]⟩ []) = inM n
  simp only [okN, okFlat, V.k, V.n, V.d, V.s, V.l, hs]
  cases inM n <;> rfl
theorem giv_nul2 : giv vNull = vNull := by unfold giv; rw [show Val.okV vNull = true by decide +kernel]; rfl
theorem giv_int {n : Int} (h : inM n = true) : giv (vInt n) = vInt n := by unfold giv; rw [okV_int, h]; rfl
theorem isNum_int {n : Int} (h : inM n = true) : isNum (vInt n) = true := by unfold isNum; rw [okV_int, h]; rfl
theorem numN_int {n : Int} (h : inM n = true) : numN (vInt n) = n := by unfold numN; rw [isNum_int h]; rfl
theorem numD_int {n : Int} (h : inM n = true) : numD (vInt n) = 1 := by unfold numD; rw [isNum_int h]; rfl
theorem fval_one (n : Int) : fval n 1 = inM n := by
  unfold fval
  rw [Int.gcd_one_right]
  cases inM n <;> rfl
theorem inM_natAbs (n : Int) : inM n = decide (n.natAbs ≤ 1000000000000000) := by
  rw [Bool.eq_iff_iff, inM_iff, decide_eq_true_eq]; omega
/-- An integer, or null where it is out of range. -/
def intF (n : Int) (b : Bool) : V := bif b then vInt n else vNull
theorem add_one {a b : Int} (ha : inM a = true) (hb : inM b = true) : ratF (addB a 1 b 1) (addN a 1 b 1) (addD a 1 b 1) = intF (a + b) (inM (a + b)) := by
  have t : adT a 1 b 1 = a + b := by show a * 1 + b * 1 = a + b; omega
  have g : adG 1 1 = 1 := rfl
  have hH : adH a 1 b 1 = 1 := by unfold adH; rw [g]; exact Int.gcd_one_right _
  have hD : adD a 1 b 1 = 1 := by unfold adD; rw [g, hH]; rfl
  have hK : adK a 1 b 1 = inM (a + b) := by
    unfold adK ovB
    rw [hH, hD, t, Nat.div_one, inM_natAbs]
    exact Bool.and_true _
  have hN : a + b ≠ 0 → adN a 1 b 1 = a + b := by
    intro h0
    unfold adN
    rw [hH, t, Nat.div_one]
    rcases Int.lt_trichotomy (a + b) 0 with h | h | h
    · rw [sgn_neg h]; omega
    · exact absurd h h0
    · rw [sgn_pos h]; omega
  have hB : addB a 1 b 1 = inM (a + b) := by
    unfold addB
    rw [fval_one, fval_one, ha, hb, t, hK]
    cases h0 : a + b == 0 with
    | true => have : a + b = 0 := by simpa using h0
              rw [this]; rfl
    | false => rfl
  unfold ratF addN addD intF
  rw [hB, t, hD]
  cases inM (a + b) with
  | false => rfl
  | true =>
    simp only [cond_true]
    cases h0 : a + b == 0 with
    | true => have : a + b = 0 := by simpa using h0
              rw [this]; rfl
    | false => rw [cond_false, cond_false, hN (by simpa using h0)]; rfl
theorem mul_one {a b : Int} (ha : inM a = true) (hb : inM b = true) : ratF (mulF a 1 b 1) (muN a 1 b 1) (muD a 1 b 1) = intF (a * b) (inM (a * b)) := by
  have hN : muN a 1 b 1 = a * b := by
    unfold muN
    rw [Int.gcd_one_right, Int.gcd_one_right]
    show Int.tdiv a 1 * Int.tdiv b 1 = a * b
    rw [Int.tdiv_one, Int.tdiv_one]
  have hD : muD a 1 b 1 = 1 := by
    unfold muD
    rw [Int.gcd_one_right, Int.gcd_one_right]
    rfl
  have hB : mulF a 1 b 1 = inM (a * b) := by
    unfold mulF
    rw [fval_one, fval_one, ha, hb, hN, hD, inM_natAbs (a * b)]
    exact Bool.and_true _
  unfold ratF intF
  rw [hB, hN, hD]
  rfl
theorem giv_intF (n : Int) : giv (intF n (inM n)) = intF n (inM n) := by
  unfold intF
  cases h : inM n with
  | true => exact giv_int h
  | false => exact giv_nul2
theorem inM_neg {b : Int} (h : inM b = true) : inM (0 - b) = true := by rw [inM_iff] at h ⊢; omega
theorem ar_add {a b : Int} (ha : inM a = true) (hb : inM b = true) : arF 7 (vInt a) (vInt b) = intF (a + b) (inM (a + b)) := by
  have : arF 7 (vInt a) (vInt b) = bif !(isNum (vInt a)) || !(isNum (vInt b)) then vNull else ratF (addB (numN (vInt a)) (numD (vInt a)) (numN (vInt b)) (numD (vInt b))) (addN (numN (vInt a)) (numD (vInt a)) (numN (vInt b)) (numD (vInt b))) (addD (numN (vInt a)) (numD (vInt a)) (numN (vInt b)) (numD (vInt b))) := rfl
  rw [this, isNum_int ha, isNum_int hb, numN_int ha, numN_int hb, numD_int ha, numD_int hb, add_one ha hb]
  rfl
theorem ar_sub {a b : Int} (ha : inM a = true) (hb : inM b = true) : arF 8 (vInt a) (vInt b) = intF (a - b) (inM (a - b)) := by
  have : arF 8 (vInt a) (vInt b) = bif !(isNum (vInt a)) || !(isNum (vInt b)) then vNull else ratF (addB (numN (vInt a)) (numD (vInt a)) (0 - numN (vInt b)) (numD (vInt b))) (addN (numN (vInt a)) (numD (vInt a)) (0 - numN (vInt b)) (numD (vInt b))) (addD (numN (vInt a)) (numD (vInt a)) (0 - numN (vInt b)) (numD (vInt b))) := rfl
  rw [this, isNum_int ha, isNum_int hb, numN_int ha, numN_int hb, numD_int ha, numD_int hb, add_one ha (inM_neg hb), show a + (0 - b) = a - b by omega]
  rfl
theorem ar_mul {a b : Int} (ha : inM a = true) (hb : inM b = true) : arF 9 (vInt a) (vInt b) = intF (a * b) (inM (a * b)) := by
  have : arF 9 (vInt a) (vInt b) = bif !(isNum (vInt a)) || !(isNum (vInt b)) then vNull else ratF (mulF (numN (vInt a)) (numD (vInt a)) (numN (vInt b)) (numD (vInt b))) (muN (numN (vInt a)) (numD (vInt a)) (numN (vInt b)) (numD (vInt b))) (muD (numN (vInt a)) (numD (vInt a)) (numN (vInt b)) (numD (vInt b))) := rfl
  rw [this, isNum_int ha, isNum_int hb, numN_int ha, numN_int hb, numD_int ha, numD_int hb, mul_one ha hb]
  rfl
theorem ar_mod {a b : Int} (ha : inM a = true) (hb : inM b = true) : giv (arF 11 (vInt a) (vInt b)) = intF (modN a b) (modB a b) := by
  have e : arF 11 (vInt a) (vInt b) = bif !(isNum (vInt a)) || !(isNum (vInt b)) then vNull else bif modB a b && true then vInt (modN a b) else vNull := rfl
  rw [e, isNum_int ha, isNum_int hb]
  show giv (bif modB a b && true then _ else _) = _
  rw [Bool.and_true]
  unfold intF
  cases h : modB a b with
  | false => exact giv_nul2
  | true =>
    refine giv_int ?_
    have e1 : modN a b = a.tmod b := by unfold modN; rw [h]; rfl
    have h1 := Nat.mod_le a.natAbs b.natAbs
    rw [inM_natAbs] at ha
    have h2 := of_decide_eq_true ha
    rw [e1, inM_natAbs, Int.natAbs_tmod]
    exact decide_eq_true (by omega)
theorem ar_div0 {a : Int} (ha : inM a = true) : arF 10 (vInt a) (vInt 0) = vNull := by
  have e : arF 10 (vInt a) (vInt 0) = bif !(isNum (vInt a)) || !(isNum (vInt 0)) then vNull else ratF (divB (numN (vInt a)) (numD (vInt a)) (numN (vInt 0)) (numD (vInt 0))) (divN (numN (vInt a)) (numD (vInt a)) (numN (vInt 0)) (numD (vInt 0))) (divD (numN (vInt a)) (numD (vInt a)) (numN (vInt 0)) (numD (vInt 0))) := rfl
  have h0 : inM 0 = true := by decide
  rw [e, isNum_int ha, isNum_int h0, numN_int ha, numN_int h0, numD_int ha, numD_int h0]
  have : divB a 1 0 1 = false := by
    unfold divB
    rw [fval_one, h0]
    rfl
  unfold ratF
  rw [this]
  rfl
theorem ar_divN {a b : Int} (ha : inM a = true) (hb : inM b = true) (h0 : b ≠ 0) : arF 10 (vInt a) (vInt b) = vRat (Int.tdiv a (Nat.gcd a.natAbs b.natAbs : Nat) * sgn b) ((b.natAbs / Nat.gcd a.natAbs b.natAbs : Nat) : Int) := by
  have e : arF 10 (vInt a) (vInt b) = bif !(isNum (vInt a)) || !(isNum (vInt b)) then vNull else ratF (divB (numN (vInt a)) (numD (vInt a)) (numN (vInt b)) (numD (vInt b))) (divN (numN (vInt a)) (numD (vInt a)) (numN (vInt b)) (numD (vInt b))) (divD (numN (vInt a)) (numD (vInt a)) (numN (vInt b)) (numD (vInt b))) := rfl
  rw [e, isNum_int ha, isNum_int hb, numN_int ha, numN_int hb, numD_int ha, numD_int hb]
  have hs : sgn b = 1 ∨ sgn b = -1 := by
    rcases Int.lt_trichotomy b 0 with h | h | h
    · exact .inr (sgn_neg h)
    · exact absurd h h0
    · exact .inl (sgn_pos h)
  have hb' := (inM_iff b).1 hb
  have ha' := (inM_iff a).1 ha
  have g1 : Int.gcd (sgn b * 1) (b.natAbs : Int) = 1 := by rcases hs with h | h <;> rw [h] <;> simp [Int.gcd]
  have g2 : Int.gcd (sgn b * 1) 1 = 1 := Int.gcd_one_right _
  have g3 : Int.gcd a (b.natAbs : Int) = Nat.gcd a.natAbs b.natAbs := rfl
  have i1 : inM (sgn b * 1) = true := by rw [inM_iff]; omega
  have f2 : fval (sgn b * 1) (b.natAbs : Int) = true := by
    unfold fval
    rw [g1, i1, show decide ((b.natAbs : Int) ≥ 1) = true by simp; omega, show decide ((b.natAbs : Int) ≤ 1000000000000000) = true by simp; omega]
    rfl
  have hN : muN a 1 (sgn b * 1) (b.natAbs : Int) = Int.tdiv a (Nat.gcd a.natAbs b.natAbs : Nat) * sgn b := by
    unfold muN
    rw [g2, g3]
    show _ * Int.tdiv (sgn b * 1) 1 = _
    rw [Int.tdiv_one, Int.mul_one]
  have hD : muD a 1 (sgn b * 1) (b.natAbs : Int) = ((b.natAbs / Nat.gcd a.natAbs b.natAbs : Nat) : Int) := by
    unfold muD
    rw [g2, g3]
    show 1 * Int.tdiv (b.natAbs : Int) _ = _
    rw [Int.one_mul]
    rfl
  have t1 := (tdiv_abs (a := a) (g := Nat.gcd a.natAbs b.natAbs) ha').2
  have t2 := Nat.div_le_self b.natAbs (Nat.gcd a.natAbs b.natAbs)
  have hM : mulF a 1 (sgn b * 1) (b.natAbs : Int) = true := by
    unfold mulF
    rw [fval_one, ha, f2, hN, hD]
    generalize Int.tdiv a (Nat.gcd a.natAbs b.natAbs : Nat) = x at *
    generalize b.natAbs / Nat.gcd a.natAbs b.natAbs = y at *
    have : (x * sgn b).natAbs = x.natAbs := by rcases hs with h | h <;> rw [h] <;> simp
    rw [this]
    simp
    omega
  have hB : divB a 1 b 1 = true := by
    unfold divB
    rw [fval_one, hb, hM, show (b == 0) = false by simpa using h0]
    rfl
  unfold ratF divN divD
  rw [hB, hN, hD]
  rfl
theorem ar_div {a b : Int} (ha : inM a = true) (hb : inM b = true) (h0 : b ≠ 0) :
    (a.tmod b = 0 → giv (arF 10 (vInt a) (vInt b)) = vInt (Int.tdiv a (b.natAbs : Int) * sgn b)) ∧ (a.tmod b ≠ 0 → (giv (arF 10 (vInt a) (vInt b))).k = 3) := by
  rw [ar_divN ha hb h0]
  have hb' := (inM_iff b).1 hb
  have ha' := (inM_iff a).1 ha
  have hs : sgn b = 1 ∨ sgn b = -1 := by
    rcases Int.lt_trichotomy b 0 with h | h | h
    · exact .inr (sgn_neg h)
    · exact absurd h h0
    · exact .inl (sgn_pos h)
  have hmod : (a.tmod b).natAbs = a.natAbs % b.natAbs := Int.natAbs_tmod a b
  have hb0 : 0 < b.natAbs := by omega
  have hg0 : 0 < Nat.gcd a.natAbs b.natAbs := Nat.gcd_pos_of_pos_right _ hb0
  obtain ⟨t0, t1⟩ := tdiv_abs (a := a) (g := Nat.gcd a.natAbs b.natAbs) ha'
  have hx : (Int.tdiv a (Nat.gcd a.natAbs b.natAbs : Nat) * sgn b).natAbs = a.natAbs / Nat.gcd a.natAbs b.natAbs := by rcases hs with h | h <;> rw [h] <;> simpa using t0
  constructor
  · intro h
    have hd : b.natAbs ∣ a.natAbs := Nat.dvd_of_mod_eq_zero (by omega)
    have hg : Nat.gcd a.natAbs b.natAbs = b.natAbs := Nat.gcd_eq_right hd
    rw [hg] at hx ⊢
    rw [Nat.div_self hb0]
    show giv (vInt _) = _
    refine giv_int ?_
    rw [inM_natAbs, hx]
    have := Nat.div_le_self a.natAbs b.natAbs
    exact decide_eq_true (by omega)
  · intro h
    have hnd : ¬ b.natAbs ∣ a.natAbs := fun hd => h (by have := Nat.mod_eq_zero_of_dvd hd; omega)
    have hgd : Nat.gcd a.natAbs b.natAbs ∣ b.natAbs := Nat.gcd_dvd_right ..
    have hcop := Nat.coprime_div_gcd_div_gcd hg0
    have hne : b.natAbs / Nat.gcd a.natAbs b.natAbs ≠ 1 := by
      intro h1
      have h2 := Nat.div_mul_cancel hgd
      rw [h1, Nat.one_mul] at h2
      exact hnd (h2 ▸ Nat.gcd_dvd_left ..)
    have hpos : 0 < b.natAbs / Nat.gcd a.natAbs b.natAbs := Nat.div_pos (Nat.le_of_dvd hb0 hgd) hg0
    have hle := Nat.div_le_self b.natAbs (Nat.gcd a.natAbs b.natAbs)
    have hle2 := Nat.div_le_self a.natAbs (Nat.gcd a.natAbs b.natAbs)
    generalize Int.tdiv a (Nat.gcd a.natAbs b.natAbs : Nat) * sgn b = x at *
    have hc : Nat.gcd x.natAbs (b.natAbs / Nat.gcd a.natAbs b.natAbs) = 1 := by rw [hx]; exact hcop
    generalize b.natAbs / Nat.gcd a.natAbs b.natAbs = y at *
    have hv : vRat x (y : Int) = .mk 3 x y ⟨#[]⟩ [] := by
      unfold vRat
      rw [show ((y : Int) == 1) = false by simp; omega]
      rfl
    rw [hv]
    have hok : Val.okV (.mk 3 x y ⟨#[]⟩ []) = true := by
      have hs0 : s0 ⟨#[]⟩ = true := by decide +kernel
      have hf : fval x y = true := by
        unfold fval
        rw [show Int.gcd x (y : Int) = 1 from hc, (inM_iff x).2 (by omega), show decide ((y : Int) ≥ 1) = true by simp; omega, show decide ((y : Int) ≤ 1000000000000000) = true by simp; omega]
        rfl
      show okN 8 (.mk 3 x y ⟨#[]⟩ []) = true
      have hy2 : (2 : Int) ≤ y := by omega
      simp [okN, okFlat, V.k, V.n, V.d, V.s, V.l, hs0, hf, hy2]
    unfold giv
    rw [hok]
    rfl
theorem cmp_int {a b : Int} (ha : inM a = true) (hb : inM b = true) : cmpQ a 1 b 1 = sgn (a - b) := by
  unfold cmpQ fzn fzd
  rw [fval_one, fval_one, ha, hb]
  simp
theorem less_int {a b : Int} (ha : inM a = true) (hb : inM b = true) : lessF (vInt a) (vInt b) = tt (decide (a < b)) := by
  unfold lessF
  rw [okV_int, okV_int, ha, hb, isNum_int ha, isNum_int hb, numN_int ha, numN_int hb, numD_int ha, numD_int hb, cmp_int ha hb]
  show tt _ = _
  refine congrArg tt (decide_eq_decide.2 ?_)
  unfold sgn; split <;> (try split) <;> omega
theorem eq_int {a b : Int} (ha : inM a = true) (hb : inM b = true) : eqF (vInt a) (vInt b) = tt (decide (a = b)) := by
  show stepE (vInt a) (vInt b) (eqL [] [] 2) = _
  unfold stepE
  rw [okV_int, okV_int, ha, hb, isNum_int ha, isNum_int hb, numN_int ha, numN_int hb, numD_int ha, numD_int hb, cmp_int ha hb]
  show tt _ = _
  refine congrArg tt ?_
  rw [Bool.eq_iff_iff, decide_eq_true_eq, beq_iff_eq]
  unfold sgn; split <;> (try split) <;> omega
end Go.Proofs.YthieohigmpfknaaGreatDoor
