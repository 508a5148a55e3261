/- EvalLogic: De Morgan's laws and double negation, within the row's bound; and the chapter's examples hold. The tied card of the second form. Conditions: none beyond the card's own. -/
import Derived.Test.YthieohigmpfknaaGreatDoorGC
import Derived.Test.YthieohigmpfknaaGreatDoorEY
import Derived.Test.YthieohigmpfknaaGreatDoorE14x
set_option linter.unusedVariables false
set_option linter.unusedSimpArgs false
namespace Go.Proofs.YthieohigmpfknaaGreatDoor
open Go Go.Abs Go.Val Go.RowKit Go.ChangeShapes Go.WideShapes
attribute [local irreducible] go SGo HasBody Ev ExtEv EvO EvS

def notE (x : Ex) : Ex := .mk 5 vNull ⟨#[]⟩ false [x]
theorem blank_null : blankF vNull = true := by decide +kernel
theorem isS_nil : isS ⟨#[]⟩ ⟨#[]⟩ = true := by decide +kernel
theorem kn0_op (k : Int) (a b : Ex) : kn0 (opE k a b) = 2 := by unfold kn0; rw [kidsE_len]; rfl
theorem kn0_not (a : Ex) : kn0 (notE a) = 1 := by unfold kn0; rw [kidsE_len]; rfl
theorem self_op (k : Int) (a b : Ex) (hk : 7 ≤ k ∧ k ≤ 20) (w : Bool) : selfF (opE k a b) w = 0 := by
  have h0 := kn0_op k a b
  have h1 : (opE k a b).op = k := rfl
  have h2 : (opE k a b).v = vNull := rfl
  have h3 : (opE k a b).nm = ⟨#[]⟩ := rfl
  have h4 : (opE k a b).ds = false := rfl
  have hn : ∀ n : Int, n < 7 ∨ 20 < n → (k == n) = false := fun n hn => beq_eq_false_iff_ne.2 (by omega)
  have e1 : decide (k < 1) = false := by simp; omega
  have e2 : decide (k > 24) = false := by simp; omega
  unfold selfF opdF spareF nlF
  rw [h0, h1, h2, h3, h4, blank_null, isS_nil, e1, e2, hn 1 (by omega), hn 2 (by omega), hn 3 (by omega), hn 4 (by omega), hn 5 (by omega), hn 6 (by omega), hn 21 (by omega), hn 22 (by omega), hn 23 (by omega), hn 24 (by omega)]
  cases namF k <;> rfl
theorem self_not (a : Ex) (w : Bool) : selfF (notE a) w = 0 := by
  have h0 := kn0_not a
  have h1 : (notE a).op = 5 := rfl
  have h2 : (notE a).v = vNull := rfl
  have h3 : (notE a).nm = ⟨#[]⟩ := rfl
  have h4 : (notE a).ds = false := rfl
  unfold selfF opdF spareF nlF
  rw [h0, h1, h2, h3, h4, blank_null, isS_nil]
  cases namF 5 <;> rfl
theorem vis_op {k : Int} {a b : Ex} (hk : 7 ≤ k ∧ k ≤ 20) (w : Bool) : visF (opE k a b) w = 0 ↔ visF a w = 0 ∧ visF b w = 0 := by
  have h1 := visF_ok (self_op k a b hk w)
  have hw : (w || (opE k a b).op == 24) = w := by
    have : ((opE k a b).op == 24) = false := by show (k == 24) = false; simp; omega
    rw [this, Bool.or_false]
  rw [h1, hw]
  show visM [a, b] w = 0 ↔ _
  rw [visM, visM, visM]
  constructor
  · intro h
    cases ha : visF a w != 0 with
    | true => rw [ha, cond_true] at h; rw [h] at ha; cases ha
    | false =>
      rw [ha, cond_false] at h
      cases hb : visF b w != 0 with
      | true => rw [hb, cond_true] at h; rw [h] at hb; cases hb
      | false => exact ⟨by simpa using ha, by simpa using hb⟩
  · rintro ⟨ha, hb⟩
    rw [ha, hb]
    rfl
theorem vis_not {a : Ex} (w : Bool) : visF (notE a) w = 0 ↔ visF a w = 0 := by
  have h1 := visF_ok (self_not a w)
  have hw : (w || (notE a).op == 24) = w := by
    have : ((notE a).op == 24) = false := rfl
    rw [this, Bool.or_false]
  rw [h1, hw]
  show visM [a] w = 0 ↔ _
  rw [visM, visM]
  constructor
  · intro h
    cases ha : visF a w != 0 with
    | true => rw [ha, cond_true] at h; rw [h] at ha; cases ha
    | false => simpa using ha
  · intro ha
    rw [ha]
    rfl
theorem nd_op (k : Int) (a b : Ex) : nd (opE k a b) = nd a + nd b + 1 := by
  rw [nd_eq]; show ndL [a, b] + 1 = _; rw [ndL, ndL, ndL]; omega
theorem nd_not (a : Ex) : nd (notE a) = nd a + 1 := by
  rw [nd_eq]; show ndL [a] + 1 = _; rw [ndL, ndL]
theorem dp_op (k : Int) (a b : Ex) : dp (opE k a b) = max (dp a) (dp b) + 1 := by
  rw [dp_eq]; show dpL [a, b] + 1 = _; rw [dpL, dpL, dpL]; omega
theorem dp_not (a : Ex) : dp (notE a) = dp a + 1 := by
  rw [dp_eq]; show dpL [a] + 1 = _; rw [dpL, dpL]; omega
theorem chk_inv {e : Ex} (h : chkF e = 0) : dp e ≤ 24 ∧ nd e ≤ 300 ∧ visF e false = 0 := by
  have hv := chk_vis h
  unfold chkF at h
  cases h1 : decide (dp e > 24) with
  | true => rw [h1] at h; simp at h
  | false =>
    rw [h1, cond_false] at h
    cases h2 : decide (nd e > 300) with
    | true => rw [h2] at h; simp at h
    | false =>
      have := of_decide_eq_false h1
      have := of_decide_eq_false h2
      exact ⟨by omega, by omega, hv⟩
theorem chk_mk {e : Ex} (h1 : dp e ≤ 24) (h2 : nd e ≤ 300) (h3 : visF e false = 0) : chkF e = 0 := by
  unfold chkF
  rw [show decide (dp e > 24) = false by simp; omega, show decide (nd e > 300) = false by simp; omega, h3]
  rfl
theorem ev_not (g : Gr) (env : List Bd) (a : Ex) : truthF (evF g env (notE a)) = 2 - truthF (evF g env a) := by
  have e : evF g env (notE a) = giv (vTruth (2 - kn (truthF (evF g env a)))) := by unfold notE; simp only [evF, evL]; rfl
  rw [e, truth_vT, kn_rng (truth_rng _)]
  refine kn_rng ?_
  rcases truth_rng (evF g env a) with h | h | h <;> rw [h] <;> simp
theorem ev_and (g : Gr) (env : List Bd) (a b : Ex) : truthF (evF g env (opE 18 a b)) = min (truthF (evF g env a)) (truthF (evF g env b)) := by
  have e : evF g env (opE 18 a b) = giv (vTruth (min (kn (truthF (evF g env a))) (kn (truthF (evF g env b))))) := by unfold opE; simp only [evF, evL]; rfl
  rw [e, truth_vT, kn_rng (truth_rng _), kn_rng (truth_rng _)]
  refine kn_rng ?_
  rcases truth_rng (evF g env a) with h | h | h <;> rcases truth_rng (evF g env b) with h' | h' | h' <;> rw [h, h'] <;> decide
theorem ev_or (g : Gr) (env : List Bd) (a b : Ex) : truthF (evF g env (opE 19 a b)) = max (truthF (evF g env a)) (truthF (evF g env b)) := by
  have e : evF g env (opE 19 a b) = giv (vTruth (max (kn (truthF (evF g env a))) (kn (truthF (evF g env b))))) := by unfold opE; simp only [evF, evL]; rfl
  rw [e, truth_vT, kn_rng (truth_rng _), kn_rng (truth_rng _)]
  refine kn_rng ?_
  rcases truth_rng (evF g env a) with h | h | h <;> rcases truth_rng (evF g env b) with h' | h' | h' <;> rw [h, h'] <;> decide
theorem cE_op {C : Nat} (hC : 1 ≤ C) {k : Int} {a b : Ex} (ha : cE C a) (hb : cE C b) : cE C (opE k a b) := by
  unfold opE; simp only [cE, cEL]; exact ⟨by rw [cost_null]; exact hC, ha, hb, trivial⟩
theorem cE_not {C : Nat} (hC : 1 ≤ C) {a : Ex} (ha : cE C a) : cE C (notE a) := by
  unfold notE; simp only [cE, cEL]; exact ⟨by rw [cost_null]; exact hC, ha, trivial⟩
set_option maxHeartbeats 4000000 in
theorem law_logic (g : Gr) (a b : Ex) (env : List Bd) (h : bulkL [encGr g, encE a, encE b, .sl (env.map encBd)] ≤ 1048576) : Ev E 5 [encGr g, encE a, encE b, .sl (env.map encBd)] (.d (.bool true)) := by
  have na := nd_bulk a
  have nb := nd_bulk b
  rw [bulkL, bulkL, bulkL, bulkL, bulkD] at h
  have f1 := few_ev g a env (by omega)
  have f2 := few_ev g b env (by omega)
  have s1 := size_evE a (by omega)
  have s2 := size_evE b (by omega)
  have l1 := szE_le a
  have l2 := szE_le b
  cases c1 : fewF g a env with
  | false =>
    rw [c1] at f1
    refine enter4 Tryz.func5 Tryz.ntmps5 rfl rfl fun w0 F0 O => ?_
    repeat' (first | refine zS rfl ?_ | refine qA ?_ | refine qB rfl ?_ | refine qC (by kernel_rfl) ?_ | refine qD ?_ | refine qE ?_ | refine qF ?_ | refine qG ?_ | refine qH rfl ?_ | refine qP rfl rfl rfl rfl rfl rfl b9 (f1) ?_ | refine qP rfl rfl rfl rfl rfl rfl b10 (alive_ev) ?_ | refine zT rfl ?_ | refine zU rfl ?_ | refine qL rfl rfl ?_ | refine qM rfl rfl rfl ?_ | refine qO rfl rfl rfl ?_ | refine zX rfl rfl rfl rfl ?_ | refine zW rfl rfl rfl rfl ?_ | (refine qY rfl rfl rfl rfl ?_ ?_ <;> intro _) | exact zD | exact zL)
  | true =>
  cases c2 : fewF g b env with
  | false =>
    rw [c1] at f1
    rw [c2] at f2
    refine enter4 Tryz.func5 Tryz.ntmps5 rfl rfl fun w0 F0 O => ?_
    repeat' (first | refine zS rfl ?_ | refine qA ?_ | refine qB rfl ?_ | refine qC (by kernel_rfl) ?_ | refine qD ?_ | refine qE ?_ | refine qF ?_ | refine qG ?_ | refine qH rfl ?_ | refine qP (d := 16) rfl rfl rfl rfl rfl rfl b9 (f1) ?_ | refine qP (d := 22) rfl rfl rfl rfl rfl rfl b9 (f2) ?_ | refine qP rfl rfl rfl rfl rfl rfl b10 (alive_ev) ?_ | refine zT rfl ?_ | refine zU rfl ?_ | refine qL rfl rfl ?_ | refine qM rfl rfl rfl ?_ | refine qO rfl rfl rfl ?_ | refine zX rfl rfl rfl rfl ?_ | refine zW rfl rfl rfl rfl ?_ | (refine qY rfl rfl rfl rfl ?_ ?_ <;> intro _) | exact zD | exact zL)
  | true =>
  rw [c1] at f1
  rw [c2] at f2
  cases c3 : decide (szE a + szE b > 200) with
  | true =>
    refine enter4 Tryz.func5 Tryz.ntmps5 rfl rfl fun w0 F0 O => ?_
    repeat' (first | refine zS rfl ?_ | refine qA ?_ | refine qB rfl ?_ | refine qC (by kernel_rfl) ?_ | refine qD ?_ | refine qE ?_ | refine qF ?_ | refine qG ?_ | refine qH rfl ?_ | refine qP (d := 16) rfl rfl rfl rfl rfl rfl b9 (f1) ?_ | refine qP (d := 22) rfl rfl rfl rfl rfl rfl b9 (f2) ?_ | refine qP (d := 27) rfl rfl rfl rfl rfl rfl b19 (s1) ?_ | refine qP (d := 29) rfl rfl rfl rfl rfl rfl b19 (s2) ?_ | refine qP rfl rfl rfl rfl rfl rfl b10 (alive_ev) ?_ | refine zT rfl ?_ | refine zU rfl ?_ | refine qL rfl rfl ?_ | refine qM rfl rfl rfl ?_ | refine qO rfl rfl rfl ?_ | refine zX rfl rfl rfl rfl ?_ | refine zW rfl rfl rfl rfl ?_ | (refine qY rfl rfl rfl rfl ?_ ?_ <;> intro _) | exact zD | exact zL)
  | false =>
  have ia := few_inv c1
  have ib := few_inv c2
  have da := dp_nd a
  have db := dp_nd b
  obtain ⟨e1, e2⟩ := env_bnd (env := env) (by omega)
  have ca := cE_bulk a 1048576 (by omega)
  have cb := cE_bulk b 1048576 (by omega)
  have ok : ∀ e : Ex, cE 1048576 e → nd e ≤ 1000 → EvOK g env e := fun e hc hn => evOK_of (by omega) (by omega) e2 hc hn
  have k1 := rcheck_ev (notE (opE 18 a b)) (by rw [dp_not, dp_op]; omega) (by rw [nd_not, nd_op]; omega)
  have k2 := rcheck_ev (opE 19 (notE a) (notE b)) (by rw [dp_op, dp_not, dp_not]; omega) (by rw [nd_op, nd_not, nd_not]; omega)
  cases z1 : chkF (notE (opE 18 a b)) != 0 with
  | true =>
    refine enter4 Tryz.func5 Tryz.ntmps5 rfl rfl fun w0 F0 O => ?_
    repeat' (first | refine zS rfl ?_ | refine qA ?_ | refine qB rfl ?_ | refine qC (by kernel_rfl) ?_ | refine qD ?_ | refine qE ?_ | refine qF ?_ | refine qG ?_ | refine qH rfl ?_ | refine qP (d := 16) rfl rfl rfl rfl rfl rfl b9 (f1) ?_ | refine qP (d := 22) rfl rfl rfl rfl rfl rfl b9 (f2) ?_ | refine qP (d := 27) rfl rfl rfl rfl rfl rfl b19 (s1) ?_ | refine qP (d := 29) rfl rfl rfl rfl rfl rfl b19 (s2) ?_ | refine qP rfl rfl rfl rfl rfl rfl b10 (alive_ev) ?_ | refine qP (d := 36) rfl rfl rfl rfl rfl rfl b20 (op_ev 18 a b) ?_ | refine qP (d := 45) rfl rfl rfl rfl rfl rfl b20 (op_ev 19 (notE a) (notE b)) ?_ | refine qP (d := 47) rfl rfl rfl rfl rfl rfl b17 (k1) ?_ | refine qP (d := 51) rfl rfl rfl rfl rfl rfl b17 (k2) ?_ | refine zT rfl ?_ | refine zU rfl ?_ | refine qL rfl rfl ?_ | refine qM rfl rfl rfl ?_ | refine qO rfl rfl rfl ?_ | refine zX rfl rfl rfl rfl ?_ | refine zW rfl rfl rfl rfl ?_ | (refine qY rfl rfl rfl rfl ?_ ?_ <;> intro _) | exact zD | exact zL)
  | false =>
  cases z2 : chkF (opE 19 (notE a) (notE b)) != 0 with
  | true =>
    refine enter4 Tryz.func5 Tryz.ntmps5 rfl rfl fun w0 F0 O => ?_
    repeat' (first | refine zS rfl ?_ | refine qA ?_ | refine qB rfl ?_ | refine qC (by kernel_rfl) ?_ | refine qD ?_ | refine qE ?_ | refine qF ?_ | refine qG ?_ | refine qH rfl ?_ | refine qP (d := 16) rfl rfl rfl rfl rfl rfl b9 (f1) ?_ | refine qP (d := 22) rfl rfl rfl rfl rfl rfl b9 (f2) ?_ | refine qP (d := 27) rfl rfl rfl rfl rfl rfl b19 (s1) ?_ | refine qP (d := 29) rfl rfl rfl rfl rfl rfl b19 (s2) ?_ | refine qP rfl rfl rfl rfl rfl rfl b10 (alive_ev) ?_ | refine qP (d := 36) rfl rfl rfl rfl rfl rfl b20 (op_ev 18 a b) ?_ | refine qP (d := 45) rfl rfl rfl rfl rfl rfl b20 (op_ev 19 (notE a) (notE b)) ?_ | refine qP (d := 47) rfl rfl rfl rfl rfl rfl b17 (k1) ?_ | refine qP (d := 51) rfl rfl rfl rfl rfl rfl b17 (k2) ?_ | refine zT rfl ?_ | refine zU rfl ?_ | refine qL rfl rfl ?_ | refine qM rfl rfl rfl ?_ | refine qO rfl rfl rfl ?_ | refine zX rfl rfl rfl rfl ?_ | refine zW rfl rfl rfl rfl ?_ | (refine qY rfl rfl rfl rfl ?_ ?_ <;> intro _) | exact zD | exact zL)
  | false =>
  have z1' : chkF (notE (opE 18 a b)) = 0 := by simpa using z1
  have z2' : chkF (opE 19 (notE a) (notE b)) = 0 := by simpa using z2
  obtain ⟨i1, i2, i3⟩ := chk_inv z1'
  rw [dp_not, dp_op] at i1
  rw [nd_not, nd_op] at i2
  rw [vis_not, vis_op (by omega)] at i3
  have za : chkF a = 0 := chk_mk (by omega) (by omega) i3.1
  have zb : chkF b = 0 := chk_mk (by omega) (by omega) i3.2
  have zand : chkF (opE 18 a b) = 0 := chk_mk (by rw [dp_op]; omega) (by rw [nd_op]; omega) ((vis_op (by omega) false).2 i3)
  have zor : chkF (opE 19 b a) = 0 := chk_mk (by rw [dp_op]; omega) (by rw [nd_op]; omega) ((vis_op (by omega) false).2 ⟨i3.2, i3.1⟩)
  have znot : chkF (notE a) = 0 := chk_mk (by rw [dp_not]; omega) (by rw [nd_not]; omega) ((vis_not false).2 i3.1)
  have c1h : 1 ≤ 1048576 := by omega
  have t1 := Test_ev g env a (ok a ca (by omega))
  have t2 := Test_ev g env b (ok b cb (by omega))
  have t3 := Test_ev g env (notE (opE 18 a b)) (ok _ (cE_not c1h (cE_op c1h ca cb)) (by rw [nd_not, nd_op]; omega))
  have t4 := Test_ev g env (opE 19 (notE a) (notE b)) (ok _ (cE_op c1h (cE_not c1h ca) (cE_not c1h cb)) (by rw [nd_op, nd_not, nd_not]; omega))
  have t5 := Test_ev g env (opE 18 a b) (ok _ (cE_op c1h ca cb) (by rw [nd_op]; omega))
  have t6 := Test_ev g env (opE 19 b a) (ok _ (cE_op c1h cb ca) (by rw [nd_op]; omega))
  have t7 := Test_ev g env (notE a) (ok _ (cE_not c1h ca) (by rw [nd_not]; omega))
  rw [val_ev za] at t1
  rw [val_ev zb] at t2
  rw [val_ev z1', ev_not, ev_and] at t3
  rw [val_ev z2', ev_or, ev_not, ev_not] at t4
  rw [val_ev zand, ev_and] at t5
  rw [val_ev zor, ev_or] at t6
  rw [val_ev znot, ev_not] at t7
  have rx := truth_rng (evF g env a)
  have ry := truth_rng (evF g env b)
  generalize truthF (evF g env a) = x at *
  generalize truthF (evF g env b) = y at *
  have d1 : ((2 - min x y) != (max (2 - x) (2 - y))) = false := by rcases rx with rfl | rfl | rfl <;> rcases ry with rfl | rfl | rfl <;> decide
  have d2 : (min x y != min x y) = false := by simp
  have d3 : (max y x != max x y) = false := by rw [Int.max_comm]; simp
  have d4 : ((2 - x) == (2 - x)) = true := beq_self_eq_true _
  refine enter4 Tryz.func5 Tryz.ntmps5 rfl rfl fun w0 F0 O => ?_
  repeat' (first | refine zS rfl ?_ | refine qA ?_ | refine qB rfl ?_ | refine qC (by kernel_rfl) ?_ | refine qD ?_ | refine qE ?_ | refine qF ?_ | refine qG ?_ | refine qH rfl ?_ | refine qP (d := 16) rfl rfl rfl rfl rfl rfl b9 (f1) ?_ | refine qP (d := 22) rfl rfl rfl rfl rfl rfl b9 (f2) ?_ | refine qP (d := 27) rfl rfl rfl rfl rfl rfl b19 (s1) ?_ | refine qP (d := 29) rfl rfl rfl rfl rfl rfl b19 (s2) ?_ | refine qP rfl rfl rfl rfl rfl rfl b10 (alive_ev) ?_ | refine qP (d := 36) rfl rfl rfl rfl rfl rfl b20 (op_ev 18 a b) ?_ | refine qP (d := 45) rfl rfl rfl rfl rfl rfl b20 (op_ev 19 (notE a) (notE b)) ?_ | refine qP (d := 47) rfl rfl rfl rfl rfl rfl b17 (k1) ?_ | refine qP (d := 51) rfl rfl rfl rfl rfl rfl b17 (k2) ?_ | refine qP (d := 58) rfl rfl rfl rfl rfl rfl b14 (t1) ?_ | refine qP (d := 62) rfl rfl rfl rfl rfl rfl b14 (t2) ?_ | refine qP (d := 66) rfl rfl rfl rfl rfl rfl b14 (t3) ?_ | refine qP (d := 70) rfl rfl rfl rfl rfl rfl b14 (t4) ?_ | refine qP (d := 76) rfl rfl rfl rfl rfl rfl b20 (op_ev 18 a b) ?_ | refine qP (d := 78) rfl rfl rfl rfl rfl rfl b14 (t5) ?_ | refine qP (d := 88) rfl rfl rfl rfl rfl rfl b20 (op_ev 19 b a) ?_ | refine qP (d := 90) rfl rfl rfl rfl rfl rfl b14 (t6) ?_ | refine qP (d := 101) rfl rfl rfl rfl rfl rfl b14 (t7) ?_ | refine zT rfl ?_ | refine zU rfl ?_ | refine qL rfl rfl ?_ | refine qM rfl rfl rfl ?_ | refine qO rfl rfl rfl ?_ | refine zX rfl rfl rfl rfl ?_ | refine zW rfl rfl rfl rfl ?_ | (refine qY rfl rfl rfl rfl ?_ ?_ <;> intro _) | exact zD | exact zL)
set_option maxRecDepth 100000 in
theorem logic_lifted (os : Os) (started : os.Started) (H : Type) (enc : TypeId × Value → H) (F : Stop.Interp) :
    ReturnsInHanded {} Tryz.checked os 5 .any ((Rows.OpenSpec.upto Rows.evalLogicSpec).preRow enc Tryz.prog Tryz.f5 [] false seatLaid)
      (((Rows.OpenSpec.upto Rows.evalLogicSpec).at F).post enc Tryz.prog Tryz.f5 false true false false) := by
  refine lift_cond (C := Tryz.checked) (s0 := Rows.evalLogicSpec) (kf := Rows.uptoSmall) (laid := seatLaid) (tb := 4) F tys2 rfl rfl rfl seat_own started (by kernel_rfl) Tryz.func5
    (witness_cond (kf := Rows.uptoSmall) rfl (wit os) #[.agg #[.slice none 0 0, .slice none 0 0, .int .i64 0, .int .i64 0], .agg #[.int .i64 0, .int .i64 0, .int .i64 0, .int .i64 0, .string ⟨#[]⟩, .slice none 0 0, .string ⟨#[]⟩, .bool false, .slice none 0 0], .agg #[.int .i64 0, .int .i64 0, .int .i64 0, .int .i64 0, .string ⟨#[]⟩, .slice none 0 0, .string ⟨#[]⟩, .bool false, .slice none 0 0], .slice none 0 0] 8 rfl (wit_shaped os _) (by kernel_rfl) (by kernel_rfl) (by kernel_rfl) (wit_met os _))
    rfl rfl Tryz.underlying4 (fun ds hl => ?_) seat_out (by kernel_rfl) tys2_ok (by kernel_rfl) (fun W args xs ds hL hS hx hsz hr hty hdl hk => ?_)
  · match ds, hl with
    | [_, _, _, _], _ => rfl
  · have hsz' : args.size = 4 := hsz
    have hbk := says_all ds xs (by rw [hdl, hx, hsz]) fun i d x hd hxi => (hty i _ x (by
      rw [Array.getElem?_toList]
      exact Array.getElem?_eq_getElem (by rw [← hsz, ← hx]; exact (List.getElem?_eq_some_iff.1 hxi).1)) hxi).2 d hd
    have hsm : Rows.uptoBulkAll ds ≤ 1048576 := of_decide_eq_true hk
    rw [hsz'] at hx
    match xs, hx with
    | [x0, x1, x2, x3], _ =>
      obtain ⟨a0, rfl⟩ := ty_graph (hty 0 _ x0 rfl rfl).1
      obtain ⟨a1, rfl⟩ := ty_expr (hty 1 _ x1 rfl rfl).1
      obtain ⟨a2, rfl⟩ := ty_expr (hty 2 _ x2 rfl rfl).1
      obtain ⟨a3, rfl⟩ := ty_env (hty 3 _ x3 rfl rfl).1
      exact calls_of_ev (gi_of hL hS) (law_logic a0 a1 a2 a3 (Nat.le_trans hbk hsm)) (by simp [hsz']) hr
theorem logic_holds : Rows.EvalLogicUptoSaid :=
  OpenClaim.holds_of_cond 5 Tryz.f5 rfl rfl rfl rfl rfl rfl rfl ⟨rfl, rfl, rfl, rfl, rfl⟩ rfl rfl rfl rfl rfl (by kernel_rfl) Tryz.func5 (by kernel_rfl)
    (of_decide_eq_true (by kernel_rfl)) (by unfold Func.isWrapper; first | (rw [if_pos (by decide +kernel)]; kernel_rfl) | (rw [if_neg (by decide +kernel)]; exact ⟨rfl, rfl⟩))
    (fun os started H enc _ F => by rw [OpenClaim.pre_eq_preRow]; exact logic_lifted os started H enc F)
theorem logic_card : Rows.EvalLogicUptoCardSaid := by
  unfold Rows.EvalLogicUptoCardSaid Rows.evalLogicUptoCard
  exact Claim7.holds_tied_plain_at .later [] _ true _ false
    logic_holds (fun _ h => by cases h) (by kernel_rfl) (fun _ h => by cases h) evalLogicUpto_row_tie rfl ⟨rfl, rfl⟩ (by kernel_rfl) rfl
    (fun f fn hf hfn => by
      obtain rfl : f = 5 := Option.some.inj ((show Tryz.prog.funcNamed Rows.evalLogicUptoRow.func = some 5 by kernel_rfl).symm.trans hf) |>.symm
      obtain rfl : fn = Tryz.f5 := (Option.some.inj (Tryz.func5.symm.trans hfn)).symm
      exact ⟨by kernel_rfl, fun j t ht => by
        have hall : (Tryz.f5.params.toList.all fun u => !Tryz.prog.wantsStandIn u) = true := by kernel_rfl
        exact (show Tryz.prog.wantsStandIn t = false by simpa using List.all_eq_true.1 hall t (by simpa using Array.mem_of_getElem? ht))⟩)
    (by kernel_rfl)
#print axioms logic_card
end Go.Proofs.YthieohigmpfknaaGreatDoor
