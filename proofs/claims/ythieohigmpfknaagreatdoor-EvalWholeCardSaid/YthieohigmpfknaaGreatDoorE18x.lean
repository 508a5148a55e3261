/- EvalWhole: arithmetic on integers is exact, and comparisons are those of the integers; and the chapter's examples hold. The tied card. Conditions: none beyond the card's own. -/
import Derived.Test.YthieohigmpfknaaGreatDoorGC
import Derived.Test.YthieohigmpfknaaGreatDoorEY
import Derived.Test.YthieohigmpfknaaGreatDoorE15x
set_option linter.unusedVariables false
set_option linter.unusedSimpArgs false
namespace Go.Proofs.YthieohigmpfknaaGreatDoor
open Go Go.Abs Go.Val Go.RowKit Go.ChangeShapes Go.WideShapes
attribute [local irreducible] go SGo HasBody Ev ExtEv EvO EvS binOp RGo

def vA : Ex := .mk 2 vNull ⟨#[97]⟩ false []
def vB : Ex := .mk 2 vNull ⟨#[98]⟩ false []
def ev2 (a b : Int) : List Bd := [⟨⟨#[97]⟩, vInt a⟩, ⟨⟨#[98]⟩, vInt b⟩]
theorem ev_arg {a b : Int} (ha : inM a = true) (hb : inM b = true) : evL g0 (ev2 a b) [vA, vB] = [vInt a, vInt b] := by
  have h1 : evF g0 (ev2 a b) vA = giv (vInt a) := by unfold vA; simp only [evF]; kernel_rfl
  have h2 : evF g0 (ev2 a b) vB = giv (vInt b) := by unfold vB; simp only [evF]; kernel_rfl
  simp only [evL]
  rw [h1, h2, giv_int ha, giv_int hb]
theorem ev_bin {a b k : Int} (ha : inM a = true) (hb : inM b = true) (hc : chkF (opE k vA vB) = 0) : valF g0 (ev2 a b) (opE k vA vB) = giv (apF g0 (ev2 a b) k vNull ⟨#[]⟩ [vInt a, vInt b]) := by
  rw [val_ev hc]
  unfold opE
  simp only [evF]
  rw [ev_arg ha hb]
theorem okW (a b k : Int) : EvOK g0 (ev2 a b) (opE k vA vB) := by
  refine evOK_of (by decide +kernel) (by show 2 ≤ 2000000; omega) (fun x hx => ?_) ?_ (by show nd (opE 0 vA vB) ≤ 1000; decide +kernel)
  · have hc : ∀ n : Int, cost (vInt n) ≤ 1048576 := fun n => by rw [cost_eq]; show 1 + 0 / 50 + costL [] ≤ _; simp [costL]
    rcases List.mem_cons.1 hx with rfl | hx
    · exact hc a
    · rcases List.mem_cons.1 hx with rfl | hx
      · exact hc b
      · simp at hx
  · have h : cE 1048576 vA ∧ cE 1048576 vB := by
      unfold vA vB
      simp only [cE, cEL]
      rw [cost_null]
      decide
    unfold opE
    simp only [cE, cEL]
    exact ⟨by rw [cost_null]; omega, h.1, h.2, trivial⟩
def smeF (v : V) (n : Int) (ok : Bool) : Bool := bif !ok then v.k == 0 else v.k == 2 && v.n == n
theorem same_ev (v : V) (n : Int) (ok : Bool) : Ev E 28 [enc v, .int n, .bool ok] (.d (.bool (smeF v n ok))) := by
  unfold smeF
  cases ok with
  | false =>
    refine enter3 Tryz.func28 Tryz.ntmps28 rfl rfl fun w0 F0 O => ?_
    repeat' (first | refine zS rfl ?_ | refine qA ?_ | refine qB rfl ?_ | refine qC (by kernel_rfl) ?_ | refine qD ?_ | refine qE ?_ | refine qF ?_ | refine qG ?_ | refine qH rfl ?_ | refine zT rfl ?_ | refine zU rfl ?_ | refine qL rfl rfl ?_ | refine qM rfl rfl rfl ?_ | refine qO rfl rfl rfl ?_ | refine zX rfl rfl rfl rfl ?_ | refine zW rfl rfl rfl rfl ?_ | (refine qY rfl rfl rfl rfl ?_ ?_ <;> intro _) | exact zD | exact zL)
  | true =>
    cases h1 : v.k == 2 with
    | false =>
      refine enter3 Tryz.func28 Tryz.ntmps28 rfl rfl fun w0 F0 O => ?_
      repeat' (first | refine zS rfl ?_ | refine qA ?_ | refine qB rfl ?_ | refine qC (by kernel_rfl) ?_ | refine qD ?_ | refine qE ?_ | refine qF ?_ | refine qG ?_ | refine qH rfl ?_ | refine zT rfl ?_ | refine zU rfl ?_ | refine qL rfl rfl ?_ | refine qM rfl rfl rfl ?_ | refine qO rfl rfl rfl ?_ | refine zX rfl rfl rfl rfl ?_ | refine zW rfl rfl rfl rfl ?_ | (refine qY rfl rfl rfl rfl ?_ ?_ <;> intro _) | exact zD | exact zL)
    | true =>
      refine enter3 Tryz.func28 Tryz.ntmps28 rfl rfl fun w0 F0 O => ?_
      repeat' (first | refine zS rfl ?_ | refine qA ?_ | refine qB rfl ?_ | refine qC (by kernel_rfl) ?_ | refine qD ?_ | refine qE ?_ | refine qF ?_ | refine qG ?_ | refine qH rfl ?_ | refine zT rfl ?_ | refine zU rfl ?_ | refine qL rfl rfl ?_ | refine qM rfl rfl rfl ?_ | refine qO rfl rfl rfl ?_ | refine zX rfl rfl rfl rfl ?_ | refine zW rfl rfl rfl rfl ?_ | (refine qY rfl rfl rfl rfl ?_ ?_ <;> intro _) | exact zD | exact zL)
def sgF (n : Int) : Int := bif decide (n < 0) then -1 else 1
theorem sign_ev (n : Int) : Ev E 29 [.int n] (.d (.int (sgF n))) := by
  unfold sgF
  cases h : decide (n < 0) with
  | true =>
    refine enter1 Tryz.func29 Tryz.ntmps29 rfl rfl fun w0 F0 O => ?_
    repeat' (first | refine zS rfl ?_ | refine qA ?_ | refine qB rfl ?_ | refine qC (by kernel_rfl) ?_ | refine qD ?_ | refine qE ?_ | refine qF ?_ | refine qG ?_ | refine qH rfl ?_ | refine zT rfl ?_ | refine zU rfl ?_ | refine qL rfl rfl ?_ | refine qM rfl rfl rfl ?_ | refine qO rfl rfl rfl ?_ | refine zX rfl rfl rfl rfl ?_ | refine zW rfl rfl rfl rfl ?_ | (refine qY rfl rfl rfl rfl ?_ ?_ <;> intro _) | exact zD | exact zL)
  | false =>
    refine enter1 Tryz.func29 Tryz.ntmps29 rfl rfl fun w0 F0 O => ?_
    repeat' (first | refine zS rfl ?_ | refine qA ?_ | refine qB rfl ?_ | refine qC (by kernel_rfl) ?_ | refine qD ?_ | refine qE ?_ | refine qF ?_ | refine qG ?_ | refine qH rfl ?_ | refine zT rfl ?_ | refine zU rfl ?_ | refine qL rfl rfl ?_ | refine qM rfl rfl rfl ?_ | refine qO rfl rfl rfl ?_ | refine zX rfl rfl rfl rfl ?_ | refine zW rfl rfl rfl rfl ?_ | (refine qY rfl rfl rfl rfl ?_ ?_ <;> intro _) | exact zD | exact zL)
theorem same_int (n : Int) (b : Bool) : smeF (intF n b) (bif b then n else 0) b = true := by
  cases b with
  | false => rfl
  | true => unfold smeF intF vInt; simp [V.k, V.n]
theorem kn_tt (b : Bool) : kn (tt b) = tt b := by cases b <;> rfl
theorem kn_atm (b c : Bool) : kn (atmF (tt b) (tt c)) = tt (b || c) := by cases b <;> cases c <;> rfl
theorem tt_2 (b : Bool) : (tt b == 2) = b := by cases b <;> rfl
theorem tt_0 (b : Bool) : (tt b == 0) = !b := by cases b <;> rfl
theorem beq_self (b : Bool) : (b == b) = true := by cases b <;> rfl
theorem bRMod : HasBody E 27 := by unfold HasBody; intro args w; dsimp only [E]; exact Tryz.call27 args w
set_option maxHeartbeats 16000000 in
set_option maxRecDepth 20000 in
theorem law_whole (a b : Int) : Ev E 8 [.int a, .int b] (.d (.bool true)) := by
  have i1 := rin_ev a
  have i2 := rin_ev b
  cases ha : inM a with
  | false =>
    rw [ha] at i1
    refine enter2 Tryz.func8 Tryz.ntmps8 rfl rfl fun w0 F0 O => ?_
    repeat' (first | refine zS rfl ?_ | refine qA ?_ | refine qB rfl ?_ | refine qC (by kernel_rfl) ?_ | refine qD ?_ | refine qE ?_ | refine qF ?_ | refine qG ?_ | refine qH rfl ?_ | refine qP (d := 19) rfl rfl rfl rfl rfl rfl b23 (i1) ?_ | refine qP rfl rfl rfl rfl rfl rfl b10 (alive_ev) ?_ | refine zT rfl ?_ | refine zU rfl ?_ | refine qL rfl rfl ?_ | refine qM rfl rfl rfl ?_ | refine qO rfl rfl rfl ?_ | refine zX rfl rfl rfl rfl ?_ | refine zW rfl rfl rfl rfl ?_ | (refine qY rfl rfl rfl rfl ?_ ?_ <;> intro _) | exact zD | exact zL)
  | true =>
  rw [ha] at i1
  cases hb : inM b with
  | false =>
    rw [hb] at i2
    refine enter2 Tryz.func8 Tryz.ntmps8 rfl rfl fun w0 F0 O => ?_
    repeat' (first | refine zS rfl ?_ | refine qA ?_ | refine qB rfl ?_ | refine qC (by kernel_rfl) ?_ | refine qD ?_ | refine qE ?_ | refine qF ?_ | refine qG ?_ | refine qH rfl ?_ | refine qP (d := 19) rfl rfl rfl rfl rfl rfl b23 (i1) ?_ | refine qP (d := 23) rfl rfl rfl rfl rfl rfl b23 (i2) ?_ | refine qP rfl rfl rfl rfl rfl rfl b10 (alive_ev) ?_ | refine zT rfl ?_ | refine zU rfl ?_ | refine qL rfl rfl ?_ | refine qM rfl rfl rfl ?_ | refine qO rfl rfl rfl ?_ | refine zX rfl rfl rfl rfl ?_ | refine zW rfl rfl rfl rfl ?_ | (refine qY rfl rfl rfl rfl ?_ ?_ <;> intro _) | exact zD | exact zL)
  | true =>
  rw [hb] at i2
  have r1 := raddI_ev a b
  have r2 := rsubI_ev a b
  have r3 := rmulI_ev a b
  have r4 := rmodI_ev a b
  rw [show raddN a b = bif inM (a + b) then a + b else 0 by unfold raddN raddB; rw [ha, hb]; rfl, show raddB a b = inM (a + b) by unfold raddB; rw [ha, hb]; rfl] at r1
  rw [show rsubN a b = bif inM (a - b) then a - b else 0 by unfold rsubN rsubB; rw [ha, hb]; rfl, show rsubB a b = inM (a - b) by unfold rsubB; rw [ha, hb]; rfl] at r2
  have hmB : mulB a b = inM (a * b) := by unfold mulB; rw [ha, hb, inM_natAbs (a * b), Int.natAbs_mul]; rfl
  rw [show mulN a b = bif inM (a * b) then a * b else 0 by unfold mulN; rw [hmB], hmB] at r3
  have v1 := Eval_ev g0 (ev2 a b) (opE 7 vA vB) (okW a b 7)
  have v2 := Eval_ev g0 (ev2 a b) (opE 8 vA vB) (okW a b 8)
  have v3 := Eval_ev g0 (ev2 a b) (opE 9 vA vB) (okW a b 9)
  have v4 := Eval_ev g0 (ev2 a b) (opE 11 vA vB) (okW a b 11)
  have v5 := Eval_ev g0 (ev2 a b) (opE 10 vA vB) (okW a b 10)
  rw [ev_bin ha hb (by decide +kernel), show apF g0 (ev2 a b) 7 vNull ⟨#[]⟩ [vInt a, vInt b] = arF 7 (vInt a) (vInt b) from rfl, ar_add ha hb, giv_intF] at v1
  rw [ev_bin ha hb (by decide +kernel), show apF g0 (ev2 a b) 8 vNull ⟨#[]⟩ [vInt a, vInt b] = arF 8 (vInt a) (vInt b) from rfl, ar_sub ha hb, giv_intF] at v2
  rw [ev_bin ha hb (by decide +kernel), show apF g0 (ev2 a b) 9 vNull ⟨#[]⟩ [vInt a, vInt b] = arF 9 (vInt a) (vInt b) from rfl, ar_mul ha hb, giv_intF] at v3
  rw [ev_bin ha hb (by decide +kernel), show apF g0 (ev2 a b) 11 vNull ⟨#[]⟩ [vInt a, vInt b] = arF 11 (vInt a) (vInt b) from rfl, ar_mod ha hb] at v4
  rw [ev_bin ha hb (by decide +kernel), show apF g0 (ev2 a b) 10 vNull ⟨#[]⟩ [vInt a, vInt b] = arF 10 (vInt a) (vInt b) from rfl] at v5
  have s1 := same_ev (intF (a + b) (inM (a + b))) (bif inM (a + b) then a + b else 0) (inM (a + b))
  have s2 := same_ev (intF (a - b) (inM (a - b))) (bif inM (a - b) then a - b else 0) (inM (a - b))
  have s3 := same_ev (intF (a * b) (inM (a * b))) (bif inM (a * b) then a * b else 0) (inM (a * b))
  have s4 := same_ev (intF (modN a b) (modB a b)) (modN a b) (modB a b)
  rw [same_int] at s1 s2 s3
  rw [show smeF (intF (modN a b) (modB a b)) (modN a b) (modB a b) = true by
    have h := same_int (modN a b) (modB a b)
    have : modN a b = bif modB a b then modN a b else 0 := by
      unfold modN
      cases modB a b <;> rfl
    rw [← this] at h
    exact h] at s4
  have t1 := Test_ev g0 (ev2 a b) (opE 14 vA vB) (okW a b 14)
  have t2 := Test_ev g0 (ev2 a b) (opE 15 vA vB) (okW a b 15)
  have t3 := Test_ev g0 (ev2 a b) (opE 16 vA vB) (okW a b 16)
  have t4 := Test_ev g0 (ev2 a b) (opE 17 vA vB) (okW a b 17)
  have t5 := Test_ev g0 (ev2 a b) (opE 12 vA vB) (okW a b 12)
  rw [ev_bin ha hb (by decide +kernel), show apF g0 (ev2 a b) 14 vNull ⟨#[]⟩ [vInt a, vInt b] = vTruth (lessF (vInt a) (vInt b)) from rfl, truth_vT, less_int ha hb, kn_tt] at t1
  rw [ev_bin ha hb (by decide +kernel), show apF g0 (ev2 a b) 15 vNull ⟨#[]⟩ [vInt a, vInt b] = vTruth (atmF (lessF (vInt a) (vInt b)) (eqF (vInt a) (vInt b))) from rfl, truth_vT, less_int ha hb, eq_int ha hb, kn_atm] at t2
  rw [ev_bin ha hb (by decide +kernel), show apF g0 (ev2 a b) 16 vNull ⟨#[]⟩ [vInt a, vInt b] = vTruth (lessF (vInt b) (vInt a)) from rfl, truth_vT, less_int hb ha, kn_tt] at t3
  rw [ev_bin ha hb (by decide +kernel), show apF g0 (ev2 a b) 17 vNull ⟨#[]⟩ [vInt a, vInt b] = vTruth (atmF (lessF (vInt b) (vInt a)) (eqF (vInt a) (vInt b))) from rfl, truth_vT, less_int hb ha, eq_int ha hb, kn_atm] at t4
  rw [ev_bin ha hb (by decide +kernel), show apF g0 (ev2 a b) 12 vNull ⟨#[]⟩ [vInt a, vInt b] = vTruth (eqF (vInt a) (vInt b)) from rfl, truth_vT, eq_int ha hb, kn_tt] at t5
  have q1 : ((tt (decide (a < b)) == 2) == decide (a < b)) = true := by rw [tt_2]; exact beq_self _
  have q2 : ((tt (decide (a < b) || decide (a = b)) == 2) == decide (a ≤ b)) = true := by
    rw [tt_2, beq_iff_eq, Bool.eq_iff_iff]; simp; omega
  have q3 : ((tt (decide (b < a)) == 2) == decide (a > b)) = true := by rw [tt_2]; exact beq_self _
  have q4 : ((tt (decide (b < a) || decide (a = b)) == 0) == decide (a < b)) = true := by
    rw [tt_0, beq_iff_eq, Bool.eq_iff_iff]; simp; omega
  have q5 : ((tt (decide (a = b)) == 2) == (a == b)) = true := by
    rw [tt_2, beq_iff_eq, Bool.eq_iff_iff]; simp
  generalize tt (decide (a < b)) = z1 at *
  generalize tt (decide (a < b) || decide (a = b)) = z2 at *
  generalize tt (decide (b < a)) = z3 at *
  generalize tt (decide (b < a) || decide (a = b)) = z4 at *
  generalize tt (decide (a = b)) = z5 at *
  have hb' := (inM_iff b).1 hb
  have ha' := (inM_iff a).1 ha
  cases b0 : b == 0 with
  | true =>
    obtain rfl : b = 0 := by simpa using b0
    rw [ar_div0 ha, giv_nul2] at v5
    have m0 : modN a 0 = 0 := by unfold modN modB; rw [ha]; rfl
    rw [m0] at r4 s4 v4
    generalize modB a 0 = mb at *
    clear b0 hmB m0 hb
    generalize intF 0 mb = w4 at *
    generalize intF (a + 0) (inM (a + 0)) = w1 at *
    generalize (bif inM (a + 0) then a + 0 else 0) = n1 at *
    generalize inM (a + 0) = o1 at *
    generalize intF (a - 0) (inM (a - 0)) = w2 at *
    generalize (bif inM (a - 0) then a - 0 else 0) = n2 at *
    generalize inM (a - 0) = o2 at *
    generalize intF (a * 0) (inM (a * 0)) = w3 at *
    generalize (bif inM (a * 0) then a * 0 else 0) = n3 at *
    generalize inM (a * 0) = o3 at *
    refine enter2 Tryz.func8 Tryz.ntmps8 rfl rfl fun w0 F0 O => ?_
    repeat' (first | refine zS rfl ?_ | refine go_cutR 11 (fun r => ⟨[(105, .d (.bool r)), (0, .d (.int a)), (1, .d (.int 0)), (4, .d (.bool false)), (5, .ptr 0 0), (6, .d (.sl ((ev2 a 0).map encBd))), (7, .ptr 1 0), (8, .ptr 2 0), (15, .d (.int 0))], [.var 25 (.cs [.nilS, .nilS, .d (.int 0), .d (.int 0)]), .var 31 (.w (.d (encE vA))), .var 31 (.w (.d (encE vB)))]⟩) (false) ?_ ?_ | refine go_cutR 13 (fun _ : Unit => ⟨[(0, .d (.int a)), (1, .d (.int 0)), (4, .d (.bool false)), (5, .ptr 0 0), (6, .d (.sl ((ev2 a 0).map encBd))), (7, .ptr 1 0), (8, .ptr 2 0), (15, .d (.int 0)), (17, .ptr 3 0)], [.var 25 (.cs [.nilS, .nilS, .d (.int 0), .d (.int 0)]), .var 31 (.w (.d (encE vA))), .var 31 (.w (.d (encE vB))), .var 28 (.w (.d (enc vNull)))]⟩) (()) ?_ ?_ | refine go_cutR 14 (fun r => ⟨[(153, .d (.bool r)), (0, .d (.int a)), (1, .d (.int 0)), (4, .d (.bool false)), (5, .ptr 0 0), (6, .d (.sl ((ev2 a 0).map encBd))), (7, .ptr 1 0), (8, .ptr 2 0), (15, .d (.int 0)), (17, .ptr 3 0)], [.var 25 (.cs [.nilS, .nilS, .d (.int 0), .d (.int 0)]), .var 31 (.w (.d (encE vA))), .var 31 (.w (.d (encE vB))), .var 28 (.w (.d (enc vNull)))]⟩) (false) ?_ ?_ | refine qRT (id := 13) [6,7] [] (by kernel_rfl) (by kernel_rfl) rfl (by repeat (first | exact trivial | refine ⟨⟨rfl, rfl⟩, ?_⟩ | refine ⟨trivial, ?_⟩)) ?_ | refine rgW (id := 13) (i := 0) 6 (by kernel_rfl) rfl (by kernel_rfl) (by repeat (first | exact trivial | refine ⟨rfl, ?_⟩)) ?_ | refine rgStore (id := 13) (i := 6) rfl rfl rfl rfl rfl rfl rfl rfl rfl rfl rfl (by repeat (first | exact trivial | refine ⟨⟨rfl, rfl⟩, ?_⟩ | refine ⟨trivial, ?_⟩)) ?_ | refine rgAlloc (id := 13) (i := 6) rfl rfl rfl rfl rfl rfl rfl (by repeat (first | exact trivial | refine ⟨⟨rfl, rfl⟩, ?_⟩ | refine ⟨trivial, ?_⟩)) ?_ | refine rgBox (id := 13) (i := 6) rfl rfl rfl rfl rfl rfl rfl (by repeat (first | exact trivial | refine ⟨⟨rfl, rfl⟩, ?_⟩ | refine ⟨trivial, ?_⟩)) ?_ | refine rgStoreP _ (id := 13) (i := 6) rfl rfl rfl rfl rfl rfl rfl (by assumption) rfl rfl rfl (by repeat (first | exact trivial | refine ⟨⟨rfl, rfl⟩, ?_⟩ | refine ⟨trivial, ?_⟩)) ?_ | (refine rgS (id := 13) (i := 6) rfl rfl rfl rfl ?_ (by repeat (first | exact trivial | refine ⟨⟨rfl, rfl⟩, ?_⟩ | refine ⟨trivial, ?_⟩)) ?_; (first | exact True.intro | rfl | assumption | omega | (simp only [inR]; omega) | ((show _ ≤ (9223372036854775807 : Nat)); (try simp only [ByteArray.size_append]); omega) | exact tmod_ok (by omega) (by omega) | exact tdiv_ok (by omega) (by omega) | exact ⟨rfl, by decide, by decide⟩)) | refine rgStore (id := 13) (i := 7) rfl rfl rfl rfl rfl rfl rfl rfl rfl rfl rfl (by repeat (first | exact trivial | refine ⟨⟨rfl, rfl⟩, ?_⟩ | refine ⟨trivial, ?_⟩)) ?_ | refine rgAlloc (id := 13) (i := 7) rfl rfl rfl rfl rfl rfl rfl (by repeat (first | exact trivial | refine ⟨⟨rfl, rfl⟩, ?_⟩ | refine ⟨trivial, ?_⟩)) ?_ | refine rgBox (id := 13) (i := 7) rfl rfl rfl rfl rfl rfl rfl (by repeat (first | exact trivial | refine ⟨⟨rfl, rfl⟩, ?_⟩ | refine ⟨trivial, ?_⟩)) ?_ | refine rgStoreP _ (id := 13) (i := 7) rfl rfl rfl rfl rfl rfl rfl (by assumption) rfl rfl rfl (by repeat (first | exact trivial | refine ⟨⟨rfl, rfl⟩, ?_⟩ | refine ⟨trivial, ?_⟩)) ?_ | (refine rgS (id := 13) (i := 7) rfl rfl rfl rfl ?_ (by repeat (first | exact trivial | refine ⟨⟨rfl, rfl⟩, ?_⟩ | refine ⟨trivial, ?_⟩)) ?_; (first | exact True.intro | rfl | assumption | omega | (simp only [inR]; omega) | ((show _ ≤ (9223372036854775807 : Nat)); (try simp only [ByteArray.size_append]); omega) | exact tmod_ok (by omega) (by omega) | exact tdiv_ok (by omega) (by omega) | exact ⟨rfl, by decide, by decide⟩)) | refine rgN ?_ | (show TmB _ _ ∧ RGo _ _ _ _ _ _ _ _ _; refine ⟨(by repeat (first | exact trivial | refine ⟨rfl, ?_⟩)), ?_⟩) | (refine go_stop ⟨(), rfl, (zle 4)⟩) | (refine go_stop ⟨_, ?_, (zle 3)⟩) | (refine go_stop ⟨_, ?_, (zle 4)⟩) | refine qA ?_ | refine qB rfl ?_ | refine qC (by kernel_rfl) ?_ | refine qD ?_ | refine qE ?_ | refine qF ?_ | refine qG ?_ | refine qH rfl ?_ | (exact (rfl : (_ : Bool) = _)) | refine qP rfl rfl rfl rfl rfl rfl b10 (alive_ev) ?_ | refine qP (d := 19) rfl rfl rfl rfl rfl rfl b23 (i1) ?_ | refine qP (d := 23) rfl rfl rfl rfl rfl rfl b23 (i2) ?_ | refine qP (d := 39) rfl rfl rfl rfl rfl rfl b24 (r1) ?_ | refine qP (d := 45) rfl rfl rfl rfl rfl rfl b25 (r2) ?_ | refine qP (d := 51) rfl rfl rfl rfl rfl rfl b26 (r3) ?_ | (refine qP (d := 57) rfl rfl rfl rfl rfl rfl bRMod (r4) ?_) | refine qP (d := 63) rfl rfl rfl rfl rfl rfl b20 (op_ev 7 vA vB) ?_ | refine qP (d := 65) rfl rfl rfl rfl rfl rfl b11 (v1) ?_ | refine qP (d := 68) rfl rfl rfl rfl rfl rfl b28 (s1) ?_ | refine qP (d := 74) rfl rfl rfl rfl rfl rfl b20 (op_ev 8 vA vB) ?_ | refine qP (d := 76) rfl rfl rfl rfl rfl rfl b11 (v2) ?_ | refine qP (d := 79) rfl rfl rfl rfl rfl rfl b28 (s2) ?_ | refine qP (d := 86) rfl rfl rfl rfl rfl rfl b20 (op_ev 9 vA vB) ?_ | refine qP (d := 88) rfl rfl rfl rfl rfl rfl b11 (v3) ?_ | refine qP (d := 91) rfl rfl rfl rfl rfl rfl b28 (s3) ?_ | refine qP (d := 98) rfl rfl rfl rfl rfl rfl b20 (op_ev 11 vA vB) ?_ | refine qP (d := 100) rfl rfl rfl rfl rfl rfl b11 (v4) ?_ | refine qP (d := 103) rfl rfl rfl rfl rfl rfl b28 (s4) ?_ | refine qP (d := 109) rfl rfl rfl rfl rfl rfl b20 (op_ev 10 vA vB) ?_ | refine qP (d := 111) rfl rfl rfl rfl rfl rfl b11 (v5) ?_ | refine qP (d := 157) rfl rfl rfl rfl rfl rfl b20 (op_ev 14 vA vB) ?_ | refine qP (d := 159) rfl rfl rfl rfl rfl rfl b14 (t1) ?_ | refine qP (d := 169) rfl rfl rfl rfl rfl rfl b20 (op_ev 15 vA vB) ?_ | refine qP (d := 171) rfl rfl rfl rfl rfl rfl b14 (t2) ?_ | refine qP (d := 182) rfl rfl rfl rfl rfl rfl b20 (op_ev 16 vA vB) ?_ | refine qP (d := 184) rfl rfl rfl rfl rfl rfl b14 (t3) ?_ | refine qP (d := 195) rfl rfl rfl rfl rfl rfl b20 (op_ev 17 vA vB) ?_ | refine qP (d := 197) rfl rfl rfl rfl rfl rfl b14 (t4) ?_ | refine qP (d := 208) rfl rfl rfl rfl rfl rfl b20 (op_ev 12 vA vB) ?_ | refine qP (d := 210) rfl rfl rfl rfl rfl rfl b14 (t5) ?_ | refine zT rfl ?_ | refine zU rfl ?_ | refine qL rfl rfl ?_ | refine qM rfl rfl rfl ?_ | refine qO rfl rfl rfl ?_ | refine zX rfl rfl rfl rfl ?_ | refine zW rfl rfl rfl rfl ?_ | (refine qY rfl rfl rfl rfl ?_ ?_ <;> intro _) | exact zD | exact zL)
  | false =>
  have h0 : b ≠ 0 := by simpa using b0
  have n0 : (b != 0) = true := by simpa using h0
  obtain ⟨d1, d2⟩ := ar_div ha hb h0
  have hmod : modN a b = a.tmod b := by unfold modN modB; rw [ha, hb, b0]; rfl
  cases m0 : modN a b == 0 with
  | true =>
    have hm0 : a.tmod b = 0 := by rw [← hmod]; simpa using m0
    rw [d1 hm0] at v5
    have m1 : (modN a b != 0) = false := by rw [bne, m0]; rfl
    have hmx : max b (0 - b) = (b.natAbs : Int) := by omega
    have hsg : sgF b = sgn b := by
      unfold sgF sgn
      by_cases hlt : b < 0
      · rw [if_pos hlt, decide_eq_true hlt]; rfl
      · rw [if_neg hlt, decide_eq_false hlt, if_pos (by omega)]; rfl
    have s5 := same_ev (vInt (Int.tdiv a (b.natAbs : Int) * sgn b)) (Int.tdiv a (max b (0 - b)) * sgF b) true
    rw [show smeF (vInt (Int.tdiv a (b.natAbs : Int) * sgn b)) (Int.tdiv a (max b (0 - b)) * sgF b) true = true by rw [hmx, hsg]; unfold smeF vInt; simp [V.k, V.n]] at s5
    have g5 := sign_ev b
    obtain ⟨-, t5a, t5b⟩ := tdiv_abs (a := a) (g := b.natAbs) ha'
    have hne : max b (0 - b) ≠ 0 := by omega
    have hri : inR .i64 (Int.tdiv a (max b (0 - b))) := by rw [hmx]; simp only [inR]; omega
    have hsr : sgF b = 1 ∨ sgF b = -1 := by unfold sgF; cases decide (b < 0) <;> simp
    have hrm : inR .i64 (Int.tdiv a (max b (0 - b)) * sgF b) := by
      rw [hmx]
      generalize Int.tdiv a (b.natAbs : Int) = y at *
      simp only [inR]
      rcases hsr with h | h <;> rw [h] <;> omega
    clear hmx hsg d1 d2 hmod hsr
    generalize vInt (Int.tdiv a (b.natAbs : Int) * sgn b) = qv at *
    generalize modN a b = md at *
    generalize modB a b = mb at *
    clear hmB hm0
    generalize sgF b = sg at *
    generalize intF md mb = w4 at *
    generalize intF (a + b) (inM (a + b)) = w1 at *
    generalize (bif inM (a + b) then a + b else 0) = n1 at *
    generalize inM (a + b) = o1 at *
    generalize intF (a - b) (inM (a - b)) = w2 at *
    generalize (bif inM (a - b) then a - b else 0) = n2 at *
    generalize inM (a - b) = o2 at *
    generalize intF (a * b) (inM (a * b)) = w3 at *
    generalize (bif inM (a * b) then a * b else 0) = n3 at *
    generalize inM (a * b) = o3 at *
    refine enter2 Tryz.func8 Tryz.ntmps8 rfl rfl fun w0 F0 O => ?_
    repeat' (first | refine zS rfl ?_ | refine go_cutR 11 (fun r => ⟨[(105, .d (.bool r)), (0, .d (.int a)), (1, .d (.int b)), (4, .d (.bool false)), (5, .ptr 0 0), (6, .d (.sl ((ev2 a b).map encBd))), (7, .ptr 1 0), (8, .ptr 2 0), (15, .d (.int md))], [.var 25 (.cs [.nilS, .nilS, .d (.int 0), .d (.int 0)]), .var 31 (.w (.d (encE vA))), .var 31 (.w (.d (encE vB)))]⟩) (false) ?_ ?_ | refine go_cutR 13 (fun _ : Unit => ⟨[(0, .d (.int a)), (1, .d (.int b)), (4, .d (.bool false)), (5, .ptr 0 0), (6, .d (.sl ((ev2 a b).map encBd))), (7, .ptr 1 0), (8, .ptr 2 0), (15, .d (.int md)), (17, .ptr 3 0)], [.var 25 (.cs [.nilS, .nilS, .d (.int 0), .d (.int 0)]), .var 31 (.w (.d (encE vA))), .var 31 (.w (.d (encE vB))), .var 28 (.w (.d (enc qv)))]⟩) (()) ?_ ?_ | refine go_cutR 14 (fun r => ⟨[(153, .d (.bool r)), (0, .d (.int a)), (1, .d (.int b)), (4, .d (.bool false)), (5, .ptr 0 0), (6, .d (.sl ((ev2 a b).map encBd))), (7, .ptr 1 0), (8, .ptr 2 0), (15, .d (.int md)), (17, .ptr 3 0)], [.var 25 (.cs [.nilS, .nilS, .d (.int 0), .d (.int 0)]), .var 31 (.w (.d (encE vA))), .var 31 (.w (.d (encE vB))), .var 28 (.w (.d (enc qv)))]⟩) (false) ?_ ?_ | refine qRT (id := 13) [6,7] [] (by kernel_rfl) (by kernel_rfl) rfl (by repeat (first | exact trivial | refine ⟨⟨rfl, rfl⟩, ?_⟩ | refine ⟨trivial, ?_⟩)) ?_ | refine rgW (id := 13) (i := 0) 6 (by kernel_rfl) rfl (by kernel_rfl) (by repeat (first | exact trivial | refine ⟨rfl, ?_⟩)) ?_ | refine rgStore (id := 13) (i := 6) rfl rfl rfl rfl rfl rfl rfl rfl rfl rfl rfl (by repeat (first | exact trivial | refine ⟨⟨rfl, rfl⟩, ?_⟩ | refine ⟨trivial, ?_⟩)) ?_ | refine rgAlloc (id := 13) (i := 6) rfl rfl rfl rfl rfl rfl rfl (by repeat (first | exact trivial | refine ⟨⟨rfl, rfl⟩, ?_⟩ | refine ⟨trivial, ?_⟩)) ?_ | refine rgBox (id := 13) (i := 6) rfl rfl rfl rfl rfl rfl rfl (by repeat (first | exact trivial | refine ⟨⟨rfl, rfl⟩, ?_⟩ | refine ⟨trivial, ?_⟩)) ?_ | refine rgStoreP _ (id := 13) (i := 6) rfl rfl rfl rfl rfl rfl rfl (by assumption) rfl rfl rfl (by repeat (first | exact trivial | refine ⟨⟨rfl, rfl⟩, ?_⟩ | refine ⟨trivial, ?_⟩)) ?_ | (refine rgS (id := 13) (i := 6) rfl rfl rfl rfl ?_ (by repeat (first | exact trivial | refine ⟨⟨rfl, rfl⟩, ?_⟩ | refine ⟨trivial, ?_⟩)) ?_; (first | exact True.intro | rfl | assumption | omega | (simp only [inR]; omega) | ((show _ ≤ (9223372036854775807 : Nat)); (try simp only [ByteArray.size_append]); omega) | exact tmod_ok (by omega) (by omega) | exact tdiv_ok (by omega) (by omega) | exact ⟨rfl, by decide, by decide⟩)) | refine rgStore (id := 13) (i := 7) rfl rfl rfl rfl rfl rfl rfl rfl rfl rfl rfl (by repeat (first | exact trivial | refine ⟨⟨rfl, rfl⟩, ?_⟩ | refine ⟨trivial, ?_⟩)) ?_ | refine rgAlloc (id := 13) (i := 7) rfl rfl rfl rfl rfl rfl rfl (by repeat (first | exact trivial | refine ⟨⟨rfl, rfl⟩, ?_⟩ | refine ⟨trivial, ?_⟩)) ?_ | refine rgBox (id := 13) (i := 7) rfl rfl rfl rfl rfl rfl rfl (by repeat (first | exact trivial | refine ⟨⟨rfl, rfl⟩, ?_⟩ | refine ⟨trivial, ?_⟩)) ?_ | refine rgStoreP _ (id := 13) (i := 7) rfl rfl rfl rfl rfl rfl rfl (by assumption) rfl rfl rfl (by repeat (first | exact trivial | refine ⟨⟨rfl, rfl⟩, ?_⟩ | refine ⟨trivial, ?_⟩)) ?_ | (refine rgS (id := 13) (i := 7) rfl rfl rfl rfl ?_ (by repeat (first | exact trivial | refine ⟨⟨rfl, rfl⟩, ?_⟩ | refine ⟨trivial, ?_⟩)) ?_; (first | exact True.intro | rfl | assumption | omega | (simp only [inR]; omega) | ((show _ ≤ (9223372036854775807 : Nat)); (try simp only [ByteArray.size_append]); omega) | exact tmod_ok (by omega) (by omega) | exact tdiv_ok (by omega) (by omega) | exact ⟨rfl, by decide, by decide⟩)) | refine rgN ?_ | (show TmB _ _ ∧ RGo _ _ _ _ _ _ _ _ _; refine ⟨(by repeat (first | exact trivial | refine ⟨rfl, ?_⟩)), ?_⟩) | (refine go_stop ⟨(), rfl, (zle 4)⟩) | (refine go_stop ⟨_, ?_, (zle 3)⟩) | (refine go_stop ⟨_, ?_, (zle 4)⟩) | refine qA ?_ | refine qB rfl ?_ | refine qC (by kernel_rfl) ?_ | refine qD ?_ | refine qE ?_ | refine qF ?_ | refine qG ?_ | refine qH rfl ?_ | (exact (rfl : (_ : Bool) = _)) | refine qP rfl rfl rfl rfl rfl rfl b10 (alive_ev) ?_ | refine qP (d := 19) rfl rfl rfl rfl rfl rfl b23 (i1) ?_ | refine qP (d := 23) rfl rfl rfl rfl rfl rfl b23 (i2) ?_ | refine qP (d := 39) rfl rfl rfl rfl rfl rfl b24 (r1) ?_ | refine qP (d := 45) rfl rfl rfl rfl rfl rfl b25 (r2) ?_ | refine qP (d := 51) rfl rfl rfl rfl rfl rfl b26 (r3) ?_ | (refine qP (d := 57) rfl rfl rfl rfl rfl rfl bRMod (r4) ?_) | refine qP (d := 63) rfl rfl rfl rfl rfl rfl b20 (op_ev 7 vA vB) ?_ | refine qP (d := 65) rfl rfl rfl rfl rfl rfl b11 (v1) ?_ | refine qP (d := 68) rfl rfl rfl rfl rfl rfl b28 (s1) ?_ | refine qP (d := 74) rfl rfl rfl rfl rfl rfl b20 (op_ev 8 vA vB) ?_ | refine qP (d := 76) rfl rfl rfl rfl rfl rfl b11 (v2) ?_ | refine qP (d := 79) rfl rfl rfl rfl rfl rfl b28 (s2) ?_ | refine qP (d := 86) rfl rfl rfl rfl rfl rfl b20 (op_ev 9 vA vB) ?_ | refine qP (d := 88) rfl rfl rfl rfl rfl rfl b11 (v3) ?_ | refine qP (d := 91) rfl rfl rfl rfl rfl rfl b28 (s3) ?_ | refine qP (d := 98) rfl rfl rfl rfl rfl rfl b20 (op_ev 11 vA vB) ?_ | refine qP (d := 100) rfl rfl rfl rfl rfl rfl b11 (v4) ?_ | refine qP (d := 103) rfl rfl rfl rfl rfl rfl b28 (s4) ?_ | refine qP (d := 109) rfl rfl rfl rfl rfl rfl b20 (op_ev 10 vA vB) ?_ | refine qP (d := 111) rfl rfl rfl rfl rfl rfl b11 (v5) ?_ | refine qP (d := 157) rfl rfl rfl rfl rfl rfl b20 (op_ev 14 vA vB) ?_ | refine qP (d := 159) rfl rfl rfl rfl rfl rfl b14 (t1) ?_ | refine qP (d := 169) rfl rfl rfl rfl rfl rfl b20 (op_ev 15 vA vB) ?_ | refine qP (d := 171) rfl rfl rfl rfl rfl rfl b14 (t2) ?_ | refine qP (d := 182) rfl rfl rfl rfl rfl rfl b20 (op_ev 16 vA vB) ?_ | refine qP (d := 184) rfl rfl rfl rfl rfl rfl b14 (t3) ?_ | refine qP (d := 195) rfl rfl rfl rfl rfl rfl b20 (op_ev 17 vA vB) ?_ | refine qP (d := 197) rfl rfl rfl rfl rfl rfl b14 (t4) ?_ | refine qP (d := 208) rfl rfl rfl rfl rfl rfl b20 (op_ev 12 vA vB) ?_ | refine qP (d := 210) rfl rfl rfl rfl rfl rfl b14 (t5) ?_ | refine qP (d := 135) rfl rfl rfl rfl rfl rfl b29 (g5) ?_ | refine qP (d := 137) rfl rfl rfl rfl rfl rfl b28 (s5) ?_ | (refine qS rfl ⟨hne, hri⟩ ?_) | (refine qS rfl hrm ?_) | refine zT rfl ?_ | refine zU rfl ?_ | refine qL rfl rfl ?_ | refine qM rfl rfl rfl ?_ | refine qO rfl rfl rfl ?_ | refine zX rfl rfl rfl rfl ?_ | refine zW rfl rfl rfl rfl ?_ | (refine qY rfl rfl rfl rfl ?_ ?_ <;> intro _) | exact zD | exact zL)
  | false =>
    have hm0 : a.tmod b ≠ 0 := by rw [← hmod]; simpa using m0
    have m1 : (modN a b != 0) = true := by rw [bne, m0]; rfl
    have k3 : ((giv (arF 10 (vInt a) (vInt b))).k != 3) = false := by rw [d2 hm0]; rfl
    generalize giv (arF 10 (vInt a) (vInt b)) = qv at *
    clear d1 d2 hmod hm0 hmB
    generalize modN a b = md at *
    generalize modB a b = mb at *
    generalize intF md mb = w4 at *
    generalize intF (a + b) (inM (a + b)) = w1 at *
    generalize (bif inM (a + b) then a + b else 0) = n1 at *
    generalize inM (a + b) = o1 at *
    generalize intF (a - b) (inM (a - b)) = w2 at *
    generalize (bif inM (a - b) then a - b else 0) = n2 at *
    generalize inM (a - b) = o2 at *
    generalize intF (a * b) (inM (a * b)) = w3 at *
    generalize (bif inM (a * b) then a * b else 0) = n3 at *
    generalize inM (a * b) = o3 at *
    refine enter2 Tryz.func8 Tryz.ntmps8 rfl rfl fun w0 F0 O => ?_
    repeat' (first | refine zS rfl ?_ | refine go_cutR 11 (fun r => ⟨[(105, .d (.bool r)), (0, .d (.int a)), (1, .d (.int b)), (4, .d (.bool false)), (5, .ptr 0 0), (6, .d (.sl ((ev2 a b).map encBd))), (7, .ptr 1 0), (8, .ptr 2 0), (15, .d (.int md))], [.var 25 (.cs [.nilS, .nilS, .d (.int 0), .d (.int 0)]), .var 31 (.w (.d (encE vA))), .var 31 (.w (.d (encE vB)))]⟩) (false) ?_ ?_ | refine go_cutR 13 (fun _ : Unit => ⟨[(0, .d (.int a)), (1, .d (.int b)), (4, .d (.bool false)), (5, .ptr 0 0), (6, .d (.sl ((ev2 a b).map encBd))), (7, .ptr 1 0), (8, .ptr 2 0), (15, .d (.int md)), (17, .ptr 3 0)], [.var 25 (.cs [.nilS, .nilS, .d (.int 0), .d (.int 0)]), .var 31 (.w (.d (encE vA))), .var 31 (.w (.d (encE vB))), .var 28 (.w (.d (enc qv)))]⟩) (()) ?_ ?_ | refine go_cutR 14 (fun r => ⟨[(153, .d (.bool r)), (0, .d (.int a)), (1, .d (.int b)), (4, .d (.bool false)), (5, .ptr 0 0), (6, .d (.sl ((ev2 a b).map encBd))), (7, .ptr 1 0), (8, .ptr 2 0), (15, .d (.int md)), (17, .ptr 3 0)], [.var 25 (.cs [.nilS, .nilS, .d (.int 0), .d (.int 0)]), .var 31 (.w (.d (encE vA))), .var 31 (.w (.d (encE vB))), .var 28 (.w (.d (enc qv)))]⟩) (false) ?_ ?_ | refine qRT (id := 13) [6,7] [] (by kernel_rfl) (by kernel_rfl) rfl (by repeat (first | exact trivial | refine ⟨⟨rfl, rfl⟩, ?_⟩ | refine ⟨trivial, ?_⟩)) ?_ | refine rgW (id := 13) (i := 0) 6 (by kernel_rfl) rfl (by kernel_rfl) (by repeat (first | exact trivial | refine ⟨rfl, ?_⟩)) ?_ | refine rgStore (id := 13) (i := 6) rfl rfl rfl rfl rfl rfl rfl rfl rfl rfl rfl (by repeat (first | exact trivial | refine ⟨⟨rfl, rfl⟩, ?_⟩ | refine ⟨trivial, ?_⟩)) ?_ | refine rgAlloc (id := 13) (i := 6) rfl rfl rfl rfl rfl rfl rfl (by repeat (first | exact trivial | refine ⟨⟨rfl, rfl⟩, ?_⟩ | refine ⟨trivial, ?_⟩)) ?_ | refine rgBox (id := 13) (i := 6) rfl rfl rfl rfl rfl rfl rfl (by repeat (first | exact trivial | refine ⟨⟨rfl, rfl⟩, ?_⟩ | refine ⟨trivial, ?_⟩)) ?_ | refine rgStoreP _ (id := 13) (i := 6) rfl rfl rfl rfl rfl rfl rfl (by assumption) rfl rfl rfl (by repeat (first | exact trivial | refine ⟨⟨rfl, rfl⟩, ?_⟩ | refine ⟨trivial, ?_⟩)) ?_ | (refine rgS (id := 13) (i := 6) rfl rfl rfl rfl ?_ (by repeat (first | exact trivial | refine ⟨⟨rfl, rfl⟩, ?_⟩ | refine ⟨trivial, ?_⟩)) ?_; (first | exact True.intro | rfl | assumption | omega | (simp only [inR]; omega) | ((show _ ≤ (9223372036854775807 : Nat)); (try simp only [ByteArray.size_append]); omega) | exact tmod_ok (by omega) (by omega) | exact tdiv_ok (by omega) (by omega) | exact ⟨rfl, by decide, by decide⟩)) | refine rgStore (id := 13) (i := 7) rfl rfl rfl rfl rfl rfl rfl rfl rfl rfl rfl (by repeat (first | exact trivial | refine ⟨⟨rfl, rfl⟩, ?_⟩ | refine ⟨trivial, ?_⟩)) ?_ | refine rgAlloc (id := 13) (i := 7) rfl rfl rfl rfl rfl rfl rfl (by repeat (first | exact trivial | refine ⟨⟨rfl, rfl⟩, ?_⟩ | refine ⟨trivial, ?_⟩)) ?_ | refine rgBox (id := 13) (i := 7) rfl rfl rfl rfl rfl rfl rfl (by repeat (first | exact trivial | refine ⟨⟨rfl, rfl⟩, ?_⟩ | refine ⟨trivial, ?_⟩)) ?_ | refine rgStoreP _ (id := 13) (i := 7) rfl rfl rfl rfl rfl rfl rfl (by assumption) rfl rfl rfl (by repeat (first | exact trivial | refine ⟨⟨rfl, rfl⟩, ?_⟩ | refine ⟨trivial, ?_⟩)) ?_ | (refine rgS (id := 13) (i := 7) rfl rfl rfl rfl ?_ (by repeat (first | exact trivial | refine ⟨⟨rfl, rfl⟩, ?_⟩ | refine ⟨trivial, ?_⟩)) ?_; (first | exact True.intro | rfl | assumption | omega | (simp only [inR]; omega) | ((show _ ≤ (9223372036854775807 : Nat)); (try simp only [ByteArray.size_append]); omega) | exact tmod_ok (by omega) (by omega) | exact tdiv_ok (by omega) (by omega) | exact ⟨rfl, by decide, by decide⟩)) | refine rgN ?_ | (show TmB _ _ ∧ RGo _ _ _ _ _ _ _ _ _; refine ⟨(by repeat (first | exact trivial | refine ⟨rfl, ?_⟩)), ?_⟩) | (refine go_stop ⟨(), rfl, (zle 4)⟩) | (refine go_stop ⟨_, ?_, (zle 3)⟩) | (refine go_stop ⟨_, ?_, (zle 4)⟩) | refine qA ?_ | refine qB rfl ?_ | refine qC (by kernel_rfl) ?_ | refine qD ?_ | refine qE ?_ | refine qF ?_ | refine qG ?_ | refine qH rfl ?_ | (exact (rfl : (_ : Bool) = _)) | exact k3 | refine qP rfl rfl rfl rfl rfl rfl b10 (alive_ev) ?_ | refine qP (d := 19) rfl rfl rfl rfl rfl rfl b23 (i1) ?_ | refine qP (d := 23) rfl rfl rfl rfl rfl rfl b23 (i2) ?_ | refine qP (d := 39) rfl rfl rfl rfl rfl rfl b24 (r1) ?_ | refine qP (d := 45) rfl rfl rfl rfl rfl rfl b25 (r2) ?_ | refine qP (d := 51) rfl rfl rfl rfl rfl rfl b26 (r3) ?_ | (refine qP (d := 57) rfl rfl rfl rfl rfl rfl bRMod (r4) ?_) | refine qP (d := 63) rfl rfl rfl rfl rfl rfl b20 (op_ev 7 vA vB) ?_ | refine qP (d := 65) rfl rfl rfl rfl rfl rfl b11 (v1) ?_ | refine qP (d := 68) rfl rfl rfl rfl rfl rfl b28 (s1) ?_ | refine qP (d := 74) rfl rfl rfl rfl rfl rfl b20 (op_ev 8 vA vB) ?_ | refine qP (d := 76) rfl rfl rfl rfl rfl rfl b11 (v2) ?_ | refine qP (d := 79) rfl rfl rfl rfl rfl rfl b28 (s2) ?_ | refine qP (d := 86) rfl rfl rfl rfl rfl rfl b20 (op_ev 9 vA vB) ?_ | refine qP (d := 88) rfl rfl rfl rfl rfl rfl b11 (v3) ?_ | refine qP (d := 91) rfl rfl rfl rfl rfl rfl b28 (s3) ?_ | refine qP (d := 98) rfl rfl rfl rfl rfl rfl b20 (op_ev 11 vA vB) ?_ | refine qP (d := 100) rfl rfl rfl rfl rfl rfl b11 (v4) ?_ | refine qP (d := 103) rfl rfl rfl rfl rfl rfl b28 (s4) ?_ | refine qP (d := 109) rfl rfl rfl rfl rfl rfl b20 (op_ev 10 vA vB) ?_ | refine qP (d := 111) rfl rfl rfl rfl rfl rfl b11 (v5) ?_ | refine qP (d := 157) rfl rfl rfl rfl rfl rfl b20 (op_ev 14 vA vB) ?_ | refine qP (d := 159) rfl rfl rfl rfl rfl rfl b14 (t1) ?_ | refine qP (d := 169) rfl rfl rfl rfl rfl rfl b20 (op_ev 15 vA vB) ?_ | refine qP (d := 171) rfl rfl rfl rfl rfl rfl b14 (t2) ?_ | refine qP (d := 182) rfl rfl rfl rfl rfl rfl b20 (op_ev 16 vA vB) ?_ | refine qP (d := 184) rfl rfl rfl rfl rfl rfl b14 (t3) ?_ | refine qP (d := 195) rfl rfl rfl rfl rfl rfl b20 (op_ev 17 vA vB) ?_ | refine qP (d := 197) rfl rfl rfl rfl rfl rfl b14 (t4) ?_ | refine qP (d := 208) rfl rfl rfl rfl rfl rfl b20 (op_ev 12 vA vB) ?_ | refine qP (d := 210) rfl rfl rfl rfl rfl rfl b14 (t5) ?_ | refine zT rfl ?_ | refine zU rfl ?_ | refine qL rfl rfl ?_ | refine qM rfl rfl rfl ?_ | refine qO rfl rfl rfl ?_ | refine zX rfl rfl rfl rfl ?_ | refine zW rfl rfl rfl rfl ?_ | (refine qY rfl rfl rfl rfl ?_ ?_ <;> intro _) | exact zD | exact zL)
set_option maxRecDepth 100000 in
theorem whole_lifted (os : Os) (started : os.Started) (H : Type) (enc : TypeId × Value → H) :
    ReturnsInHanded {} Tryz.checked os 8 .any (fun w args => (Rows.evalWholeSpec.pre enc Tryz.prog Tryz.f8 [] false w args ∧ laidMetH Tryz.prog seatLaid w) ∧ sizedMet enc Tryz.prog Tryz.f8 (OpenSpec.ofChange Rows.evalWholeSpec) false w args)
      (Rows.evalWholeSpec.post enc Tryz.prog Tryz.f8 false true false false) := by
  refine lift_true (C := Tryz.checked) (laid := seatLaid) (tb := 4) tys seat_own started (by kernel_rfl) Tryz.func8
    (ChangeSpec.witness_shaped (enc := enc) (C := Tryz.checked) (os := os) (X := fun w _ => laidMetH Tryz.prog seatLaid w) false (wit os) #[.int .i64 0, .int .i64 0] 8 rfl (wit_shaped os _) (by kernel_rfl) (by kernel_rfl) (by kernel_rfl) (wit_met os _))
    rfl rfl Tryz.underlying4 (fun ds hl => ?_) seat_out (by kernel_rfl) tys_ok (by kernel_rfl) (fun W args xs hL hS hx hsz hr hty => ?_)
  · match ds, hl with
    | [_, _], _ => rfl
  · have hsz' : args.size = 2 := hsz
    rw [hsz'] at hx
    match xs, hx with
    | [x0, x1], _ =>
      obtain ⟨a0, rfl⟩ := HasTy.int_inv Tryz.underlying3 (hty 0 _ x0 rfl rfl)
      obtain ⟨a1, rfl⟩ := HasTy.int_inv Tryz.underlying3 (hty 1 _ x1 rfl rfl)
      exact calls_of_ev (gi_of hL hS) (law_whole a0 a1) (by simp [hsz']) hr
theorem whole_holds : Rows.EvalWholeSaid :=
  OpenClaim.holds_of_wide 8 Tryz.f8 rfl rfl rfl rfl rfl rfl rfl ⟨rfl, rfl, rfl, rfl, rfl⟩ rfl rfl rfl rfl rfl (by kernel_rfl) Tryz.func8 (by kernel_rfl)
    (of_decide_eq_true (by kernel_rfl)) (by unfold Func.isWrapper; first | (rw [if_pos (by decide +kernel)]; kernel_rfl) | (rw [if_neg (by decide +kernel)]; exact ⟨rfl, rfl⟩))
    (fun os started H enc _ => whole_lifted os started H enc)
theorem whole_card : Rows.EvalWholeCardSaid := by
  unfold Rows.EvalWholeCardSaid Rows.evalWholeCard
  exact Claim7.holds_tied_plain_at .later [] _ true _ false
    whole_holds (fun _ h => by cases h) (by kernel_rfl) (fun _ h => by cases h) evalWhole_row_tie rfl ⟨rfl, rfl⟩ (by kernel_rfl) rfl
    (fun f fn hf hfn => by
      obtain rfl : f = 8 := Option.some.inj ((show Tryz.prog.funcNamed Rows.evalWholeRow.func = some 8 by kernel_rfl).symm.trans hf) |>.symm
      obtain rfl : fn = Tryz.f8 := (Option.some.inj (Tryz.func8.symm.trans hfn)).symm
      exact ⟨by kernel_rfl, fun j t ht => by
        have hall : (Tryz.f8.params.toList.all fun u => !Tryz.prog.wantsStandIn u) = true := by kernel_rfl
        exact (show Tryz.prog.wantsStandIn t = false by simpa using List.all_eq_true.1 hall t (by simpa using Array.mem_of_getElem? ht))⟩)
    (by kernel_rfl)
#print axioms whole_card
end Go.Proofs.YthieohigmpfknaaGreatDoor
