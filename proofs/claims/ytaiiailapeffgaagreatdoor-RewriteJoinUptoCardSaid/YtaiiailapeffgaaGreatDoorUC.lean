/- The worked examples of chapter 36: the law's own text. Conditions: none. -/
import Derived.Test.YtaiiailapeffgaaGreatDoorPA
import Derived.Test.YtaiiailapeffgaaGreatDoorUB
import Derived.Test.YtaiiailapeffgaaGreatDoorGC
set_option linter.unusedVariables false
set_option linter.unusedSimpArgs false
namespace Go.Proofs.YtaiiailapeffgaaGreatDoor
set_option maxRecDepth 4000
open Go Go.Abs Go.Val Go.RowKit Go.Proofs.Tryz
attribute [local irreducible] go SGo an2 Ev aw0 EvO EvS RGo RGw PGo binOp
def naU : ByteArray := ⟨#[97]⟩
def eqU : Ex := opE 12 (ee1 naU) (dy4 1)
def f1U : Ex := opE 7 (opE 7 (dy4 1) (dy4 2)) (ee1 naU)
def f2U : Ex := opE 18 ep6 eqU
def f3U : Ex := opE 18 ep6 (ee1 naU)
def f4U : Ex := opE 8 (dy4 1) (dy4 3)
def lcU : Ex := opE 18 eqU (opE 18 ep6 eqU)
def er5 (e : Ex) : Ex := bif di3 e != 0 then e else eb3 e
theorem er6 (e : Ex) (h1 : decide (nd e ≤ 1000000) = true) (h2 : decide (dp e ≤ 1000000) = true) (h3 : decide (bj3 (cy3 e) ≤ 1048576) = true) : Ev E 15 [cy3 e] (.d (cy3 (er5 e))) :=
 eg6 e (of_decide_eq_true h1) (of_decide_eq_true h2) (dv5 e _ (of_decide_eq_true h3))
theorem v1U : er5 f1U = opE 7 (dy4 3) (ee1 naU) := by kernel_rfl
theorem v2U : er5 f2U = eqU := by kernel_rfl
theorem v3U : er5 f3U = f3U := by kernel_rfl
theorem v4U : er5 f4U = f4U := by kernel_rfl
theorem er7 : Ev E 15 [cy3 f1U] (.d (cy3 (opE 7 (dy4 3) (ee1 naU)))) := by
 have h := er6 f1U (by decide +kernel) (by decide +kernel) (by decide +kernel);rw [v1U] at h;exact h
theorem er8 : Ev E 15 [cy3 f2U] (.d (cy3 eqU)) := by
 have h := er6 f2U (by decide +kernel) (by decide +kernel) (by decide +kernel);rw [v2U] at h;exact h
theorem er9 : Ev E 15 [cy3 f3U] (.d (cy3 f3U)) := by
 have h := er6 f3U (by decide +kernel) (by decide +kernel) (by decide +kernel);rw [v3U] at h;exact h
theorem es0 : Ev E 15 [cy3 f4U] (.d (cy3 f4U)) := by
 have h := er6 f4U (by decide +kernel) (by decide +kernel) (by decide +kernel);rw [v4U] at h;exact h
def lsU : List Ex := [eqU, ep6, eqU]
theorem conjU : ec3 lcU = lsU := by kernel_rfl
theorem es1 : Ev E 16 [cy3 lcU] (.d (.sl (cy2 lsU))) := by
 have h := (ef6 lcU (of_decide_eq_true (by decide +kernel))).ev;rw [conjU] at h;exact h
theorem es2 : Ev E 17 [.sl []] (.d (cy3 ep6)) := ef9 [] fun x hx => by cases hx
theorem es3 : nd eqU ≤ 2000000 := of_decide_eq_true (by decide +kernel)
theorem es4 : Ev E 17 [.sl (cy2 lsU)] (.d (cy3 (ec6 lsU))) := ef9 lsU fun x hx => by
 simp only [lsU, fl1, List.not_mem_nil, or_false] at hx;rcases hx with rfl | rfl | rfl
 ·exact es3
 ·rw [ep7]; decide
 ·exact es3
set_option maxHeartbeats 4000000 in
theorem es5 : Ev E 7 [] (.d (.bool true)) := by
 have h1 := er7;have h2 := er8;have h3 := er9;have h4 := es0;have h5 := es1;have h6 := es2;have h7 := es4;have h8 := er4;have k0 : (cy1 (opE 7 (dy4 3) (ee1 naU)))[((0 : Int)).toNat]? = some (cy3 (dy4 3)) := rfl;have kl : (cy1 (opE 7 (dy4 3) (ee1 naU))).length = 2 := rfl;have kf : ([en6 en5] : List D).length = 1 := rfl;have ke : (cy2 lsU).length = 3 := rfl;have k1 : ([en6 en5])[((0 : Int)).toNat]? = some (en6 en5) := rfl;refine ap5 func7 ntmps7 rfl rfl fun w0 F0 O => ?_
 repeat' (first | refine yz ?_ | refine qP (d := 13) rfl rfl rfl rfl rfl rfl b9 ((ee3 naU)) ?_ | refine qP (d := 14) rfl rfl rfl rfl rfl rfl b14 ((ee2 1)) ?_ | refine qP (d := 15) rfl rfl rfl rfl rfl rfl b8 ((ee4 12 (ee1 naU) (dy4 1))) ?_ | fail)
 repeat' (first | refine qP (d := 16) rfl rfl rfl rfl rfl rfl b14 ((ee2 1)) ?_ | refine qP (d := 17) rfl rfl rfl rfl rfl rfl b14 ((ee2 2)) ?_ | refine qP (d := 18) rfl rfl rfl rfl rfl rfl b8 ((ee4 7 (dy4 1) (dy4 2))) ?_ | fail)
 repeat' (first | refine yz ?_ | refine qP (d := 19) rfl rfl rfl rfl rfl rfl b9 ((ee3 naU)) ?_ | refine qP (d := 20) rfl rfl rfl rfl rfl rfl b8 ((ee4 7 (opE 7 (dy4 1) (dy4 2)) (ee1 naU))) ?_ | refine qP (d := 21) rfl rfl rfl rfl rfl rfl b15 (h1) ?_ | fail)
 repeat' (first | refine yu 5 [4,5] [] ?_ | refine yk 5 0 4 ?_ | refine yz ?_ | refine qP (d := 24) rfl rfl rfl rfl rfl rfl b8 ((ee4 18 ep6 eqU)) ?_ | refine qP (d := 25) rfl rfl rfl rfl rfl rfl b15 (h2) ?_ | fail)
 repeat' (first | refine yw ?_ | refine rgN ?_ | refine yv ?_ | refine yz ?_ | refine qP (d := 27) rfl rfl rfl rfl rfl rfl b9 ((ee3 naU)) ?_ | refine qP (d := 28) rfl rfl rfl rfl rfl rfl b8 ((ee4 18 ep6 (ee1 naU))) ?_ | refine qP (d := 29) rfl rfl rfl rfl rfl rfl b15 (h3) ?_ | fail)
 repeat' (first | refine yz ?_ | refine qP (d := 30) rfl rfl rfl rfl rfl rfl b14 ((ee2 1)) ?_ | refine qP (d := 31) rfl rfl rfl rfl rfl rfl b14 ((ee2 3)) ?_ | refine qP (d := 32) rfl rfl rfl rfl rfl rfl b8 ((ee4 8 (dy4 1) (dy4 3))) ?_ | refine qP (d := 33) rfl rfl rfl rfl rfl rfl b15 (h4) ?_ | fail)
 repeat' (first | refine yz ?_ | refine qP (d := 37) rfl rfl rfl rfl rfl rfl b8 ((ee4 18 ep6 eqU)) ?_ | refine qP (d := 38) rfl rfl rfl rfl rfl rfl b8 ((ee4 18 eqU (opE 18 ep6 eqU))) ?_ | refine yp b16 h5 ?_ | fail)
 repeat' (first | refine yz ?_ | (refine qP (d := 48) rfl rfl rfl rfl rfl (by kernel_rfl) b11 h8 ?_) | refine qI (cy3 (dy4 3)) rfl (ap2 rfl) rfl rfl rfl rfl rfl rfl (by first | omega | decide) k0 ?_ | refine bo6 ?_ | refine bm6 rfl rfl rfl rfl rfl rfl rfl ?_ | refine qP (d := 88) rfl rfl rfl rfl rfl rfl b17 (h6) ?_ | refine qP (d := 95) rfl rfl rfl rfl rfl rfl b17 (h7) ?_ | refine yi (en6 en5) k1 ?_ | exact zD | fail)
end Go.Proofs.YtaiiailapeffgaaGreatDoor
