/- Lists and paths as values, and the worked examples of the chapter. Conditions: no list of more than a million elements. -/
import Derived.Test.YtpjnngfjbcjikaaDoorM25
namespace Go.Proofs.YtpjnngfjbcjikaaDoor
open Go Go.Abs Go.Val Go.RowKit
attribute [local irreducible] go SGo HasBody Ev ExtEv EvO

def vList (l : List V) : V := .mk 8 0 0 ⟨#[]⟩ l
def vPath (l : List V) : V := .mk 7 0 0 ⟨#[]⟩ l
theorem list_ev (l : List V) (h : nar (vList l) = true) : Ev E 14 [.sl (encL l)] (.d (enc (vList l))) := by
  have hc : Ev E 34 [.sl (encL l)] (.d (.sl (encL l))) := copied_ev (vList l) h
  refine enter1 Tryd.func14 Tryd.ntmps14 rfl rfl fun w0 F0 => ?_
  repeat' (first | (refine qS rfl ?_ ?_; (first | exact True.intro | rfl | assumption | omega | (simp only [inR]; omega) | ((show _ ≤ (9223372036854775807 : Nat)); (try simp only [ByteArray.size_append]); omega) | exact tmod_ok (by omega) (by omega) | exact tdiv_ok (by omega) (by omega) | exact ⟨rfl, by decide, by decide⟩)) | refine qA ?_ | refine qB rfl ?_ | refine qC (by kernel_rfl) ?_ | refine qD ?_ | refine qE ?_ | refine qF ?_ | refine qG ?_ | refine qH rfl ?_ | refine qP rfl rfl rfl rfl rfl rfl b34 (hc) ?_ | (refine qT rfl ?_ ?_; (first | rfl | assumption)) | (refine qU rfl ?_ ?_; (first | rfl | assumption)) | refine qL rfl rfl ?_ | refine qM rfl rfl rfl ?_ | refine qO rfl rfl rfl ?_ | refine qX (b' := true) rfl rfl rfl rfl (by assumption) ?_ | refine qX (b' := false) rfl rfl rfl rfl (by assumption) ?_ | (refine qY rfl rfl rfl rfl ?_ ?_ <;> intro _) | exact (rfl : (_ : D) = _) | exact (rfl : (_ : List D) = _))
def xT : V := vList [vStr ⟨#[105, 116, 39, 115]⟩, vNode 3]
theorem txt_xT : txt xT = [91, 39, 105, 116, 39, 39, 115, 39, 44, 32, 35, 51, 93] := by
  have o1 : Val.okV xT = true := by decide +kernel
  have o2 : Val.okV (vStr ⟨#[105, 116, 39, 115]⟩) = true := by decide +kernel
  have o3 : Val.okV (vNode 3) = true := by decide +kernel
  have e1 : txt (vStr ⟨#[105, 116, 39, 115]⟩) = [39, 105, 116, 39, 39, 115, 39] := by
    unfold vStr at o2 ⊢
    simp only [txt, o2]
    rfl
  have e2 : txt (vNode 3) = [35, 51] := by
    unfold vNode at o3 ⊢
    simp only [txt, o3]
    simp [Lib.itoa, Lib.decDigits]
  unfold xT vList at o1 ⊢
  simp only [txt, o1, txtL, e1, e2]
  rfl
theorem alive_ev : Ev E 6 [] (.d (.bool true)) := by
  have r1 := rat_ev 1 2
  have r2 := rat_ev 1 3
  have l1 := list_ev [vInt 1, vNull] (by decide +kernel)
  have l2 := list_ev [vInt 1, vInt 2] (by decide +kernel)
  have l3 := list_ev [vInt 2, vNull] (by decide +kernel)
  have l4 := list_ev [vStr ⟨#[105, 116, 39, 115]⟩, vNode 3] (by decide +kernel)
  have s1 := str_ev ⟨#[105, 116, 39, 115]⟩
  have s2 := str_ev ⟨#[97]⟩
  have a1 := Equal_ev (vList [vInt 1, vNull]) (vList [vInt 1, vInt 2])
  have a2 := Equal_ev (vList [vInt 1, vNull]) (vList [vInt 2, vNull])
  have a3 := Equal_ev (vRat 1 2) (vStr ⟨#[97]⟩)
  have a4 := Less_ev (vRat 1 3) (vRat 1 2)
  have a5 := Less_ev (vInt 1) (vStr ⟨#[97]⟩)
  have a6 := Order_ev (vInt 5) (vStr ⟨#[97]⟩)
  have a7 := txt_ev xT (by rw [txt_xT]; decide)
  have a8 := Order_ev (vRat 1 2) (vInt 1)
  have a9 := Order_ev vNull (vBool false)
  have a10 := Valid_ev ixOK xT
  rw [show eqF (vList [vInt 1, vNull]) (vList [vInt 1, vInt 2]) = 1 by decide +kernel] at a1
  rw [show eqF (vList [vInt 1, vNull]) (vList [vInt 2, vNull]) = 0 by decide +kernel] at a2
  rw [show eqF (vRat 1 2) (vStr ⟨#[97]⟩) = 0 by decide +kernel] at a3
  rw [show lessF (vRat 1 3) (vRat 1 2) = 2 by decide +kernel] at a4
  rw [show lessF (vInt 1) (vStr ⟨#[97]⟩) = 1 by decide +kernel] at a5
  rw [show ordF (vInt 5) (vStr ⟨#[97]⟩) = -1 by decide +kernel] at a6
  rw [txt_xT] at a7
  rw [show ordF (vRat 1 2) (vInt 1) = -1 by decide +kernel] at a8
  rw [show ordF vNull (vBool false) = -1 by decide +kernel] at a9
  rw [show Val.okV xT = true by decide +kernel] at a10
  have ht : ((bs [91, 39, 105, 116, 39, 39, 115, 39, 44, 32, 35, 51, 93]).toList == (⟨#[91, 39, 105, 116, 39, 39, 115, 39, 44, 32, 35, 51, 93]⟩ : ByteArray).toList) = true := beq_self_eq_true (bs [91, 39, 105, 116, 39, 39, 115, 39, 44, 32, 35, 51, 93]).toList
  refine enter0 Tryd.func6 Tryd.ntmps6 rfl rfl fun w0 F0 => ?_
  repeat' (first | (refine qS rfl ?_ ?_; (first | exact True.intro | rfl | assumption | omega | (simp only [inR]; omega) | ((show _ ≤ (9223372036854775807 : Nat)); (try simp only [ByteArray.size_append]); omega) | exact tmod_ok (by omega) (by omega) | exact tdiv_ok (by omega) (by omega) | exact ⟨rfl, by decide, by decide⟩)) | refine qA ?_ | refine qB rfl ?_ | refine qC (by kernel_rfl) ?_ | refine qD ?_ | refine qE ?_ | refine qF ?_ | refine qG ?_ | refine qH rfl ?_ | refine qP (d := 8) rfl rfl rfl rfl rfl rfl b13 (r1) ?_ | refine qP (d := 10) rfl rfl rfl rfl rfl rfl b13 (r2) ?_ | refine qP rfl rfl rfl rfl rfl rfl b15 (int_ev _) ?_ | refine qP rfl rfl rfl rfl rfl rfl b16 (null_ev) ?_ | refine qP rfl rfl rfl rfl rfl rfl b17 (str_ev _) ?_ | refine qP rfl rfl rfl rfl rfl rfl b18 (node_ev _) ?_ | refine qP rfl rfl rfl rfl rfl rfl b20 (bool_ev _) ?_ | refine qP (d := 14) rfl rfl rfl rfl rfl rfl b14 (l1) ?_ | refine qP (d := 18) rfl rfl rfl rfl rfl rfl b14 (l2) ?_ | refine qP (d := 22) rfl rfl rfl rfl rfl rfl b14 (l3) ?_ | refine qP (d := 26) rfl rfl rfl rfl rfl rfl b14 (l4) ?_ | refine qP rfl rfl rfl rfl rfl rfl b9 (a1) ?_ | refine qP rfl rfl rfl rfl rfl rfl b9 (a2) ?_ | refine qP rfl rfl rfl rfl rfl rfl b9 (a3) ?_ | refine qP rfl rfl rfl rfl rfl rfl b19 (a4) ?_ | refine qP rfl rfl rfl rfl rfl rfl b19 (a5) ?_ | refine qP rfl rfl rfl rfl rfl rfl b7 (a6) ?_ | refine qP rfl rfl rfl rfl rfl rfl b7 (a8) ?_ | refine qP rfl rfl rfl rfl rfl rfl b7 (a9) ?_ | refine qP rfl rfl rfl rfl rfl rfl b11 (a7) ?_ | refine qP rfl rfl rfl rfl rfl rfl b10 (a10) ?_ | (refine qT rfl ?_ ?_; (first | rfl | assumption)) | (refine qU rfl ?_ ?_; (first | rfl | assumption)) | refine qL rfl rfl ?_ | refine qM rfl rfl rfl ?_ | refine qO rfl rfl rfl ?_ | refine qX (b' := true) rfl rfl rfl rfl (by assumption) ?_ | refine qX (b' := false) rfl rfl rfl rfl (by assumption) ?_ | (refine qY rfl rfl rfl rfl ?_ ?_ <;> intro _) | exact (rfl : (_ : D) = _) | exact (rfl : (_ : List D) = _))
end Go.Proofs.YtpjnngfjbcjikaaDoor
