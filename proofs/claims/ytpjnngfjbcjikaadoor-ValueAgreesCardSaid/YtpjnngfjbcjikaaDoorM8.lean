/- The library's functions, by the kit's contracts, in the engine's form; and the program's test of a string's characters. Conditions: none but the seat's invariant (the table of powers of ten as laid). -/
import Derived.Test.YtpjnngfjbcjikaaDoorM7
import Derived.Test.YtpjnngfjbcjikaaDoorShelf
import Derived.Lib.ItoaLen
import Derived.Lib.AppendIntMem
namespace Go.Proofs.YtpjnngfjbcjikaaDoor
open Go Go.Abs Go.Val Go.RowKit

theorem of_lib {f : FuncId} {ds : List D} {r : Value} (hok : Go.Abs.okV r = true) (h : ∀ (w : World) (F : Nat → Prop) (vs : List Value), E.GI w F → vs.length = ds.length → (∀ (i : Nat) d v, ds[i]? = some d → vs[i]? = some v → Rd w F d v) →
    Calls E.P f vs.toArray w fun e w' => e = .returned r ∧ Below w.heap.size w w') : Ev E f ds (.d (.imm r)) := by
  intro w F vs hF hG hl hr
  refine (h w F vs hG hl hr).mono ?_
  rintro e w' ⟨rfl, hb⟩
  exact ⟨r, F, rfl, Ext.of_below hb hF, .imm r hok⟩
theorem of_lib1 {f : FuncId} {a r : Value} (hok : Go.Abs.okV r = true) (h : ∀ (w : World) (F : Nat → Prop), E.GI w F → Go.Abs.okV a = true → Calls E.P f #[a] w fun e w' => e = .returned r ∧ Below w.heap.size w w') : Ev E f [.imm a] (.d (.imm r)) := by
  refine of_lib hok fun w F vs hG hl hr => ?_
  match vs, hl with
  | [v], _ =>
    obtain ⟨rfl, hk⟩ := Rd.imm_inv (hr 0 _ v rfl rfl)
    exact h w F hG hk
theorem of_lib2 {f : FuncId} {a b r : Value} (hok : Go.Abs.okV r = true) (h : ∀ (w : World) (F : Nat → Prop), E.GI w F → Go.Abs.okV a = true → Go.Abs.okV b = true → Calls E.P f #[a, b] w fun e w' => e = .returned r ∧ Below w.heap.size w w') : Ev E f [.imm a, .imm b] (.d (.imm r)) := by
  refine of_lib hok fun w F vs hG hl hr => ?_
  match vs, hl with
  | [v, u], _ =>
    obtain ⟨rfl, hk⟩ := Rd.imm_inv (hr 0 _ v rfl rfl)
    obtain ⟨rfl, hk'⟩ := Rd.imm_inv (hr 1 _ u rfl rfl)
    exact h w F hG hk hk'
theorem itoa_ev (n : Int) : Ev E 29 [.int n] (.d (.str ⟨(Lib.itoa n).toArray⟩)) := Ev.fit fun hfit => by
  have hn := (hfit (.int n) (by simp)).int
  simp only [inR] at hn
  have hlen := Lib.itoa_length_le n hn.1 hn.2
  refine of_lib1 (by simp only [Go.Abs.okV, decide_eq_true_eq]; show (Lib.itoa n).toArray.size ≤ 9223372036854775807; simp only [List.size_toArray]; omega) fun w F hG _ => ?_
  refine (Tryd.strconv_Itoa n hn.1 hn.2 w hG.2.1.2).mono ?_
  rintro e w' ⟨rfl, k, os, rfl⟩
  exact ⟨rfl, Lib.below_grow _ w (Nat.le_refl _) k os⟩
theorem formatBool_ev (b : Bool) : Ev E 28 [.bool b] (.d (.str ⟨(Lib.formatBool b).toArray⟩)) := by
  refine of_lib1 (by cases b <;> decide) fun w F _ _ => ?_
  refine (Tryd.strconv_FormatBool b w).mono ?_
  rintro e w' ⟨rfl, rfl⟩
  exact ⟨rfl, Below.refl _ _⟩
theorem compare_ev (x y : Int) : Ev E 23 [.int x, .int y] (.d (.int (Lib.compareInt x y))) := by
  refine of_lib2 (inR_ok (k := .i64) (by unfold Lib.compareInt; simp only [inR]; split <;> (try split) <;> omega)) fun w F _ _ _ => ?_
  refine (Tryd.cmp_Compare_int x y w).mono ?_
  rintro e w' ⟨rfl, rfl⟩
  exact ⟨rfl, Below.refl _ _⟩
end Go.Proofs.YtpjnngfjbcjikaaDoor
