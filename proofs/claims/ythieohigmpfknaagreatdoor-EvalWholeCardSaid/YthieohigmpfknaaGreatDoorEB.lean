/- The reference's evaluation of expressions; The reference's functions and its evaluation; Eval and Test of both texts; The reference's functions; The reference's evaluation; Eval and Test of both texts. Conditions: each part's own, as it says. -/
import Derived.Test.YthieohigmpfknaaGreatDoorGC
import Derived.Test.YthieohigmpfknaaGreatDoorEA
import Derived.Test.YthieohigmpfknaaGreatDoorMC
import Derived.Test.YthieohigmpfknaaGreatDoorMD
set_option linter.unusedVariables false
set_option linter.unusedSimpArgs false
/- The reference's evaluation of expressions. Conditions: see okE. -/
namespace Go.Proofs.YthieohigmpfknaaGreatDoor
open Go Go.Abs Go.Val Go.RowKit
attribute [local irreducible] go SGo HasBody Ev ExtEv EvO EvS binOp RGo

end Go.Proofs.YthieohigmpfknaaGreatDoor

/- The reference's functions and its evaluation; Eval and Test of both texts. Conditions: see okE. -/
namespace Go.Proofs.YthieohigmpfknaaGreatDoor
open Go Go.Abs Go.Val Go.RowKit
attribute [local irreducible] go SGo HasBody Ev ExtEv EvO EvS binOp RGo


end Go.Proofs.YthieohigmpfknaaGreatDoor

/- The reference's functions. Conditions: see okE. -/
namespace Go.Proofs.YthieohigmpfknaaGreatDoor
open Go Go.Abs Go.Val Go.RowKit
attribute [local irreducible] go SGo HasBody Ev ExtEv EvO EvS binOp RGo


end Go.Proofs.YthieohigmpfknaaGreatDoor

/- The reference's evaluation; Eval and Test of both texts. Conditions: see okE. -/
namespace Go.Proofs.YthieohigmpfknaaGreatDoor
open Go Go.Abs Go.Val Go.RowKit
attribute [local irreducible] go SGo HasBody Ev ExtEv EvO EvS binOp RGo


/-! ## The reference's eval -/
theorem eclone_ev (v : V) : nar v = true → Ev E 34 [enc v] (.d (enc v)) := by
  refine vind (P := fun v => nar v = true → Ev E 34 [enc v] (.d (enc v))) (fun k n d s l ih hn => ?_) v
  obtain ⟨hl, hm⟩ := nar_l hn
  simp only [V.l] at hl hm
  show Ev E 34 [.agg [.int k, .int n, .int d, .str s, .sl (encL l)]] (.d (.agg [.int k, .int n, .int d, .str s, .sl (encL l)]))
  have hle : (encL l).length = l.length := encL_len _
  refine enter1 Tryz.func34 Tryz.ntmps34 rfl rfl fun w0 F0 O => ?_
  repeat' (first | refine zS rfl ?_ | refine qA ?_ | refine qB rfl ?_ | refine qD ?_ | refine qF ?_)
  refine go_loop_ (α := Fin (l.length + 1)) (fun p => ⟨[(3, rowK 2 (encL (l.take p.val))), (1, .ptr 0 0), (2, .ptr 1 0), (7, .d (.sl (encL l))), (8, .d (.int (encL l).length)), (9, .d (.int p.val))], [.var 28 (.w (.d (.agg [.int k, .int n, .int d, .str s, .sl (encL l)]))), zVal] ++ rowO 28 5 (encL (l.take p.val))⟩) (fun p => l.length - p.val) ⟨0, by omega⟩ ((zle 2)) ?_
  rintro ⟨i, hi⟩
  dsimp only
  rcases Nat.lt_or_ge i l.length with hlt | hge
  · have g1 : decide ((i : Int) < ((encL l).length : Int)) = true := by rw [hle]; simpa using hlt
    have hx0 := List.getElem?_eq_getElem hlt
    generalize l[i] = x at hx0
    have hx : (encL l)[(i : Int).toNat]? = some (enc x) := encL_get (by rw [Int.toNat_natCast]; exact hx0)
    have hmem := List.mem_of_getElem? hx0
    have hcx := ih x hmem (narL_mem hm x hmem)
    have hta := encL_take hx0
    have hll : (encL (l.take i)).length ≤ i := by rw [encL_len]; simp; omega
    match ho' : encL (l.take i), hll with
    | [], hll =>
      dsimp only [rowK, rowO, List.append, HAppend.hAppend, Append.append]
      repeat' (first | refine zS rfl ?_ | refine qA ?_ | refine qB rfl ?_ | refine qD ?_ | refine qE ?_ | refine qF ?_ | refine qG ?_ | refine qI (enc x) rfl (guardX_ok rfl) rfl rfl rfl rfl rfl rfl (by first | omega | decide) hx ?_ | refine qP rfl rfl rfl rfl rfl rfl b34 (hcx) ?_ | (refine qS rfl ⟨by simp, enc_one _, by first | (show (0 + 1) * 64 ≤ 140737488355328; omega) | (show ((b :: q).length + 1) * 64 ≤ 140737488355328; omega), by first | (show 0 + 1 ≤ 9223372036854775807; omega) | (show (b :: q).length + 1 ≤ 9223372036854775807; omega)⟩ ?_) | refine zT rfl ?_)
      refine go_stop ?_
      refine ⟨⟨i + 1, by omega⟩, by dsimp only; omega, ?_⟩
      dsimp only
      rw [hta, ho']
      exact (zren [0, 1, 3])
    | b :: q, hll =>
      dsimp only [rowK, rowO, List.append, HAppend.hAppend, Append.append]
      repeat' (first | refine zS rfl ?_ | refine qA ?_ | refine qB rfl ?_ | refine qD ?_ | refine qE ?_ | refine qF ?_ | refine qG ?_ | refine qI (enc x) rfl (guardX_ok rfl) rfl rfl rfl rfl rfl rfl (by first | omega | decide) hx ?_ | refine qP rfl rfl rfl rfl rfl rfl b34 (hcx) ?_ | (refine qS rfl ⟨by simp, enc_one _, by first | (show (0 + 1) * 64 ≤ 140737488355328; omega) | (show ((b :: q).length + 1) * 64 ≤ 140737488355328; omega), by first | (show 0 + 1 ≤ 9223372036854775807; omega) | (show (b :: q).length + 1 ≤ 9223372036854775807; omega)⟩ ?_) | refine zT rfl ?_)
      refine go_stop ?_
      refine ⟨⟨i + 1, by omega⟩, by dsimp only; omega, ?_⟩
      dsimp only
      rw [hta, ho']
      exact (zren [0, 1, 4])
  · have g1 : decide ((i : Int) < ((encL l).length : Int)) = false := by rw [hle]; simp; omega
    rw [List.take_of_length_le hge]
    refine go_rowD rfl rfl (by repeat (first | exact trivial | refine ⟨rfl, ?_⟩)) (by repeat (first | exact trivial | refine ⟨rfl, ?_⟩)) ?_
    repeat' (first | refine zS rfl ?_ | refine qA ?_ | refine qB rfl ?_ | refine qD ?_ | refine qH rfl ?_ | refine zU rfl ?_ | refine qL rfl rfl ?_ | exact zD)
/-- What Eval answers. -/
def valF (g : Gr) (env : List Bd) (e : Ex) : V := bif chkF e != 0 then vNull else evF g env e
theorem evF_ok (g : Gr) (env : List Bd) (e : Ex) : Val.okV (evF g env e) = true := by
  cases e
  simp only [evF]
  exact giv_ok _
/-- What an evaluation asks of its arguments. -/
structure EvOK (g : Gr) (env : List Bd) (e : Ex) : Prop where
  hg : narG g
  henv : env.length ≤ 2000000
  hd : dp e ≤ 1000000
  hn : nd e ≤ 1000000
  hok : chkF e = 0 → okE g env e
theorem Eval_ev (g : Gr) (env : List Bd) (e : Ex) (h : EvOK g env e) : Ev E 11 [encGr g, encE e, .sl (env.map encBd)] (.d (enc (valF g env e))) := by
  obtain ⟨hg, henv, hd, hn, hok⟩ := h
  have hc := check_ev e hd hn
  unfold valF
  cases hz : chkF e != 0 with
  | true =>
    refine enter3 Tryz.func11 Tryz.ntmps11 rfl rfl fun w0 F0 O => ?_
    repeat' (first | refine zS rfl ?_ | refine qA ?_ | refine qB rfl ?_ | refine qD ?_ | refine qP rfl rfl rfl rfl rfl rfl b31 (hc) ?_ | refine qP rfl rfl rfl rfl rfl rfl b32 (null_ev) ?_ | refine zT rfl ?_ | refine qL rfl rfl ?_ | exact zD)
  | false =>
    have hv := value_evS g env hg henv e (hok (by simpa using hz))
    have hcl := eclone_ev (evF g env e) (okV_nar (evF_ok g env e))
    refine enter3 Tryz.func11 Tryz.ntmps11 rfl rfl fun w0 F0 O => ?_
    repeat' (first | refine zS rfl ?_ | refine qA ?_ | refine qB rfl ?_ | refine qD ?_ | refine qE ?_ | refine qP rfl rfl rfl rfl rfl rfl b31 (hc) ?_ | refine go_makeBound rfl rfl rfl rfl rfl ?_ | refine go_callS [3] rfl rfl rfl rfl (FnX.plain _) b35 (hv) rfl rfl rfl rfl rfl ?_ | refine qP rfl rfl rfl rfl rfl rfl b34 (hcl) ?_ | refine zU rfl ?_ | refine qL rfl rfl ?_ | exact zD)
theorem Test_ev (g : Gr) (env : List Bd) (e : Ex) (h : EvOK g env e) : Ev E 14 [encGr g, encE e, .sl (env.map encBd)] (.d (.int (truthF (valF g env e)))) := by
  have h1 := Eval_ev g env e h
  have h2 := Truth_ev ixOK (valF g env e)
  refine enter3 Tryz.func14 Tryz.ntmps14 rfl rfl fun w0 F0 O => ?_
  repeat' (first | refine zS rfl ?_ | refine qA ?_ | refine qB rfl ?_ | refine qD ?_ | refine qP rfl rfl rfl rfl rfl rfl b11 (h1) ?_ | refine qP rfl rfl rfl rfl rfl rfl b44 (h2) ?_ | refine qL rfl rfl ?_ | exact zD)
end Go.Proofs.YthieohigmpfknaaGreatDoor
