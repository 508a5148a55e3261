/- The reference's evaluation of expressions; The reference's functions and its evaluation; Eval and Test of both texts; The reference's functions; The reference's evaluation; Eval and Test of both texts. Conditions: each part's own, as it says. -/
import Derived.Test.YtaiiailapeffgaaGreatDoorGC
import Derived.Test.YtaiiailapeffgaaGreatDoorEA
import Derived.Test.YtaiiailapeffgaaGreatDoorMC
import Derived.Test.YtaiiailapeffgaaGreatDoorMD
set_option linter.unusedVariables false
set_option linter.unusedSimpArgs false
namespace Go.Proofs.YtaiiailapeffgaaGreatDoor
set_option maxRecDepth 4000
open Go Go.Abs Go.Val Go.RowKit Go.Proofs.Tryz
attribute [local irreducible] go SGo an2 Ev aw0 EvO EvS binOp RGo
theorem du1 (v : V) : nar v = true → Ev E 94 [enc v] (.d (enc v)) := by
 refine cc2 (P := fun v => nar v = true → Ev E 94 [enc v] (.d (enc v))) (fun k n d s l ih hn => ?_) v;obtain ⟨hl, hm⟩ := ck4 hn;simp only [V.l] at hl hm;show Ev E 94 [.agg [.int k, .int n, .int d, .str s, .sl (bp7 l)]] (.d (.agg [.int k, .int n, .int d, .str s, .sl (bp7 l)]));have hle : (bp7 l).length = l.length := bq3 _;refine ye1 func94 ntmps94 fun _ _ _=>?_
 repeat' (first | refine yz ?_ | refine yx ?_ | (refine yy ?_ ?_ <;> intro _) | exact zD | exact zL)
 refine ac7 (α := Fin (l.length + 1)) (fun p => ⟨[(3, bi6 2 (bp7 (l.take p.val))), (1, .ptr 0 0), (2, .ptr 1 0), (7, .d (.sl (bp7 l))), (8, .d (.int (bp7 l).length)), (9, .d (.int p.val))], [.var 24 (.w (.d (.agg [.int k, .int n, .int d, .str s, .sl (bp7 l)]))), dn9] ++ ay5 24 5 (bp7 (l.take p.val))⟩) (fun p => l.length - p.val) ⟨0, by omega⟩ (zle 2) ?_;rintro ⟨i, hi⟩;dsimp only;rcases fk1 i l.length with hlt | hge
 ·have g1 : decide ((i : Int) < ((bp7 l).length : Int)) = true := by rw [hle]; simpa using hlt
  have hx0 := fk0 hlt;generalize l[i] = x at hx0;have hx : (bp7 l)[(i : Int).toNat]? = some (enc x) := bq1 (by rw [fl0]; exact hx0);have hmem := fk4 hx0;have hcx := ih x hmem (ck3 hm x hmem);have hta := ck9 hx0;have hll : (bp7 (l.take i)).length ≤ i := by rw [bq3]; simp; omega
  match ho' : bp7 (l.take i), hll with
  | [], hll =>
   dsimp only [bi6, ay5, List.append, HAppend.hAppend, Append.append]
   repeat' (first | refine yz ?_ | refine yi (enc x) hx ?_ | refine yp b94 hcx ?_ | (refine qS rfl ⟨by simp, do0 _, by first | (show (0 + 1) * 64 ≤ 140737488355328; omega) | (show ((b :: q).length + 1) * 64 ≤ 140737488355328; omega), by first | (show 0 + 1 ≤ 9223372036854775807; omega) | (show (b :: q).length + 1 ≤ 9223372036854775807; omega)⟩ ?_) | refine yx ?_ | (refine yy ?_ ?_ <;> intro _) | exact zD | exact zL)
   refine ac1 ?_;refine ⟨⟨i + 1, by omega⟩, by dsimp only; omega, ?_⟩;dsimp only;rw [hta, ho'];exact (bj9 [0, 1, 3])
  | b :: q, hll =>
   dsimp only [bi6, ay5, List.append, HAppend.hAppend, Append.append]
   repeat' (first | refine yz ?_ | refine yi (enc x) hx ?_ | refine yp b94 hcx ?_ | (refine qS rfl ⟨by simp, do0 _, by first | (show (0 + 1) * 64 ≤ 140737488355328; omega) | (show ((b :: q).length + 1) * 64 ≤ 140737488355328; omega), by first | (show 0 + 1 ≤ 9223372036854775807; omega) | (show (b :: q).length + 1 ≤ 9223372036854775807; omega)⟩ ?_) | refine yx ?_ | (refine yy ?_ ?_ <;> intro _) | exact zD | exact zL)
   refine ac1 ?_;refine ⟨⟨i + 1, by omega⟩, by dsimp only; omega, ?_⟩;dsimp only;rw [hta, ho'];exact (bj9 [0, 1, 4])
 ·have g1 : decide ((i : Int) < ((bp7 l).length : Int)) = false := by rw [hle]; simp; omega
  rw [fn4 hge];refine bi9 rfl rfl (by repeat (first | exact trivial | refine ⟨rfl, ?_⟩)) (by repeat (first | exact trivial | refine ⟨rfl, ?_⟩)) ?_
  repeat' (first | refine yz ?_ | refine yx ?_ | (refine yy ?_ ?_ <;> intro _) | exact zD | exact zL)
def du2 (g : Gr) (env : List Bd) (e : Ex) : V := bif di3 e != 0 then br5 else evF g env e
theorem du3 (g : Gr) (env : List Bd) (e : Ex) : Val.okV (evF g env e) = true := by
 cases e
 simp only [evF];exact dq6 _
structure EvOK (g : Gr) (env : List Bd) (e : Ex) : Prop where
 hg : do2 g
 henv : env.length ≤ 2000000
 hd : dp e ≤ 1000000
 hn : nd e ≤ 1000000
 hok : di3 e = 0 → okE g env e
theorem du4 (g : Gr) (env : List Bd) (e : Ex) (h : EvOK g env e) : Ev E 50 [cv0 g, cy3 e, .sl (env.map cv1)] (.d (enc (du2 g env e))) := by
 obtain ⟨hg, henv, hd, hn, hok⟩ := h;have hc := di4 e hd hn;unfold du2
 cases hz : di3 e != 0 with
 | true =>
  refine ye3 func50 ntmps50 fun _ _ _=>?_
  repeat' (first | refine yz ?_ | refine yp b26 hc ?_ | refine yp b92 bx5 ?_ | refine yx ?_ | (refine yy ?_ ?_ <;> intro _) | exact zD | exact zL)
 | false =>
  have hv := du0 g env hg henv e (hok (by simpa using hz));have hcl := du1 (evF g env e) (dq8 (du3 g env e));refine ye3 func50 ntmps50 fun _ _ _=>?_
  repeat' (first | refine yz ?_ | refine yp b26 hc ?_ | refine bc8 rfl rfl rfl rfl rfl ?_ | refine yc [3] b95 (hv) ?_ | refine yp b94 hcl ?_ | refine yx ?_ | (refine yy ?_ ?_ <;> intro _) | exact zD | exact zL)
end Go.Proofs.YtaiiailapeffgaaGreatDoor
