/- Folding of expressions by the program. Conditions: the expression is checked, its constants are small. -/
import Derived.Test.YtaiiailapeffgaaGreatDoorGC
import Derived.Test.YtaiiailapeffgaaGreatDoorUA
set_option linter.unusedVariables false
set_option linter.unusedSimpArgs false
namespace Go.Proofs.YtaiiailapeffgaaGreatDoor
set_option maxRecDepth 4000
open Go Go.Abs Go.Val Go.RowKit Go.Proofs.Tryz
attribute [local irreducible] go SGo an2 Ev aw0 EvO EvS RGo du2 eb3
theorem eg0 {e : Ex} (h : di3 e = 0) : shp e.op e.ks.length := dy2 (dy1 (ea6 h).2.2)
theorem eg1 {e : Ex} (hc : di3 e = 0) (hE : cE 1048576 e) : EvOK gZ [] e := dz8 (by decide) (by decide) (fun b hb => by cases hb) hE (by have := (ea6 hc).2.1; omega)
theorem eg2 {op : Int} (h : (op == 18) = false ∧ (op == 19) = false) (v : V) (nm : ByteArray) (ds : Bool) (ks : List Ex) : eb2 op v nm ds ks = .mk op v nm ds ks := by
 rcases eb6 op v nm ds ks with h1 | ⟨a, b, -, ho, -⟩
 ·exact h1
 ·rcases ho with rfl | rfl
  ·exact absurd h.1 (by decide)
  ·exact absurd h.2 (by decide)
theorem eg3 {ks : List Ex} {i : Nat} {x : Ex} (h : ks[i]? = some x) : (cy2 ((ks.take i).map eb3 ++ ks.drop i)).set (i : Int).toNat (ar1 (cy3 x) 0 (cy3 (eb3 x))) = cy2 ((ks.take (i + 1)).map eb3 ++ ks.drop (i + 1)) := by
 have hlt := (fk2.1 h).1;have hs : ar1 (cy3 x) 0 (cy3 (eb3 x)) = cy3 (eb3 x) := rfl;rw [hs, fl0, cy4, cy4, bz3 h, fp0, h];rw [fo1, fo1, fo1, fo1, fl5];have hl : (List.map cy3 (List.map eb3 (List.take i ks))).length = i := by simp; omega
 rw [List.set_append, if_neg (by omega), hl, Nat.sub_self];simp
theorem eg4 {ks : List Ex} {i : Nat} {x : Ex} (h : ks[i]? = some x) : (cy2 ((ks.take i).map eb3 ++ ks.drop i))[(i : Int).toNat]? = some (cy3 x) := by
 have hlt := (fk2.1 h).1;rw [fl0, cy4, bz3 h, fo1];have hl : (List.map cy3 (List.map eb3 (List.take i ks))).length = i := by simp; omega
 rw [fl6 (by omega), hl, Nat.sub_self];rfl
set_option maxHeartbeats 4000000 in
theorem eg5 (e : Ex) : di3 e = 0 → cE 1048576 e → Ev E 28 [cy3 e] (.d (cy3 (eb3 e))) := by
 refine cz2 (P := fun e => di3 e = 0 → cE 1048576 e → Ev E 28 [cy3 e] (.d (cy3 (eb3 e)))) (fun op v nm ds ks ih hc hE => ?_) e;have hks := ec1 hc;have hshp := eg0 hc;have hEk : ∀ x ∈ ks, cE 1048576 x := dv6 hE.2;have hev := du4 gZ [] (.mk op v nm ds ks) (eg1 hc hE);have h1 := ed6 (.mk op v nm ds ks);have h2 := ed7 (du2 gZ [] (.mk op v nm ds ks));have hfx : ∀ x ∈ ks, Ev E 28 [cy3 x] (.d (cy3 (eb3 x))) := fun x hx => ih x hx (hks x hx) (hEk x hx)
 have hnl : ks.length ≤ 300 := by
  have h := (ea6 hc).2.1;rw [dc9] at h;have h : ndL ks + 1 ≤ 300 := h;have := ef0 ks;omega
 have hf := ec2 op v nm ds ks;clear ih hks hEk hE hc;generalize du2 gZ [] (.mk op v nm ds ks) = w at *;have hle : ∀ i, (cy2 ((ks.take i).map eb3 ++ ks.drop i)).length = ks.length := fun i => by rw [cy9]; simp; omega
 have hlen : (cy2 ks).length = ks.length := cy9 ks;obtain ⟨vk, vn, vd, vS, vl⟩ := v;have h1 : Ev E 49 [.agg [.int op, .int vk, .int vn, .int vd, .str vS, .sl (bp7 vl), .str nm, .bool ds, .sl (cy2 ks)]] (.d (.bool (ea2 (.mk op (.mk vk vn vd vS vl) nm ds ks)))) := h1;have hev : Ev E 50 [cv0 gZ, .agg [.int op, .int vk, .int vn, .int vd, .str vS, .sl (bp7 vl), .str nm, .bool ds, .sl (cy2 ks)], .sl (([] : List Bd).map cv1)] (.d (enc w)) := hev;have hsh : (Ex.mk op (.mk vk vn vd vS vl) nm ds ks).op = op ∧ (Ex.mk op (.mk vk vn vd vS vl) nm ds ks).ks = ks := ⟨rfl, rfl⟩;rw [hsh.1, hsh.2] at hshp;show Ev E 28 [.agg [.int op, .int vk, .int vn, .int vd, .str vS, .sl (bp7 vl), .str nm, .bool ds, .sl (cy2 ks)]] (.d (cy3 (eb3 (.mk op (.mk vk vn vd vS vl) nm ds ks))))
 cases hb : ea2 (.mk op (.mk vk vn vd vS vl) nm ds ks) && ea8 w with
 | true =>
  rw [hb, cond_true] at hf;rw [fk3] at hb;rw [hb.1] at h1;rw [hb.2] at h2;rw [hf];refine ye1 func28 ntmps28 fun _ _ _=>?_
  repeat' (first | refine yz ?_ | refine yp b49 h1 ?_ | refine yp b50 hev ?_ | refine yp b51 h2 ?_ | exact zD | fail)
 | false =>
  rw [hb, cond_false] at hf
  have go2 : ea2 (.mk op (.mk vk vn vd vS vl) nm ds ks) = false ∨ (ea2 (.mk op (.mk vk vn vd vS vl) nm ds ks) = true ∧ ea8 w = false) := by
   cases hcl : ea2 (.mk op (.mk vk vn vd vS vl) nm ds ks) with
   | false => exact .inl rfl
   | true => rw [hcl, fm3] at hb; exact .inr ⟨rfl, hb⟩
  generalize eb3 (.mk op (.mk vk vn vd vS vl) nm ds ks) = FE at *;clear hb hsh;rcases go2 with hcl | ⟨hcl, hw⟩
  rotate_left
  ·rw [hcl] at h1;rw [hw] at h2;refine ye1 func28 ntmps28 fun _ _ _=>?_
   repeat' (first | refine yz ?_ | refine yp b49 h1 ?_ | refine yp b50 hev ?_ | refine yp b51 h2 ?_ | fail)
   by_cases h0 : ks = []
   ·subst h0
    have hop : (op == 18) = false ∧ (op == 19) = false := by
     have h3 : (7 ≤ op ∧ op ≤ 20) → ([] : List Ex).length = 2 := hshp.2.2.1;simp only [beq_eq_false_iff_ne];constructor
     ·intro h; have := h3 (by omega); simp at this
     ·intro h; have := h3 (by omega); simp at this
    rw [eg2 hop] at hf;rw [hf];obtain ⟨c1, c2⟩ := hop
    repeat' (first | refine yz ?_ | refine yp b48 ef1 ?_ | fail)
    refine ac7 (α := Unit) (fun _ => ⟨[(1, .ptr 0 0), (2, .ptr 1 0), (4, .d (.sl [])), (20, .d (.sl [])), (21, .d (.int 0)), (22, .d (.int 0))], [oXU (.agg [.int op, .int vk, .int vn, .int vd, .str vS, .sl (bp7 vl), .str nm, .bool ds, .sl []]), zXU]⟩) (fun _ => 0) () (zle 2) ?_;rintro -;have g1 : decide ((0 : Int) < 0) = false := rfl
    repeat' (first | refine yz ?_ | exact zD | fail)
   ·have hcl2 := ef2 ks h0 (by omega)
    repeat' (first | refine yz ?_ | refine ay9 rfl rfl rfl rfl rfl rfl b48 (hcl2) ?_ | fail)
    refine ac7 (α := Fin (ks.length + 1)) (fun p => ⟨[(1, .ptr 0 0), (2, .ptr 1 0), (4, .own 2), (20, .own 2), (21, .d (.int (cy2 ks).length)), (22, .d (.int p.val))], [oXU (.agg [.int op, .int vk, .int vn, .int vd, .str vS, .sl (bp7 vl), .str nm, .bool ds, .sl (cy2 ks)]), zXU, rXU (cy2 ((ks.take p.val).map eb3 ++ ks.drop p.val))]⟩) (fun p => ks.length - p.val) ⟨0, by omega⟩ (by
     dsimp only;rw [List.take_zero, fm9, fr2, fq4];exact (bj9 [0, 1, 3])) ?_
    rintro ⟨i, hi⟩;dsimp only;have hRl := hle i;rcases fk1 i ks.length with hlt | hge
    ·have g1 : decide ((i : Int) < ((cy2 ks).length : Int)) = true := by rw [hlen]; simpa using hlt
     have hx0 := fk0 hlt;generalize ks[i] = x at hx0;have hx := eg4 hx0;have hset := eg3 hx0;have hcx := hfx x (fk4 hx0)
     repeat' (first | refine yz ?_ | refine qW (cy3 x) rfl rfl rfl rfl rfl rfl hx rfl ?_ | refine yp b28 hcx ?_ | refine qZ (cy3 x) rfl rfl rfl rfl rfl rfl hx rfl rfl rfl ?_ | fail)
     refine ac1 ?_;refine ⟨⟨i + 1, by omega⟩, by dsimp only; omega, ?_⟩;show Le _ ⟨_, [_, _, rXU ((cy2 ((ks.take i).map eb3 ++ ks.drop i)).set (i : Int).toNat (ar1 (cy3 x) 0 (cy3 (eb3 x)))), _]⟩ _;rw [hset];exact (zle 3)
    ·have g1 : decide ((i : Int) < ((cy2 ks).length : Int)) = false := by rw [hlen]; simp; omega
     rw [show (ks.take i).map eb3 ++ ks.drop i = ks.map eb3 by rw [fn4 hge, fl9 hge, fq1]];refine au6 2 rfl ?_;clear hRl hle hfx hcl2 hev h1 h2
     by_cases hop : (op == 18) = false ∧ (op == 19) = false
     ·rw [eg2 hop] at hf;rw [hf];obtain ⟨c1, c2⟩ := hop;show go _ _ _ (an6 _ _ (.d (.agg [.int op, .int vk, .int vn, .int vd, .str vS, .sl (bp7 vl), .str nm, .bool ds, .sl (cy2 (ks.map eb3))])))
      repeat' (first | refine yz ?_ | exact zD | fail)
     ·have ho : op = 18 ∨ op = 19 := by
       simp only [beq_eq_false_iff_ne] at hop;omega
      have h2l : ks.length = 2 := hshp.2.2.1 (by omega)
      match ks, h2l with
      | [a, b], _ =>
       rw [show ([a, b].map eb3) = [eb3 a, eb3 b] from rfl] at hf ⊢;generalize eb3 a = fa at *;generalize eb3 b = fb at *;have k0 : (cy2 [fa, fb])[((0 : Int)).toNat]? = some (cy3 fa) := rfl;have k1 : (cy2 [fa, fb])[((1 : Int)).toNat]? = some (cy3 fb) := rfl;have b1 := ed8 fb;have b2 := ed8 fa;rcases ho with rfl | rfl
       ·have i1 := ed9 fa 1;have i2 := ed9 fb 1;have hf2 : FE = bif isX fa 1 && ea9 fb.op then fb else bif isX fb 1 && ea9 fa.op then fa else .mk 18 (.mk vk vn vd vS vl) nm ds [fa, fb] := hf;clear hf
        cases x1 : isX fa 1 <;> cases x2 : ea9 fb.op <;> cases x3 : isX fb 1 <;> cases x4 : ea9 fa.op
        all_goals
         simp only [x1, x2, x3, x4, fq7, fp8, fn3, fm3, cond_true, cond_false] at hf2 i1 i2 b1 b2;rw [hf2]
         repeat' (first | refine yz ?_ | refine yi (cy3 fa) k0 ?_ | refine yi (cy3 fb) k1 ?_ | refine yp b52 i1 ?_ | refine yp b52 i2 ?_ | refine yp b53 b1 ?_ | refine yp b53 b2 ?_ | exact zD | fail)
       ·have i1 := ed9 fa 0;have i2 := ed9 fb 0;have hf2 : FE = bif isX fa 0 && ea9 fb.op then fb else bif isX fb 0 && ea9 fa.op then fa else .mk 19 (.mk vk vn vd vS vl) nm ds [fa, fb] := hf;clear hf
        cases x1 : isX fa 0 <;> cases x2 : ea9 fb.op <;> cases x3 : isX fb 0 <;> cases x4 : ea9 fa.op
        all_goals
         simp only [x1, x2, x3, x4, fq7, fp8, fn3, fm3, cond_true, cond_false] at hf2 i1 i2 b1 b2;rw [hf2]
         repeat' (first | refine yz ?_ | refine yi (cy3 fa) k0 ?_ | refine yi (cy3 fb) k1 ?_ | refine yp b52 i1 ?_ | refine yp b52 i2 ?_ | refine yp b53 b1 ?_ | refine yp b53 b2 ?_ | exact zD | fail)
  ·rw [hcl] at h1;refine ye1 func28 ntmps28 fun _ _ _=>?_
   repeat' (first | refine yz ?_ | refine yp b49 h1 ?_ | fail)
   by_cases h0 : ks = []
   ·subst h0
    have hop : (op == 18) = false ∧ (op == 19) = false := by
     have h3 : (7 ≤ op ∧ op ≤ 20) → ([] : List Ex).length = 2 := hshp.2.2.1;simp only [beq_eq_false_iff_ne];constructor
     ·intro h; have := h3 (by omega); simp at this
     ·intro h; have := h3 (by omega); simp at this
    rw [eg2 hop] at hf;rw [hf];obtain ⟨c1, c2⟩ := hop
    repeat' (first | refine yz ?_ | refine yp b48 ef1 ?_ | fail)
    refine ac7 (α := Unit) (fun _ => ⟨[(1, .ptr 0 0), (2, .ptr 1 0), (4, .d (.sl [])), (20, .d (.sl [])), (21, .d (.int 0)), (22, .d (.int 0))], [oXU (.agg [.int op, .int vk, .int vn, .int vd, .str vS, .sl (bp7 vl), .str nm, .bool ds, .sl []]), zXU]⟩) (fun _ => 0) () (zle 2) ?_;rintro -;have g1 : decide ((0 : Int) < 0) = false := rfl
    repeat' (first | refine yz ?_ | exact zD | fail)
   ·have hcl2 := ef2 ks h0 (by omega)
    repeat' (first | refine yz ?_ | refine ay9 rfl rfl rfl rfl rfl rfl b48 (hcl2) ?_ | fail)
    refine ac7 (α := Fin (ks.length + 1)) (fun p => ⟨[(1, .ptr 0 0), (2, .ptr 1 0), (4, .own 2), (20, .own 2), (21, .d (.int (cy2 ks).length)), (22, .d (.int p.val))], [oXU (.agg [.int op, .int vk, .int vn, .int vd, .str vS, .sl (bp7 vl), .str nm, .bool ds, .sl (cy2 ks)]), zXU, rXU (cy2 ((ks.take p.val).map eb3 ++ ks.drop p.val))]⟩) (fun p => ks.length - p.val) ⟨0, by omega⟩ (by
     dsimp only;rw [List.take_zero, fm9, fr2, fq4];exact (zle 3)) ?_
    rintro ⟨i, hi⟩;dsimp only;have hRl := hle i;rcases fk1 i ks.length with hlt | hge
    ·have g1 : decide ((i : Int) < ((cy2 ks).length : Int)) = true := by rw [hlen]; simpa using hlt
     have hx0 := fk0 hlt;generalize ks[i] = x at hx0;have hx := eg4 hx0;have hset := eg3 hx0;have hcx := hfx x (fk4 hx0)
     repeat' (first | refine yz ?_ | refine qW (cy3 x) rfl rfl rfl rfl rfl rfl hx rfl ?_ | refine yp b28 hcx ?_ | refine qZ (cy3 x) rfl rfl rfl rfl rfl rfl hx rfl rfl rfl ?_ | fail)
     refine ac1 ?_;refine ⟨⟨i + 1, by omega⟩, by dsimp only; omega, ?_⟩;show Le _ ⟨_, [_, _, rXU ((cy2 ((ks.take i).map eb3 ++ ks.drop i)).set (i : Int).toNat (ar1 (cy3 x) 0 (cy3 (eb3 x)))), _]⟩ _;rw [hset];exact (zle 3)
    ·have g1 : decide ((i : Int) < ((cy2 ks).length : Int)) = false := by rw [hlen]; simp; omega
     rw [show (ks.take i).map eb3 ++ ks.drop i = ks.map eb3 by rw [fn4 hge, fl9 hge, fq1]];refine au6 2 rfl ?_;clear hRl hle hfx hcl2 hev h1 h2
     by_cases hop : (op == 18) = false ∧ (op == 19) = false
     ·rw [eg2 hop] at hf;rw [hf];obtain ⟨c1, c2⟩ := hop;show go _ _ _ (an6 _ _ (.d (.agg [.int op, .int vk, .int vn, .int vd, .str vS, .sl (bp7 vl), .str nm, .bool ds, .sl (cy2 (ks.map eb3))])))
      repeat' (first | refine yz ?_ | exact zD | fail)
     ·have ho : op = 18 ∨ op = 19 := by
       simp only [beq_eq_false_iff_ne] at hop;omega
      have h2l : ks.length = 2 := hshp.2.2.1 (by omega)
      match ks, h2l with
      | [a, b], _ =>
       rw [show ([a, b].map eb3) = [eb3 a, eb3 b] from rfl] at hf ⊢;generalize eb3 a = fa at *;generalize eb3 b = fb at *;have k0 : (cy2 [fa, fb])[((0 : Int)).toNat]? = some (cy3 fa) := rfl;have k1 : (cy2 [fa, fb])[((1 : Int)).toNat]? = some (cy3 fb) := rfl;have b1 := ed8 fb;have b2 := ed8 fa;rcases ho with rfl | rfl
       ·have i1 := ed9 fa 1;have i2 := ed9 fb 1;have hf2 : FE = bif isX fa 1 && ea9 fb.op then fb else bif isX fb 1 && ea9 fa.op then fa else .mk 18 (.mk vk vn vd vS vl) nm ds [fa, fb] := hf;clear hf
        cases x1 : isX fa 1 <;> cases x2 : ea9 fb.op <;> cases x3 : isX fb 1 <;> cases x4 : ea9 fa.op
        all_goals
         simp only [x1, x2, x3, x4, fq7, fp8, fn3, fm3, cond_true, cond_false] at hf2 i1 i2 b1 b2;rw [hf2]
         repeat' (first | refine yz ?_ | refine yi (cy3 fa) k0 ?_ | refine yi (cy3 fb) k1 ?_ | refine yp b52 i1 ?_ | refine yp b52 i2 ?_ | refine yp b53 b1 ?_ | refine yp b53 b2 ?_ | exact zD | fail)
       ·have i1 := ed9 fa 0;have i2 := ed9 fb 0;have hf2 : FE = bif isX fa 0 && ea9 fb.op then fb else bif isX fb 0 && ea9 fa.op then fa else .mk 19 (.mk vk vn vd vS vl) nm ds [fa, fb] := hf;clear hf
        cases x1 : isX fa 0 <;> cases x2 : ea9 fb.op <;> cases x3 : isX fb 0 <;> cases x4 : ea9 fa.op
        all_goals
         simp only [x1, x2, x3, x4, fq7, fp8, fn3, fm3, cond_true, cond_false] at hf2 i1 i2 b1 b2;rw [hf2]
         repeat' (first | refine yz ?_ | refine yi (cy3 fa) k0 ?_ | refine yi (cy3 fb) k1 ?_ | refine yp b52 i1 ?_ | refine yp b52 i2 ?_ | refine yp b53 b1 ?_ | refine yp b53 b2 ?_ | exact zD | fail)
theorem eg6 (e : Ex) (h1 : nd e ≤ 1000000) (h2 : dp e ≤ 1000000) (hE : cE 1048576 e) : Ev E 15 [cy3 e] (.d (cy3 (bif di3 e != 0 then e else eb3 e))) := by
 have hk := di4 e h2 h1
 cases hc : di3 e != 0 with
 | true =>
  rw [cond_true];have hcl := ef3 e (by omega);generalize di3 e = z at *;refine ye1 func15 ntmps15 fun _ _ _=>?_
  repeat' (first | refine yz ?_ | refine yp b26 hk ?_ | refine yp b27 hcl ?_ | exact zD | fail)
 | false =>
  rw [cond_false];have h0 : di3 e = 0 := by simpa using hc
  have hf := eg5 e h0 hE;rw [h0] at hk;generalize eb3 e = fe at *;refine ye1 func15 ntmps15 fun _ _ _=>?_
  repeat' (first | refine yz ?_ | refine yp b26 hk ?_ | refine yp b28 hf ?_ | exact zD | fail)
end Go.Proofs.YtaiiailapeffgaaGreatDoor
