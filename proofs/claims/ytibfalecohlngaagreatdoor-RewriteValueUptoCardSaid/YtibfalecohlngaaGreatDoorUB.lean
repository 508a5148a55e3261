/- Folding of expressions by the program; Folding of expressions, by the specification. Conditions: each part's own, as it says. -/
import Derived.Test.YtibfalecohlngaaGreatDoorGC
import Derived.Test.YtibfalecohlngaaGreatDoorUA
set_option linter.unusedVariables false
set_option linter.unusedSimpArgs false
namespace Go.Proofs.YtibfalecohlngaaGreatDoor
set_option maxRecDepth 4000
open Go Go.Abs Go.Val Go.RowKit Go.Proofs.Tryz
attribute [local irreducible] go SGo an2 Ev aw0 EvO EvS RGo ed3 ep0
theorem ex1 {e : Ex} (h : dq0 e = 0) : shp e.op e.ks.length := eh7 (eh6 (eo3 h).2.2)
theorem ex2 {e : Ex} (hc : dq0 e = 0) (hE : cE 1048576 e) : ed6 gZ [] e := ej5 (by decide) (by decide) (fun b hb => by cases hb) hE (by have := (eo3 hc).2.1; omega)
theorem ex3 {op : Int} (h : (op == 18) = false ∧ (op == 19) = false) (v : V) (nm : ByteArray) (ds : Bool) (ks : List Ex) : eo9 op v nm ds ks = .mk op v nm ds ks := by
 rcases ep3 op v nm ds ks with h1 | ⟨a, b, -, ho, -⟩
 ·exact h1
 ·rcases ho with rfl | rfl
  ·exact absurd h.1 (by decide)
  ·exact absurd h.2 (by decide)
theorem ex4 {ks : List Ex} {i : Nat} {x : Ex} (h : ks[i]? = some x) : (df9 ((ks.take i).map ep0 ++ ks.drop i)).set (i : Int).toNat (ar1 (dg0 x) 0 (dg0 (ep0 x))) = df9 ((ks.take (i + 1)).map ep0 ++ ks.drop (i + 1)) := by
 have hlt := (fg8.1 h).1;have hs : ar1 (dg0 x) 0 (dg0 (ep0 x)) = dg0 (ep0 x) := rfl;rw [hs, fh0, dg1, dg1, cd5 h, List.take_add_one, h];rw [fm7, fm7, fm7, fm7, fj0];have hl : (List.map dg0 (List.map ep0 (List.take i ks))).length = i := by simp; omega
 rw [List.set_append, if_neg (by omega), hl, Nat.sub_self];simp
theorem ex5 {ks : List Ex} {i : Nat} {x : Ex} (h : ks[i]? = some x) : (df9 ((ks.take i).map ep0 ++ ks.drop i))[(i : Int).toNat]? = some (dg0 x) := by
 have hlt := (fg8.1 h).1;rw [fh0, dg1, cd5 h, fm7];have hl : (List.map dg0 (List.map ep0 (List.take i ks))).length = i := by simp; omega
 rw [fi2 (by omega), hl, Nat.sub_self];rfl
set_option maxHeartbeats 4000000 in
theorem ex6 (e : Ex) : dq0 e = 0 → cE 1048576 e → Ev E 27 [dg0 e] (.d (dg0 (ep0 e))) := by
 refine dg9 (P := fun e => dq0 e = 0 → cE 1048576 e → Ev E 27 [dg0 e] (.d (dg0 (ep0 e)))) (fun op v nm ds ks ih hc hE => ?_) e;have hks := ep8 hc;have hshp := ex1 hc;have hEk : ∀ x ∈ ks, cE 1048576 x := ef1 hE.2;have hev := ed7 gZ [] (.mk op v nm ds ks) (ex2 hc hE);have h1 := eu0 (.mk op v nm ds ks);have h2 := eu3 (ed3 gZ [] (.mk op v nm ds ks));have hfx : ∀ x ∈ ks, Ev E 27 [dg0 x] (.d (dg0 (ep0 x))) := fun x hx => ih x hx (hks x hx) (hEk x hx)
 have hnl : ks.length ≤ 300 := by
  have h := (eo3 hc).2.1;rw [dk6] at h;have h : ndL ks + 1 ≤ 300 := h;have := ew0 ks;omega
 have hf := er8 op v nm ds ks;clear ih hks hEk hE hc;generalize ed3 gZ [] (.mk op v nm ds ks) = w at *;have hle : ∀ i, (df9 ((ks.take i).map ep0 ++ ks.drop i)).length = ks.length := fun i => by rw [dg6]; simp; omega
 have hlen : (df9 ks).length = ks.length := dg6 ks;obtain ⟨vk, vn, vd, vS, vl⟩ := v;have h1 : Ev E 50 [.agg [.int op, .int vk, .int vn, .int vd, .str vS, .sl (bo1 vl), .str nm, .bool ds, .sl (df9 ks)]] (.d (.bool (el1 (.mk op (.mk vk vn vd vS vl) nm ds ks)))) := h1;have hev : Ev E 51 [dc3 gZ, .agg [.int op, .int vk, .int vn, .int vd, .str vS, .sl (bo1 vl), .str nm, .bool ds, .sl (df9 ks)], .sl (([] : List Bd).map dc4)] (.d (enc w)) := hev;have hsh : (Ex.mk op (.mk vk vn vd vS vl) nm ds ks).op = op ∧ (Ex.mk op (.mk vk vn vd vS vl) nm ds ks).ks = ks := ⟨rfl, rfl⟩;rw [hsh.1, hsh.2] at hshp;show Ev E 27 [.agg [.int op, .int vk, .int vn, .int vd, .str vS, .sl (bo1 vl), .str nm, .bool ds, .sl (df9 ks)]] (.d (dg0 (ep0 (.mk op (.mk vk vn vd vS vl) nm ds ks))))
 cases hb : el1 (.mk op (.mk vk vn vd vS vl) nm ds ks) && eo5 w with
 | true =>
  rw [hb, cond_true] at hf;rw [fg6] at hb;rw [hb.1] at h1;rw [hb.2] at h2;rw [hf];refine ye1 func27 ntmps27 fun _ _ _=>?_
  repeat' (first | refine yz ?_ | refine yp b50 h1 ?_ | refine yp b51 hev ?_ | refine yp b52 h2 ?_ | exact zD)
 | false =>
  rw [hb, cond_false] at hf
  have go2 : el1 (.mk op (.mk vk vn vd vS vl) nm ds ks) = false ∨ (el1 (.mk op (.mk vk vn vd vS vl) nm ds ks) = true ∧ eo5 w = false) := by
   cases hcl : el1 (.mk op (.mk vk vn vd vS vl) nm ds ks) with
   | false => exact .inl rfl
   | true => rw [hcl, fh3] at hb; exact .inr ⟨rfl, hb⟩
  generalize ep0 (.mk op (.mk vk vn vd vS vl) nm ds ks) = FE at *;clear hb hsh;rcases go2 with hcl | ⟨hcl, hw⟩
  rotate_left
  ·rw [hcl] at h1;rw [hw] at h2;refine ye1 func27 ntmps27 fun _ _ _=>?_
   repeat' (first | refine yz ?_ | refine yp b50 h1 ?_ | refine yp b51 hev ?_ | refine yp b52 h2 ?_ | fail)
   by_cases h0 : ks = []
   ·subst h0
    have hop : (op == 18) = false ∧ (op == 19) = false := by
     have h3 : (7 ≤ op ∧ op ≤ 20) → ([] : List Ex).length = 2 := hshp.2.2.1;simp only [beq_eq_false_iff_ne];constructor
     ·intro h; have := h3 (by omega); simp at this
     ·intro h; have := h3 (by omega); simp at this
    rw [ex3 hop] at hf;rw [hf];obtain ⟨c1, c2⟩ := hop
    repeat' (first | refine yz ?_ | refine yp b49 ew1 ?_ | fail)
    refine ac7 (α := Unit) (fun _ => ⟨[(1, .ptr 0 0), (2, .ptr 1 0), (4, .d (.sl [])), (20, .d (.sl [])), (21, .d (.int 0)), (22, .d (.int 0))], [oXU (.agg [.int op, .int vk, .int vn, .int vd, .str vS, .sl (bo1 vl), .str nm, .bool ds, .sl []]), zXU]⟩) (fun _ => 0) () (zle 2) ?_;rintro -;have g1 : decide ((0 : Int) < 0) = false := rfl
    repeat' (first | refine yz ?_ | exact zD)
   ·have hcl2 := ew2 ks h0 (by omega)
    repeat' (first | refine yz ?_ | refine ay9 rfl rfl rfl rfl rfl rfl b49 (hcl2) ?_)
    refine ac7 (α := Fin (ks.length + 1)) (fun p => ⟨[(1, .ptr 0 0), (2, .ptr 1 0), (4, .own 2), (20, .own 2), (21, .d (.int (df9 ks).length)), (22, .d (.int p.val))], [oXU (.agg [.int op, .int vk, .int vn, .int vd, .str vS, .sl (bo1 vl), .str nm, .bool ds, .sl (df9 ks)]), zXU, rXU (df9 ((ks.take p.val).map ep0 ++ ks.drop p.val))]⟩) (fun p => ks.length - p.val) ⟨0, by omega⟩ (by
     dsimp only;rw [List.take_zero, fn5, List.nil_append, fm6];exact (bj8 [0, 1, 3])) ?_
    rintro ⟨i, hi⟩;dsimp only;have hRl := hle i;rcases fg7 i ks.length with hlt | hge
    ·have g1 : decide ((i : Int) < ((df9 ks).length : Int)) = true := by rw [hlen]; simpa using hlt
     have hx0 := fg5 hlt;generalize ks[i] = x at hx0;have hx := ex5 hx0;have hset := ex4 hx0;have hcx := hfx x (fg9 hx0)
     repeat' (first | refine yz ?_ | refine qW (dg0 x) rfl rfl rfl rfl rfl rfl hx rfl ?_ | refine yp b27 hcx ?_ | refine qZ (dg0 x) rfl rfl rfl rfl rfl rfl hx rfl rfl rfl ?_)
     refine ac1 ?_;refine ⟨⟨i + 1, by omega⟩, by dsimp only; omega, ?_⟩;show Le _ ⟨_, [_, _, rXU ((df9 ((ks.take i).map ep0 ++ ks.drop i)).set (i : Int).toNat (ar1 (dg0 x) 0 (dg0 (ep0 x)))), _]⟩ _;rw [hset];exact (zle 3)
    ·have g1 : decide ((i : Int) < ((df9 ks).length : Int)) = false := by rw [hlen]; simp; omega
     rw [show (ks.take i).map ep0 ++ ks.drop i = ks.map ep0 by rw [fk9 hge, fh6 hge, fn1]];refine au6 2 rfl ?_;clear hRl hle hfx hcl2 hev h1 h2
     by_cases hop : (op == 18) = false ∧ (op == 19) = false
     ·rw [ex3 hop] at hf;rw [hf];obtain ⟨c1, c2⟩ := hop;show go _ _ _ (an6 _ _ (.d (.agg [.int op, .int vk, .int vn, .int vd, .str vS, .sl (bo1 vl), .str nm, .bool ds, .sl (df9 (ks.map ep0))])))
      repeat' (first | refine yz ?_ | exact zD)
     ·have ho : op = 18 ∨ op = 19 := by
       simp only [beq_eq_false_iff_ne] at hop;omega
      have h2l : ks.length = 2 := hshp.2.2.1 (by omega)
      match ks, h2l with
      | [a, b], _ =>
       rw [show ([a, b].map ep0) = [ep0 a, ep0 b] from rfl] at hf ⊢;generalize ep0 a = fa at *;generalize ep0 b = fb at *;have k0 : (df9 [fa, fb])[((0 : Int)).toNat]? = some (dg0 fa) := rfl;have k1 : (df9 [fa, fb])[((1 : Int)).toNat]? = some (dg0 fb) := rfl;have b1 := eu5 fb;have b2 := eu5 fa;rcases ho with rfl | rfl
       ·have i1 := eu7 fa 1;have i2 := eu7 fb 1;have hf2 : FE = bif isX fa 1 && eo6 fb.op then fb else bif isX fb 1 && eo6 fa.op then fa else .mk 18 (.mk vk vn vd vS vl) nm ds [fa, fb] := hf;clear hf
        cases x1 : isX fa 1 <;> cases x2 : eo6 fb.op <;> cases x3 : isX fb 1 <;> cases x4 : eo6 fa.op
        all_goals
         simp only [x1, x2, x3, x4, fm4, fk4, fi6, fh3, cond_true, cond_false] at hf2 i1 i2 b1 b2;rw [hf2]
         repeat' (first | refine yz ?_ | refine yi (dg0 fa) k0 ?_ | refine yi (dg0 fb) k1 ?_ | refine yp b53 i1 ?_ | refine yp b53 i2 ?_ | refine yp b54 b1 ?_ | refine yp b54 b2 ?_ | exact zD)
       ·have i1 := eu7 fa 0;have i2 := eu7 fb 0;have hf2 : FE = bif isX fa 0 && eo6 fb.op then fb else bif isX fb 0 && eo6 fa.op then fa else .mk 19 (.mk vk vn vd vS vl) nm ds [fa, fb] := hf;clear hf
        cases x1 : isX fa 0 <;> cases x2 : eo6 fb.op <;> cases x3 : isX fb 0 <;> cases x4 : eo6 fa.op
        all_goals
         simp only [x1, x2, x3, x4, fm4, fk4, fi6, fh3, cond_true, cond_false] at hf2 i1 i2 b1 b2;rw [hf2]
         repeat' (first | refine yz ?_ | refine yi (dg0 fa) k0 ?_ | refine yi (dg0 fb) k1 ?_ | refine yp b53 i1 ?_ | refine yp b53 i2 ?_ | refine yp b54 b1 ?_ | refine yp b54 b2 ?_ | exact zD)
  ·rw [hcl] at h1;refine ye1 func27 ntmps27 fun _ _ _=>?_
   repeat' (first | refine yz ?_ | refine yp b50 h1 ?_ | fail)
   by_cases h0 : ks = []
   ·subst h0
    have hop : (op == 18) = false ∧ (op == 19) = false := by
     have h3 : (7 ≤ op ∧ op ≤ 20) → ([] : List Ex).length = 2 := hshp.2.2.1;simp only [beq_eq_false_iff_ne];constructor
     ·intro h; have := h3 (by omega); simp at this
     ·intro h; have := h3 (by omega); simp at this
    rw [ex3 hop] at hf;rw [hf];obtain ⟨c1, c2⟩ := hop
    repeat' (first | refine yz ?_ | refine yp b49 ew1 ?_ | fail)
    refine ac7 (α := Unit) (fun _ => ⟨[(1, .ptr 0 0), (2, .ptr 1 0), (4, .d (.sl [])), (20, .d (.sl [])), (21, .d (.int 0)), (22, .d (.int 0))], [oXU (.agg [.int op, .int vk, .int vn, .int vd, .str vS, .sl (bo1 vl), .str nm, .bool ds, .sl []]), zXU]⟩) (fun _ => 0) () (zle 2) ?_;rintro -;have g1 : decide ((0 : Int) < 0) = false := rfl
    repeat' (first | refine yz ?_ | exact zD)
   ·have hcl2 := ew2 ks h0 (by omega)
    repeat' (first | refine yz ?_ | refine ay9 rfl rfl rfl rfl rfl rfl b49 (hcl2) ?_)
    refine ac7 (α := Fin (ks.length + 1)) (fun p => ⟨[(1, .ptr 0 0), (2, .ptr 1 0), (4, .own 2), (20, .own 2), (21, .d (.int (df9 ks).length)), (22, .d (.int p.val))], [oXU (.agg [.int op, .int vk, .int vn, .int vd, .str vS, .sl (bo1 vl), .str nm, .bool ds, .sl (df9 ks)]), zXU, rXU (df9 ((ks.take p.val).map ep0 ++ ks.drop p.val))]⟩) (fun p => ks.length - p.val) ⟨0, by omega⟩ (by
     dsimp only;rw [List.take_zero, fn5, List.nil_append, fm6];exact (zle 3)) ?_
    rintro ⟨i, hi⟩;dsimp only;have hRl := hle i;rcases fg7 i ks.length with hlt | hge
    ·have g1 : decide ((i : Int) < ((df9 ks).length : Int)) = true := by rw [hlen]; simpa using hlt
     have hx0 := fg5 hlt;generalize ks[i] = x at hx0;have hx := ex5 hx0;have hset := ex4 hx0;have hcx := hfx x (fg9 hx0)
     repeat' (first | refine yz ?_ | refine qW (dg0 x) rfl rfl rfl rfl rfl rfl hx rfl ?_ | refine yp b27 hcx ?_ | refine qZ (dg0 x) rfl rfl rfl rfl rfl rfl hx rfl rfl rfl ?_)
     refine ac1 ?_;refine ⟨⟨i + 1, by omega⟩, by dsimp only; omega, ?_⟩;show Le _ ⟨_, [_, _, rXU ((df9 ((ks.take i).map ep0 ++ ks.drop i)).set (i : Int).toNat (ar1 (dg0 x) 0 (dg0 (ep0 x)))), _]⟩ _;rw [hset];exact (zle 3)
    ·have g1 : decide ((i : Int) < ((df9 ks).length : Int)) = false := by rw [hlen]; simp; omega
     rw [show (ks.take i).map ep0 ++ ks.drop i = ks.map ep0 by rw [fk9 hge, fh6 hge, fn1]];refine au6 2 rfl ?_;clear hRl hle hfx hcl2 hev h1 h2
     by_cases hop : (op == 18) = false ∧ (op == 19) = false
     ·rw [ex3 hop] at hf;rw [hf];obtain ⟨c1, c2⟩ := hop;show go _ _ _ (an6 _ _ (.d (.agg [.int op, .int vk, .int vn, .int vd, .str vS, .sl (bo1 vl), .str nm, .bool ds, .sl (df9 (ks.map ep0))])))
      repeat' (first | refine yz ?_ | exact zD)
     ·have ho : op = 18 ∨ op = 19 := by
       simp only [beq_eq_false_iff_ne] at hop;omega
      have h2l : ks.length = 2 := hshp.2.2.1 (by omega)
      match ks, h2l with
      | [a, b], _ =>
       rw [show ([a, b].map ep0) = [ep0 a, ep0 b] from rfl] at hf ⊢;generalize ep0 a = fa at *;generalize ep0 b = fb at *;have k0 : (df9 [fa, fb])[((0 : Int)).toNat]? = some (dg0 fa) := rfl;have k1 : (df9 [fa, fb])[((1 : Int)).toNat]? = some (dg0 fb) := rfl;have b1 := eu5 fb;have b2 := eu5 fa;rcases ho with rfl | rfl
       ·have i1 := eu7 fa 1;have i2 := eu7 fb 1;have hf2 : FE = bif isX fa 1 && eo6 fb.op then fb else bif isX fb 1 && eo6 fa.op then fa else .mk 18 (.mk vk vn vd vS vl) nm ds [fa, fb] := hf;clear hf
        cases x1 : isX fa 1 <;> cases x2 : eo6 fb.op <;> cases x3 : isX fb 1 <;> cases x4 : eo6 fa.op
        all_goals
         simp only [x1, x2, x3, x4, fm4, fk4, fi6, fh3, cond_true, cond_false] at hf2 i1 i2 b1 b2;rw [hf2]
         repeat' (first | refine yz ?_ | refine yi (dg0 fa) k0 ?_ | refine yi (dg0 fb) k1 ?_ | refine yp b53 i1 ?_ | refine yp b53 i2 ?_ | refine yp b54 b1 ?_ | refine yp b54 b2 ?_ | exact zD)
       ·have i1 := eu7 fa 0;have i2 := eu7 fb 0;have hf2 : FE = bif isX fa 0 && eo6 fb.op then fb else bif isX fb 0 && eo6 fa.op then fa else .mk 19 (.mk vk vn vd vS vl) nm ds [fa, fb] := hf;clear hf
        cases x1 : isX fa 0 <;> cases x2 : eo6 fb.op <;> cases x3 : isX fb 0 <;> cases x4 : eo6 fa.op
        all_goals
         simp only [x1, x2, x3, x4, fm4, fk4, fi6, fh3, cond_true, cond_false] at hf2 i1 i2 b1 b2;rw [hf2]
         repeat' (first | refine yz ?_ | refine yi (dg0 fa) k0 ?_ | refine yi (dg0 fb) k1 ?_ | refine yp b53 i1 ?_ | refine yp b53 i2 ?_ | refine yp b54 b1 ?_ | refine yp b54 b2 ?_ | exact zD)
theorem ex7 (e : Ex) (h1 : nd e ≤ 1000000) (h2 : dp e ≤ 1000000) (hE : cE 1048576 e) : Ev E 9 [dg0 e] (.d (dg0 (bif dq0 e != 0 then e else ep0 e))) := by
 have hk := dq1 e h2 h1
 cases hc : dq0 e != 0 with
 | true =>
  rw [cond_true];have hcl := ew3 e (by omega);generalize dq0 e = z at *;refine ye1 func9 ntmps9 fun _ _ _=>?_
  repeat' (first | refine yz ?_ | refine yp b25 hk ?_ | refine yp b26 hcl ?_ | exact zD)
 | false =>
  rw [cond_false];have h0 : dq0 e = 0 := by simpa using hc
  have hf := ex6 e h0 hE;rw [h0] at hk;generalize ep0 e = fe at *;refine ye1 func9 ntmps9 fun _ _ _=>?_
  repeat' (first | refine yz ?_ | refine yp b25 hk ?_ | refine yp b27 hf ?_ | exact zD)
theorem ex8 {ks : List Ex} {i : Nat} {x : Ex} (h : ks[i]? = some x) : df9 ((ks.take (i + 1)).map ep0) = df9 ((ks.take i).map ep0) ++ [dg0 (ep0 x)] := by
 rw [List.take_add_one, h, fm7, dg1, dg1, fm7];rfl
theorem ex9 (e : Ex) : ∀ d ∈ [dg0 e], d.cells.length = 9 := fun d hd => by obtain rfl := fl4.1 hd; rfl
set_option maxHeartbeats 8000000 in
theorem ey0 (e : Ex) : dq0 e = 0 → cE 1048576 e → Ev E 28 [dg0 e] (.d (dg0 (ep0 e))) := by
 refine dg9 (P := fun e => dq0 e = 0 → cE 1048576 e → Ev E 28 [dg0 e] (.d (dg0 (ep0 e)))) (fun op v nm ds ks ih hc hE => ?_) e;have hks := ep8 hc;have hshp := ex1 hc;have hEk : ∀ x ∈ ks, cE 1048576 x := ef1 hE.2;have hev := ed8 gZ [] (.mk op v nm ds ks) (ex2 hc hE);have h1 := eu2 (.mk op v nm ds ks);have h2 := eu4 (ed3 gZ [] (.mk op v nm ds ks));have hfx : ∀ x ∈ ks, Ev E 28 [dg0 x] (.d (dg0 (ep0 x))) := fun x hx => ih x hx (hks x hx) (hEk x hx)
 have hnl : ks.length ≤ 300 := by
  have h := (eo3 hc).2.1;rw [dk6] at h;have h : ndL ks + 1 ≤ 300 := h;have := ew0 ks;omega
 have hf := er8 op v nm ds ks;clear ih hks hEk hE hc;generalize ed3 gZ [] (.mk op v nm ds ks) = w at *;have hlen : (df9 ks).length = ks.length := dg6 ks;obtain ⟨vk, vn, vd, vS, vl⟩ := v;have h1 : Ev E 55 [.agg [.int op, .int vk, .int vn, .int vd, .str vS, .sl (bo1 vl), .str nm, .bool ds, .sl (df9 ks)]] (.d (.bool (el1 (.mk op (.mk vk vn vd vS vl) nm ds ks)))) := h1;have hev : Ev E 18 [dc3 gZ, .agg [.int op, .int vk, .int vn, .int vd, .str vS, .sl (bo1 vl), .str nm, .bool ds, .sl (df9 ks)], .sl (([] : List Bd).map dc4)] (.d (enc w)) := hev;have hsh : (Ex.mk op (.mk vk vn vd vS vl) nm ds ks).op = op ∧ (Ex.mk op (.mk vk vn vd vS vl) nm ds ks).ks = ks := ⟨rfl, rfl⟩;rw [hsh.1, hsh.2] at hshp;show Ev E 28 [.agg [.int op, .int vk, .int vn, .int vd, .str vS, .sl (bo1 vl), .str nm, .bool ds, .sl (df9 ks)]] (.d (dg0 (ep0 (.mk op (.mk vk vn vd vS vl) nm ds ks))))
 cases hb : el1 (.mk op (.mk vk vn vd vS vl) nm ds ks) && eo5 w with
 | true =>
  rw [hb, cond_true] at hf;rw [fg6] at hb;rw [hb.1] at h1;rw [hb.2] at h2;rw [hf];refine ye1 func28 ntmps28 fun _ _ _=>?_
  repeat' (first | refine yz ?_ | refine yp b55 h1 ?_ | refine yp b18 hev ?_ | refine yp b56 h2 ?_ | exact zD)
 | false =>
  rw [hb, cond_false] at hf
  have go2 : el1 (.mk op (.mk vk vn vd vS vl) nm ds ks) = false ∨ (el1 (.mk op (.mk vk vn vd vS vl) nm ds ks) = true ∧ eo5 w = false) := by
   cases hcl : el1 (.mk op (.mk vk vn vd vS vl) nm ds ks) with
   | false => exact .inl rfl
   | true => rw [hcl, fh3] at hb; exact .inr ⟨rfl, hb⟩
  generalize ep0 (.mk op (.mk vk vn vd vS vl) nm ds ks) = FE at *;clear hb hsh;rcases go2 with hcl | ⟨hcl, hw⟩
  rotate_left
  ·rw [hcl] at h1;rw [hw] at h2;refine ye1 func28 ntmps28 fun _ _ _=>?_
   repeat' (first | refine yz ?_ | refine yp b55 h1 ?_ | refine yp b18 hev ?_ | refine yp b56 h2 ?_ | fail)
   refine ac7 (α := Fin (ks.length + 1)) (fun p => ⟨[(1, .ptr 0 0), (2, .ptr 1 0), (4, .ptr 2 0), (5, .d (.int p.val))], [oXU (.agg [.int op, .int vk, .int vn, .int vd, .str vS, .sl (bo1 vl), .str nm, .bool ds, .sl (df9 ks)]), zXU, eXU op vk vn vd vS (bo1 vl) nm ds (bi6 3 (df9 ((ks.take p.val).map ep0)))] ++ ay5 27 9 (df9 ((ks.take p.val).map ep0))⟩) (fun p => ks.length - p.val) ⟨0, by omega⟩ (bj8 [0, 1, 3]) ?_;rintro ⟨i, hi⟩;dsimp only;rcases fg7 i ks.length with hlt | hge
   ·have g1 : decide ((i : Int) < ((df9 ks).length : Int)) = true := by rw [hlen]; simpa using hlt
    have hx0 := fg5 hlt;generalize ks[i] = x at hx0;have hx : (df9 ks)[(i : Int).toNat]? = some (dg0 x) := dg4 (by rw [fh0]; exact hx0);have hcx := hfx x (fg9 hx0);have hta := ex8 hx0;have hll : (df9 ((ks.take i).map ep0)).length ≤ i := by rw [dg6]; simp; omega
    match ho' : df9 ((ks.take i).map ep0), hll with
    | [], hll =>
     dsimp only [bi6, ay5, List.append, HAppend.hAppend, Append.append]
     repeat' (first | refine yq 10 [9,11] ?_ | refine yf 10 0 9 ?_ | refine yf 10 10 1 ?_ | refine yw ?_ | refine rgN ?_ | refine yz ?_ | refine yi (dg0 x) hx ?_ | refine yp b28 hcx ?_ | refine rgS (id := 10) (i := 9) rfl rfl rfl rfl (⟨by simp, ex9 _, by show (0 + 1) * 120 ≤ 140737488355328; omega, by show 0 + 1 ≤ 9223372036854775807; omega⟩) (by repeat (first | exact trivial | refine ⟨⟨rfl, rfl⟩, ?_⟩ | refine ⟨trivial, ?_⟩)) ?_)
     refine ac1 ?_;refine ⟨⟨i + 1, by omega⟩, by dsimp only; omega, ?_⟩;dsimp only;rw [hta, ho'];exact (bj8 [0, 1, 2, 3])
    | b :: q, hll =>
     dsimp only [bi6, ay5, List.append, HAppend.hAppend, Append.append]
     repeat' (first | refine yq 10 [9,11] ?_ | refine yf 10 0 9 ?_ | refine yf 10 10 1 ?_ | refine yw ?_ | refine rgN ?_ | refine yz ?_ | refine yi (dg0 x) hx ?_ | refine yp b28 hcx ?_ | refine rgS (id := 10) (i := 9) rfl rfl rfl rfl (⟨by simp, ex9 _, by show ((b :: q).length + 1) * 120 ≤ 140737488355328; omega, by show (b :: q).length + 1 ≤ 9223372036854775807; omega⟩) (by repeat (first | exact trivial | refine ⟨⟨rfl, rfl⟩, ?_⟩ | refine ⟨trivial, ?_⟩)) ?_)
     refine ac1 ?_;refine ⟨⟨i + 1, by omega⟩, by dsimp only; omega, ?_⟩;dsimp only;rw [hta, ho'];exact (bj8 [0, 1, 2, 4])
   ·have g1 : decide ((i : Int) < ((df9 ks).length : Int)) = false := by rw [hlen]; simp; omega
    rw [fk9 hge];clear hfx hev h1 h2
    by_cases h2l : ks.length = 2
    ·match ks, h2l with
     | [a, b], _ =>
      rw [show ([a, b].map ep0) = [ep0 a, ep0 b] from rfl] at hf ⊢;generalize ep0 a = fa at *;generalize ep0 b = fb at *;rw [show df9 [fa, fb] = [dg0 fa, dg0 fb] from rfl];dsimp only [bi6, ay5, List.append, HAppend.hAppend, Append.append];refine au6 3 rfl ?_;dsimp only [ar8, ar7, as0, ar9, List.map, List.set];have k0 : (df9 [fa, fb])[((0 : Int)).toNat]? = some (dg0 fa) := rfl;have k1 : (df9 [fa, fb])[((1 : Int)).toNat]? = some (dg0 fb) := rfl;have b1 := eu6 fb;have b2 := eu6 fa
      by_cases hop : (op == 18) = false ∧ (op == 19) = false
      ·rw [ex3 hop] at hf;rw [hf];obtain ⟨c1, c2⟩ := hop;show go _ _ _ (an6 _ _ (.d (.agg [.int op, .int vk, .int vn, .int vd, .str vS, .sl (bo1 vl), .str nm, .bool ds, .sl [dg0 fa, dg0 fb]])))
       repeat' (refine yz ?_)
       refine ac7 (α := Fin 3) (fun p => ⟨[(1, .ptr 0 0), (2, .ptr 1 0), (4, .ptr 2 0), (6, .d (.int (p.val : Nat)))], [oXU (.agg [.int op, .int vk, .int vn, .int vd, .str vS, .sl (bo1 vl), .str nm, .bool ds, .sl (df9 [a, b])]), zXU, eXU op vk vn vd vS (bo1 vl) nm ds (.d (.sl [dg0 fa, dg0 fb]))]⟩) (fun p => 2 - p.val) ⟨0, by omega⟩ (zle 3) ?_;rintro ⟨i, hi⟩
       match i, hi with
       | 0, _ =>
        repeat' (first | refine yz ?_ | refine yx ?_ | fail)
        refine ac1 ?_;exact ⟨⟨1, by omega⟩, by dsimp only; omega, (zle 3)⟩
       | 1, _ =>
        repeat' (first | refine yz ?_ | refine yx ?_ | fail)
        refine ac1 ?_;exact ⟨⟨2, by omega⟩, by dsimp only; omega, (zle 3)⟩
       | 2, _ =>
        repeat' (first | refine yz ?_ | exact zD)
      ·have ho : op = 18 ∨ op = 19 := by
        simp only [beq_eq_false_iff_ne] at hop;omega
       repeat' (refine yz ?_)
       rcases ho with rfl | rfl
       ·have i1 := eu8 fa 1;have i2 := eu8 fb 1;have hf2 : FE = bif isX fa 1 && eo6 fb.op then fb else bif isX fb 1 && eo6 fa.op then fa else .mk 18 (.mk vk vn vd vS vl) nm ds [fa, fb] := hf;clear hf
        cases hT0 : isX fa 1 && eo6 fb.op with
        | true =>
         rw [hT0, cond_true] at hf2;rw [hf2];rw [fg6] at hT0;rw [hT0.1] at i1;rw [hT0.2] at b1;clear hT0;refine ac7 (α := Unit) (fun _ => ⟨[(1, .ptr 0 0), (2, .ptr 1 0), (4, .ptr 2 0), (6, .d (.int 0))], [oXU (.agg [.int 18, .int vk, .int vn, .int vd, .str vS, .sl (bo1 vl), .str nm, .bool ds, .sl (df9 [a, b])]), zXU, eXU 18 vk vn vd vS (bo1 vl) nm ds (.d (.sl [dg0 fa, dg0 fb]))]⟩) (fun _ => 0) () (zle 3) ?_;rintro -
         repeat' (first | refine yz ?_ | refine yi (dg0 fa) k0 ?_ | refine yi (dg0 fb) k1 ?_ | refine yp b57 i1 ?_ | refine yp b58 b1 ?_ | exact zD)
        | false =>
         rw [hT0, cond_false] at hf2
         cases hT1 : isX fb 1 && eo6 fa.op with
         | true =>
          rw [hT1, cond_true] at hf2;rw [hf2];rw [fg6] at hT1;refine ac7 (α := Fin 2) (fun p => ⟨[(1, .ptr 0 0), (2, .ptr 1 0), (4, .ptr 2 0), (6, .d (.int (p.val : Nat)))], [oXU (.agg [.int 18, .int vk, .int vn, .int vd, .str vS, .sl (bo1 vl), .str nm, .bool ds, .sl (df9 [a, b])]), zXU, eXU 18 vk vn vd vS (bo1 vl) nm ds (.d (.sl [dg0 fa, dg0 fb]))]⟩) (fun p => 2 - p.val) ⟨0, by omega⟩ (zle 3) ?_;rintro ⟨i, hi⟩
          match i, hi with
          | 0, _ =>
           show go _ _ ⟨[(1, .ptr 0 0), (2, .ptr 1 0), (4, .ptr 2 0), (6, .d (.int 0))], [oXU (.agg [.int 18, .int vk, .int vn, .int vd, .str vS, .sl (bo1 vl), .str nm, .bool ds, .sl (df9 [a, b])]), zXU, eXU 18 vk vn vd vS (bo1 vl) nm ds (.d (.sl [dg0 fa, dg0 fb]))]⟩ _
           cases x1 : isX fa 1 with
           | false =>
            rw [x1] at i1
            repeat' (first | refine yz ?_ | refine yi (dg0 fa) k0 ?_ | refine yp b57 i1 ?_ | fail)
            refine ac1 ?_;exact ⟨⟨1, by omega⟩, by dsimp only; omega, (zle 3)⟩
           | true =>
            rw [x1, fh3] at hT0;rw [x1] at i1;rw [hT0] at b1;clear x1 hT0
            repeat' (first | refine yz ?_ | refine yi (dg0 fa) k0 ?_ | refine yi (dg0 fb) k1 ?_ | refine yp b57 i1 ?_ | refine yp b58 b1 ?_ | fail)
            refine ac1 ?_;exact ⟨⟨1, by omega⟩, by dsimp only; omega, (zle 3)⟩
          | 1, _ =>
           show go _ _ ⟨[(1, .ptr 0 0), (2, .ptr 1 0), (4, .ptr 2 0), (6, .d (.int 1))], [oXU (.agg [.int 18, .int vk, .int vn, .int vd, .str vS, .sl (bo1 vl), .str nm, .bool ds, .sl (df9 [a, b])]), zXU, eXU 18 vk vn vd vS (bo1 vl) nm ds (.d (.sl [dg0 fa, dg0 fb]))]⟩ _;rw [hT1.1] at i2;rw [hT1.2] at b2;clear hT0 hT1
           repeat' (first | refine yz ?_ | refine yi (dg0 fa) k0 ?_ | refine yi (dg0 fb) k1 ?_ | refine yp b57 i2 ?_ | refine yp b58 b2 ?_ | exact zD)
         | false =>
          rw [hT1, cond_false] at hf2;rw [hf2];show go _ _ _ (an6 _ _ (.d (.agg [.int 18, .int vk, .int vn, .int vd, .str vS, .sl (bo1 vl), .str nm, .bool ds, .sl [dg0 fa, dg0 fb]])));refine ac7 (α := Fin 3) (fun p => ⟨[(1, .ptr 0 0), (2, .ptr 1 0), (4, .ptr 2 0), (6, .d (.int (p.val : Nat)))], [oXU (.agg [.int 18, .int vk, .int vn, .int vd, .str vS, .sl (bo1 vl), .str nm, .bool ds, .sl (df9 [a, b])]), zXU, eXU 18 vk vn vd vS (bo1 vl) nm ds (.d (.sl [dg0 fa, dg0 fb]))]⟩) (fun p => 2 - p.val) ⟨0, by omega⟩ (zle 3) ?_;rintro ⟨i, hi⟩
          match i, hi with
          | 0, _ =>
           show go _ _ ⟨[(1, .ptr 0 0), (2, .ptr 1 0), (4, .ptr 2 0), (6, .d (.int 0))], [oXU (.agg [.int 18, .int vk, .int vn, .int vd, .str vS, .sl (bo1 vl), .str nm, .bool ds, .sl (df9 [a, b])]), zXU, eXU 18 vk vn vd vS (bo1 vl) nm ds (.d (.sl [dg0 fa, dg0 fb]))]⟩ _
           cases x1 : isX fa 1 with
           | false =>
            rw [x1] at i1
            repeat' (first | refine yz ?_ | refine yi (dg0 fa) k0 ?_ | refine yp b57 i1 ?_ | fail)
            refine ac1 ?_;exact ⟨⟨1, by omega⟩, by dsimp only; omega, (zle 3)⟩
           | true =>
            rw [x1, fh3] at hT0;rw [x1] at i1;rw [hT0] at b1;clear x1 hT0
            repeat' (first | refine yz ?_ | refine yi (dg0 fa) k0 ?_ | refine yi (dg0 fb) k1 ?_ | refine yp b57 i1 ?_ | refine yp b58 b1 ?_ | fail)
            refine ac1 ?_;exact ⟨⟨1, by omega⟩, by dsimp only; omega, (zle 3)⟩
          | 1, _ =>
           show go _ _ ⟨[(1, .ptr 0 0), (2, .ptr 1 0), (4, .ptr 2 0), (6, .d (.int 1))], [oXU (.agg [.int 18, .int vk, .int vn, .int vd, .str vS, .sl (bo1 vl), .str nm, .bool ds, .sl (df9 [a, b])]), zXU, eXU 18 vk vn vd vS (bo1 vl) nm ds (.d (.sl [dg0 fa, dg0 fb]))]⟩ _
           cases x3 : isX fb 1 with
           | false =>
            rw [x3] at i2
            repeat' (first | refine yz ?_ | refine yi (dg0 fb) k1 ?_ | refine yp b57 i2 ?_ | fail)
            refine ac1 ?_;exact ⟨⟨2, by omega⟩, by dsimp only; omega, (zle 3)⟩
           | true =>
            rw [x3, fh3] at hT1;rw [x3] at i2;rw [hT1] at b2;clear x3 hT0 hT1
            repeat' (first | refine yz ?_ | refine yi (dg0 fa) k0 ?_ | refine yi (dg0 fb) k1 ?_ | refine yp b57 i2 ?_ | refine yp b58 b2 ?_ | fail)
            refine ac1 ?_;exact ⟨⟨2, by omega⟩, by dsimp only; omega, (zle 3)⟩
          | 2, _ =>
           show go _ _ ⟨[(1, .ptr 0 0), (2, .ptr 1 0), (4, .ptr 2 0), (6, .d (.int 2))], [oXU (.agg [.int 18, .int vk, .int vn, .int vd, .str vS, .sl (bo1 vl), .str nm, .bool ds, .sl (df9 [a, b])]), zXU, eXU 18 vk vn vd vS (bo1 vl) nm ds (.d (.sl [dg0 fa, dg0 fb]))]⟩ _
           repeat' (first | refine yz ?_ | exact zD)
       ·have i1 := eu8 fa 0;have i2 := eu8 fb 0;have hf2 : FE = bif isX fa 0 && eo6 fb.op then fb else bif isX fb 0 && eo6 fa.op then fa else .mk 19 (.mk vk vn vd vS vl) nm ds [fa, fb] := hf;clear hf
        cases hT0 : isX fa 0 && eo6 fb.op with
        | true =>
         rw [hT0, cond_true] at hf2;rw [hf2];rw [fg6] at hT0;rw [hT0.1] at i1;rw [hT0.2] at b1;clear hT0;refine ac7 (α := Unit) (fun _ => ⟨[(1, .ptr 0 0), (2, .ptr 1 0), (4, .ptr 2 0), (6, .d (.int 0))], [oXU (.agg [.int 19, .int vk, .int vn, .int vd, .str vS, .sl (bo1 vl), .str nm, .bool ds, .sl (df9 [a, b])]), zXU, eXU 19 vk vn vd vS (bo1 vl) nm ds (.d (.sl [dg0 fa, dg0 fb]))]⟩) (fun _ => 0) () (zle 3) ?_;rintro -
         repeat' (first | refine yz ?_ | refine yi (dg0 fa) k0 ?_ | refine yi (dg0 fb) k1 ?_ | refine yp b57 i1 ?_ | refine yp b58 b1 ?_ | exact zD)
        | false =>
         rw [hT0, cond_false] at hf2
         cases hT1 : isX fb 0 && eo6 fa.op with
         | true =>
          rw [hT1, cond_true] at hf2;rw [hf2];rw [fg6] at hT1;refine ac7 (α := Fin 2) (fun p => ⟨[(1, .ptr 0 0), (2, .ptr 1 0), (4, .ptr 2 0), (6, .d (.int (p.val : Nat)))], [oXU (.agg [.int 19, .int vk, .int vn, .int vd, .str vS, .sl (bo1 vl), .str nm, .bool ds, .sl (df9 [a, b])]), zXU, eXU 19 vk vn vd vS (bo1 vl) nm ds (.d (.sl [dg0 fa, dg0 fb]))]⟩) (fun p => 2 - p.val) ⟨0, by omega⟩ (zle 3) ?_;rintro ⟨i, hi⟩
          match i, hi with
          | 0, _ =>
           show go _ _ ⟨[(1, .ptr 0 0), (2, .ptr 1 0), (4, .ptr 2 0), (6, .d (.int 0))], [oXU (.agg [.int 19, .int vk, .int vn, .int vd, .str vS, .sl (bo1 vl), .str nm, .bool ds, .sl (df9 [a, b])]), zXU, eXU 19 vk vn vd vS (bo1 vl) nm ds (.d (.sl [dg0 fa, dg0 fb]))]⟩ _
           cases x1 : isX fa 0 with
           | false =>
            rw [x1] at i1
            repeat' (first | refine yz ?_ | refine yi (dg0 fa) k0 ?_ | refine yp b57 i1 ?_ | fail)
            refine ac1 ?_;exact ⟨⟨1, by omega⟩, by dsimp only; omega, (zle 3)⟩
           | true =>
            rw [x1, fh3] at hT0;rw [x1] at i1;rw [hT0] at b1;clear x1 hT0
            repeat' (first | refine yz ?_ | refine yi (dg0 fa) k0 ?_ | refine yi (dg0 fb) k1 ?_ | refine yp b57 i1 ?_ | refine yp b58 b1 ?_ | fail)
            refine ac1 ?_;exact ⟨⟨1, by omega⟩, by dsimp only; omega, (zle 3)⟩
          | 1, _ =>
           show go _ _ ⟨[(1, .ptr 0 0), (2, .ptr 1 0), (4, .ptr 2 0), (6, .d (.int 1))], [oXU (.agg [.int 19, .int vk, .int vn, .int vd, .str vS, .sl (bo1 vl), .str nm, .bool ds, .sl (df9 [a, b])]), zXU, eXU 19 vk vn vd vS (bo1 vl) nm ds (.d (.sl [dg0 fa, dg0 fb]))]⟩ _;rw [hT1.1] at i2;rw [hT1.2] at b2;clear hT0 hT1
           repeat' (first | refine yz ?_ | refine yi (dg0 fa) k0 ?_ | refine yi (dg0 fb) k1 ?_ | refine yp b57 i2 ?_ | refine yp b58 b2 ?_ | exact zD)
         | false =>
          rw [hT1, cond_false] at hf2;rw [hf2];show go _ _ _ (an6 _ _ (.d (.agg [.int 19, .int vk, .int vn, .int vd, .str vS, .sl (bo1 vl), .str nm, .bool ds, .sl [dg0 fa, dg0 fb]])));refine ac7 (α := Fin 3) (fun p => ⟨[(1, .ptr 0 0), (2, .ptr 1 0), (4, .ptr 2 0), (6, .d (.int (p.val : Nat)))], [oXU (.agg [.int 19, .int vk, .int vn, .int vd, .str vS, .sl (bo1 vl), .str nm, .bool ds, .sl (df9 [a, b])]), zXU, eXU 19 vk vn vd vS (bo1 vl) nm ds (.d (.sl [dg0 fa, dg0 fb]))]⟩) (fun p => 2 - p.val) ⟨0, by omega⟩ (zle 3) ?_;rintro ⟨i, hi⟩
          match i, hi with
          | 0, _ =>
           show go _ _ ⟨[(1, .ptr 0 0), (2, .ptr 1 0), (4, .ptr 2 0), (6, .d (.int 0))], [oXU (.agg [.int 19, .int vk, .int vn, .int vd, .str vS, .sl (bo1 vl), .str nm, .bool ds, .sl (df9 [a, b])]), zXU, eXU 19 vk vn vd vS (bo1 vl) nm ds (.d (.sl [dg0 fa, dg0 fb]))]⟩ _
           cases x1 : isX fa 0 with
           | false =>
            rw [x1] at i1
            repeat' (first | refine yz ?_ | refine yi (dg0 fa) k0 ?_ | refine yp b57 i1 ?_ | fail)
            refine ac1 ?_;exact ⟨⟨1, by omega⟩, by dsimp only; omega, (zle 3)⟩
           | true =>
            rw [x1, fh3] at hT0;rw [x1] at i1;rw [hT0] at b1;clear x1 hT0
            repeat' (first | refine yz ?_ | refine yi (dg0 fa) k0 ?_ | refine yi (dg0 fb) k1 ?_ | refine yp b57 i1 ?_ | refine yp b58 b1 ?_ | fail)
            refine ac1 ?_;exact ⟨⟨1, by omega⟩, by dsimp only; omega, (zle 3)⟩
          | 1, _ =>
           show go _ _ ⟨[(1, .ptr 0 0), (2, .ptr 1 0), (4, .ptr 2 0), (6, .d (.int 1))], [oXU (.agg [.int 19, .int vk, .int vn, .int vd, .str vS, .sl (bo1 vl), .str nm, .bool ds, .sl (df9 [a, b])]), zXU, eXU 19 vk vn vd vS (bo1 vl) nm ds (.d (.sl [dg0 fa, dg0 fb]))]⟩ _
           cases x3 : isX fb 0 with
           | false =>
            rw [x3] at i2
            repeat' (first | refine yz ?_ | refine yi (dg0 fb) k1 ?_ | refine yp b57 i2 ?_ | fail)
            refine ac1 ?_;exact ⟨⟨2, by omega⟩, by dsimp only; omega, (zle 3)⟩
           | true =>
            rw [x3, fh3] at hT1;rw [x3] at i2;rw [hT1] at b2;clear x3 hT0 hT1
            repeat' (first | refine yz ?_ | refine yi (dg0 fa) k0 ?_ | refine yi (dg0 fb) k1 ?_ | refine yp b57 i2 ?_ | refine yp b58 b2 ?_ | fail)
            refine ac1 ?_;exact ⟨⟨2, by omega⟩, by dsimp only; omega, (zle 3)⟩
          | 2, _ =>
           show go _ _ ⟨[(1, .ptr 0 0), (2, .ptr 1 0), (4, .ptr 2 0), (6, .d (.int 2))], [oXU (.agg [.int 19, .int vk, .int vn, .int vd, .str vS, .sl (bo1 vl), .str nm, .bool ds, .sl (df9 [a, b])]), zXU, eXU 19 vk vn vd vS (bo1 vl) nm ds (.d (.sl [dg0 fa, dg0 fb]))]⟩ _
           repeat' (first | refine yz ?_ | exact zD)
    ·have hop : (op == 18) = false ∧ (op == 19) = false := by
      have h3 : (7 ≤ op ∧ op ≤ 20) → ks.length = 2 := hshp.2.2.1;simp only [beq_eq_false_iff_ne];constructor
      ·intro h; exact h2l (h3 (by omega))
      ·intro h; exact h2l (h3 (by omega))
     rw [ex3 hop] at hf;rw [hf];have hml : (df9 (ks.map ep0)).length = ks.length := by rw [dg6, fj8]
     have g2 : (((df9 (ks.map ep0)).length : Int) == 2) = false := by rw [hml, beq_eq_false_iff_ne]; omega
     show go _ _ _ (an6 _ _ (.d (.agg [.int op, .int vk, .int vn, .int vd, .str vS, .sl (bo1 vl), .str nm, .bool ds, .sl (df9 (ks.map ep0))])));generalize df9 (ks.map ep0) = L at *
     cases L with
     | nil =>
      dsimp only [bi6, ay5, List.append, HAppend.hAppend, Append.append]
      repeat' (refine yz ?_)
      refine ac7 (α := Unit) (fun _ => ⟨[(1, .ptr 0 0), (2, .ptr 1 0), (4, .ptr 2 0), (6, .d (.int 0))], [oXU (.agg [.int op, .int vk, .int vn, .int vd, .str vS, .sl (bo1 vl), .str nm, .bool ds, .sl (df9 ks)]), zXU, eXU op vk vn vd vS (bo1 vl) nm ds .nilS]⟩) (fun _ => 0) () (zle 3) ?_;rintro -
      repeat' (first | refine yz ?_ | exact zD)
     | cons lb lq =>
      dsimp only [bi6, ay5, List.append, HAppend.hAppend, Append.append];refine au6 3 rfl ?_;dsimp only [ar8, ar7, as0, ar9, List.map, List.set]
      repeat' (refine yz ?_)
      refine ac7 (α := Unit) (fun _ => ⟨[(1, .ptr 0 0), (2, .ptr 1 0), (4, .ptr 2 0), (6, .d (.int 0))], [oXU (.agg [.int op, .int vk, .int vn, .int vd, .str vS, .sl (bo1 vl), .str nm, .bool ds, .sl (df9 ks)]), zXU, eXU op vk vn vd vS (bo1 vl) nm ds (.d (.sl (lb :: lq)))]⟩) (fun _ => 0) () (zle 3) ?_;rintro -
      repeat' (first | refine yz ?_ | exact zD)
  ·rw [hcl] at h1;refine ye1 func28 ntmps28 fun _ _ _=>?_
   repeat' (first | refine yz ?_ | refine yp b55 h1 ?_ | fail)
   refine ac7 (α := Fin (ks.length + 1)) (fun p => ⟨[(1, .ptr 0 0), (2, .ptr 1 0), (4, .ptr 2 0), (5, .d (.int p.val))], [oXU (.agg [.int op, .int vk, .int vn, .int vd, .str vS, .sl (bo1 vl), .str nm, .bool ds, .sl (df9 ks)]), zXU, eXU op vk vn vd vS (bo1 vl) nm ds (bi6 3 (df9 ((ks.take p.val).map ep0)))] ++ ay5 27 9 (df9 ((ks.take p.val).map ep0))⟩) (fun p => ks.length - p.val) ⟨0, by omega⟩ (zle 3) ?_;rintro ⟨i, hi⟩;dsimp only;rcases fg7 i ks.length with hlt | hge
   ·have g1 : decide ((i : Int) < ((df9 ks).length : Int)) = true := by rw [hlen]; simpa using hlt
    have hx0 := fg5 hlt;generalize ks[i] = x at hx0;have hx : (df9 ks)[(i : Int).toNat]? = some (dg0 x) := dg4 (by rw [fh0]; exact hx0);have hcx := hfx x (fg9 hx0);have hta := ex8 hx0;have hll : (df9 ((ks.take i).map ep0)).length ≤ i := by rw [dg6]; simp; omega
    match ho' : df9 ((ks.take i).map ep0), hll with
    | [], hll =>
     dsimp only [bi6, ay5, List.append, HAppend.hAppend, Append.append]
     repeat' (first | refine yq 10 [9,11] ?_ | refine yf 10 0 9 ?_ | refine yf 10 10 1 ?_ | refine yw ?_ | refine rgN ?_ | refine yz ?_ | refine yi (dg0 x) hx ?_ | refine yp b28 hcx ?_ | refine rgS (id := 10) (i := 9) rfl rfl rfl rfl (⟨by simp, ex9 _, by show (0 + 1) * 120 ≤ 140737488355328; omega, by show 0 + 1 ≤ 9223372036854775807; omega⟩) (by repeat (first | exact trivial | refine ⟨⟨rfl, rfl⟩, ?_⟩ | refine ⟨trivial, ?_⟩)) ?_)
     refine ac1 ?_;refine ⟨⟨i + 1, by omega⟩, by dsimp only; omega, ?_⟩;dsimp only;rw [hta, ho'];exact (bj8 [0, 1, 2, 3])
    | b :: q, hll =>
     dsimp only [bi6, ay5, List.append, HAppend.hAppend, Append.append]
     repeat' (first | refine yq 10 [9,11] ?_ | refine yf 10 0 9 ?_ | refine yf 10 10 1 ?_ | refine yw ?_ | refine rgN ?_ | refine yz ?_ | refine yi (dg0 x) hx ?_ | refine yp b28 hcx ?_ | refine rgS (id := 10) (i := 9) rfl rfl rfl rfl (⟨by simp, ex9 _, by show ((b :: q).length + 1) * 120 ≤ 140737488355328; omega, by show (b :: q).length + 1 ≤ 9223372036854775807; omega⟩) (by repeat (first | exact trivial | refine ⟨⟨rfl, rfl⟩, ?_⟩ | refine ⟨trivial, ?_⟩)) ?_)
     refine ac1 ?_;refine ⟨⟨i + 1, by omega⟩, by dsimp only; omega, ?_⟩;dsimp only;rw [hta, ho'];exact (bj8 [0, 1, 2, 4])
   ·have g1 : decide ((i : Int) < ((df9 ks).length : Int)) = false := by rw [hlen]; simp; omega
    rw [fk9 hge];clear hfx hev h1 h2
    by_cases h2l : ks.length = 2
    ·match ks, h2l with
     | [a, b], _ =>
      rw [show ([a, b].map ep0) = [ep0 a, ep0 b] from rfl] at hf ⊢;generalize ep0 a = fa at *;generalize ep0 b = fb at *;rw [show df9 [fa, fb] = [dg0 fa, dg0 fb] from rfl];dsimp only [bi6, ay5, List.append, HAppend.hAppend, Append.append];refine au6 3 rfl ?_;dsimp only [ar8, ar7, as0, ar9, List.map, List.set];have k0 : (df9 [fa, fb])[((0 : Int)).toNat]? = some (dg0 fa) := rfl;have k1 : (df9 [fa, fb])[((1 : Int)).toNat]? = some (dg0 fb) := rfl;have b1 := eu6 fb;have b2 := eu6 fa
      by_cases hop : (op == 18) = false ∧ (op == 19) = false
      ·rw [ex3 hop] at hf;rw [hf];obtain ⟨c1, c2⟩ := hop;show go _ _ _ (an6 _ _ (.d (.agg [.int op, .int vk, .int vn, .int vd, .str vS, .sl (bo1 vl), .str nm, .bool ds, .sl [dg0 fa, dg0 fb]])))
       repeat' (refine yz ?_)
       refine ac7 (α := Fin 3) (fun p => ⟨[(1, .ptr 0 0), (2, .ptr 1 0), (4, .ptr 2 0), (6, .d (.int (p.val : Nat)))], [oXU (.agg [.int op, .int vk, .int vn, .int vd, .str vS, .sl (bo1 vl), .str nm, .bool ds, .sl (df9 [a, b])]), zXU, eXU op vk vn vd vS (bo1 vl) nm ds (.d (.sl [dg0 fa, dg0 fb]))]⟩) (fun p => 2 - p.val) ⟨0, by omega⟩ (zle 3) ?_;rintro ⟨i, hi⟩
       match i, hi with
       | 0, _ =>
        repeat' (first | refine yz ?_ | refine yx ?_ | fail)
        refine ac1 ?_;exact ⟨⟨1, by omega⟩, by dsimp only; omega, (zle 3)⟩
       | 1, _ =>
        repeat' (first | refine yz ?_ | refine yx ?_ | fail)
        refine ac1 ?_;exact ⟨⟨2, by omega⟩, by dsimp only; omega, (zle 3)⟩
       | 2, _ =>
        repeat' (first | refine yz ?_ | exact zD)
      ·have ho : op = 18 ∨ op = 19 := by
        simp only [beq_eq_false_iff_ne] at hop;omega
       repeat' (refine yz ?_)
       rcases ho with rfl | rfl
       ·have i1 := eu8 fa 1;have i2 := eu8 fb 1;have hf2 : FE = bif isX fa 1 && eo6 fb.op then fb else bif isX fb 1 && eo6 fa.op then fa else .mk 18 (.mk vk vn vd vS vl) nm ds [fa, fb] := hf;clear hf
        cases hT0 : isX fa 1 && eo6 fb.op with
        | true =>
         rw [hT0, cond_true] at hf2;rw [hf2];rw [fg6] at hT0;rw [hT0.1] at i1;rw [hT0.2] at b1;clear hT0;refine ac7 (α := Unit) (fun _ => ⟨[(1, .ptr 0 0), (2, .ptr 1 0), (4, .ptr 2 0), (6, .d (.int 0))], [oXU (.agg [.int 18, .int vk, .int vn, .int vd, .str vS, .sl (bo1 vl), .str nm, .bool ds, .sl (df9 [a, b])]), zXU, eXU 18 vk vn vd vS (bo1 vl) nm ds (.d (.sl [dg0 fa, dg0 fb]))]⟩) (fun _ => 0) () (zle 3) ?_;rintro -
         repeat' (first | refine yz ?_ | refine yi (dg0 fa) k0 ?_ | refine yi (dg0 fb) k1 ?_ | refine yp b57 i1 ?_ | refine yp b58 b1 ?_ | exact zD)
        | false =>
         rw [hT0, cond_false] at hf2
         cases hT1 : isX fb 1 && eo6 fa.op with
         | true =>
          rw [hT1, cond_true] at hf2;rw [hf2];rw [fg6] at hT1;refine ac7 (α := Fin 2) (fun p => ⟨[(1, .ptr 0 0), (2, .ptr 1 0), (4, .ptr 2 0), (6, .d (.int (p.val : Nat)))], [oXU (.agg [.int 18, .int vk, .int vn, .int vd, .str vS, .sl (bo1 vl), .str nm, .bool ds, .sl (df9 [a, b])]), zXU, eXU 18 vk vn vd vS (bo1 vl) nm ds (.d (.sl [dg0 fa, dg0 fb]))]⟩) (fun p => 2 - p.val) ⟨0, by omega⟩ (zle 3) ?_;rintro ⟨i, hi⟩
          match i, hi with
          | 0, _ =>
           show go _ _ ⟨[(1, .ptr 0 0), (2, .ptr 1 0), (4, .ptr 2 0), (6, .d (.int 0))], [oXU (.agg [.int 18, .int vk, .int vn, .int vd, .str vS, .sl (bo1 vl), .str nm, .bool ds, .sl (df9 [a, b])]), zXU, eXU 18 vk vn vd vS (bo1 vl) nm ds (.d (.sl [dg0 fa, dg0 fb]))]⟩ _
           cases x1 : isX fa 1 with
           | false =>
            rw [x1] at i1
            repeat' (first | refine yz ?_ | refine yi (dg0 fa) k0 ?_ | refine yp b57 i1 ?_ | fail)
            refine ac1 ?_;exact ⟨⟨1, by omega⟩, by dsimp only; omega, (zle 3)⟩
           | true =>
            rw [x1, fh3] at hT0;rw [x1] at i1;rw [hT0] at b1;clear x1 hT0
            repeat' (first | refine yz ?_ | refine yi (dg0 fa) k0 ?_ | refine yi (dg0 fb) k1 ?_ | refine yp b57 i1 ?_ | refine yp b58 b1 ?_ | fail)
            refine ac1 ?_;exact ⟨⟨1, by omega⟩, by dsimp only; omega, (zle 3)⟩
          | 1, _ =>
           show go _ _ ⟨[(1, .ptr 0 0), (2, .ptr 1 0), (4, .ptr 2 0), (6, .d (.int 1))], [oXU (.agg [.int 18, .int vk, .int vn, .int vd, .str vS, .sl (bo1 vl), .str nm, .bool ds, .sl (df9 [a, b])]), zXU, eXU 18 vk vn vd vS (bo1 vl) nm ds (.d (.sl [dg0 fa, dg0 fb]))]⟩ _;rw [hT1.1] at i2;rw [hT1.2] at b2;clear hT0 hT1
           repeat' (first | refine yz ?_ | refine yi (dg0 fa) k0 ?_ | refine yi (dg0 fb) k1 ?_ | refine yp b57 i2 ?_ | refine yp b58 b2 ?_ | exact zD)
         | false =>
          rw [hT1, cond_false] at hf2;rw [hf2];show go _ _ _ (an6 _ _ (.d (.agg [.int 18, .int vk, .int vn, .int vd, .str vS, .sl (bo1 vl), .str nm, .bool ds, .sl [dg0 fa, dg0 fb]])));refine ac7 (α := Fin 3) (fun p => ⟨[(1, .ptr 0 0), (2, .ptr 1 0), (4, .ptr 2 0), (6, .d (.int (p.val : Nat)))], [oXU (.agg [.int 18, .int vk, .int vn, .int vd, .str vS, .sl (bo1 vl), .str nm, .bool ds, .sl (df9 [a, b])]), zXU, eXU 18 vk vn vd vS (bo1 vl) nm ds (.d (.sl [dg0 fa, dg0 fb]))]⟩) (fun p => 2 - p.val) ⟨0, by omega⟩ (zle 3) ?_;rintro ⟨i, hi⟩
          match i, hi with
          | 0, _ =>
           show go _ _ ⟨[(1, .ptr 0 0), (2, .ptr 1 0), (4, .ptr 2 0), (6, .d (.int 0))], [oXU (.agg [.int 18, .int vk, .int vn, .int vd, .str vS, .sl (bo1 vl), .str nm, .bool ds, .sl (df9 [a, b])]), zXU, eXU 18 vk vn vd vS (bo1 vl) nm ds (.d (.sl [dg0 fa, dg0 fb]))]⟩ _
           cases x1 : isX fa 1 with
           | false =>
            rw [x1] at i1
            repeat' (first | refine yz ?_ | refine yi (dg0 fa) k0 ?_ | refine yp b57 i1 ?_ | fail)
            refine ac1 ?_;exact ⟨⟨1, by omega⟩, by dsimp only; omega, (zle 3)⟩
           | true =>
            rw [x1, fh3] at hT0;rw [x1] at i1;rw [hT0] at b1;clear x1 hT0
            repeat' (first | refine yz ?_ | refine yi (dg0 fa) k0 ?_ | refine yi (dg0 fb) k1 ?_ | refine yp b57 i1 ?_ | refine yp b58 b1 ?_ | fail)
            refine ac1 ?_;exact ⟨⟨1, by omega⟩, by dsimp only; omega, (zle 3)⟩
          | 1, _ =>
           show go _ _ ⟨[(1, .ptr 0 0), (2, .ptr 1 0), (4, .ptr 2 0), (6, .d (.int 1))], [oXU (.agg [.int 18, .int vk, .int vn, .int vd, .str vS, .sl (bo1 vl), .str nm, .bool ds, .sl (df9 [a, b])]), zXU, eXU 18 vk vn vd vS (bo1 vl) nm ds (.d (.sl [dg0 fa, dg0 fb]))]⟩ _
           cases x3 : isX fb 1 with
           | false =>
            rw [x3] at i2
            repeat' (first | refine yz ?_ | refine yi (dg0 fb) k1 ?_ | refine yp b57 i2 ?_ | fail)
            refine ac1 ?_;exact ⟨⟨2, by omega⟩, by dsimp only; omega, (zle 3)⟩
           | true =>
            rw [x3, fh3] at hT1;rw [x3] at i2;rw [hT1] at b2;clear x3 hT0 hT1
            repeat' (first | refine yz ?_ | refine yi (dg0 fa) k0 ?_ | refine yi (dg0 fb) k1 ?_ | refine yp b57 i2 ?_ | refine yp b58 b2 ?_ | fail)
            refine ac1 ?_;exact ⟨⟨2, by omega⟩, by dsimp only; omega, (zle 3)⟩
          | 2, _ =>
           show go _ _ ⟨[(1, .ptr 0 0), (2, .ptr 1 0), (4, .ptr 2 0), (6, .d (.int 2))], [oXU (.agg [.int 18, .int vk, .int vn, .int vd, .str vS, .sl (bo1 vl), .str nm, .bool ds, .sl (df9 [a, b])]), zXU, eXU 18 vk vn vd vS (bo1 vl) nm ds (.d (.sl [dg0 fa, dg0 fb]))]⟩ _
           repeat' (first | refine yz ?_ | exact zD)
       ·have i1 := eu8 fa 0;have i2 := eu8 fb 0;have hf2 : FE = bif isX fa 0 && eo6 fb.op then fb else bif isX fb 0 && eo6 fa.op then fa else .mk 19 (.mk vk vn vd vS vl) nm ds [fa, fb] := hf;clear hf
        cases hT0 : isX fa 0 && eo6 fb.op with
        | true =>
         rw [hT0, cond_true] at hf2;rw [hf2];rw [fg6] at hT0;rw [hT0.1] at i1;rw [hT0.2] at b1;clear hT0;refine ac7 (α := Unit) (fun _ => ⟨[(1, .ptr 0 0), (2, .ptr 1 0), (4, .ptr 2 0), (6, .d (.int 0))], [oXU (.agg [.int 19, .int vk, .int vn, .int vd, .str vS, .sl (bo1 vl), .str nm, .bool ds, .sl (df9 [a, b])]), zXU, eXU 19 vk vn vd vS (bo1 vl) nm ds (.d (.sl [dg0 fa, dg0 fb]))]⟩) (fun _ => 0) () (zle 3) ?_;rintro -
         repeat' (first | refine yz ?_ | refine yi (dg0 fa) k0 ?_ | refine yi (dg0 fb) k1 ?_ | refine yp b57 i1 ?_ | refine yp b58 b1 ?_ | exact zD)
        | false =>
         rw [hT0, cond_false] at hf2
         cases hT1 : isX fb 0 && eo6 fa.op with
         | true =>
          rw [hT1, cond_true] at hf2;rw [hf2];rw [fg6] at hT1;refine ac7 (α := Fin 2) (fun p => ⟨[(1, .ptr 0 0), (2, .ptr 1 0), (4, .ptr 2 0), (6, .d (.int (p.val : Nat)))], [oXU (.agg [.int 19, .int vk, .int vn, .int vd, .str vS, .sl (bo1 vl), .str nm, .bool ds, .sl (df9 [a, b])]), zXU, eXU 19 vk vn vd vS (bo1 vl) nm ds (.d (.sl [dg0 fa, dg0 fb]))]⟩) (fun p => 2 - p.val) ⟨0, by omega⟩ (zle 3) ?_;rintro ⟨i, hi⟩
          match i, hi with
          | 0, _ =>
           show go _ _ ⟨[(1, .ptr 0 0), (2, .ptr 1 0), (4, .ptr 2 0), (6, .d (.int 0))], [oXU (.agg [.int 19, .int vk, .int vn, .int vd, .str vS, .sl (bo1 vl), .str nm, .bool ds, .sl (df9 [a, b])]), zXU, eXU 19 vk vn vd vS (bo1 vl) nm ds (.d (.sl [dg0 fa, dg0 fb]))]⟩ _
           cases x1 : isX fa 0 with
           | false =>
            rw [x1] at i1
            repeat' (first | refine yz ?_ | refine yi (dg0 fa) k0 ?_ | refine yp b57 i1 ?_ | fail)
            refine ac1 ?_;exact ⟨⟨1, by omega⟩, by dsimp only; omega, (zle 3)⟩
           | true =>
            rw [x1, fh3] at hT0;rw [x1] at i1;rw [hT0] at b1;clear x1 hT0
            repeat' (first | refine yz ?_ | refine yi (dg0 fa) k0 ?_ | refine yi (dg0 fb) k1 ?_ | refine yp b57 i1 ?_ | refine yp b58 b1 ?_ | fail)
            refine ac1 ?_;exact ⟨⟨1, by omega⟩, by dsimp only; omega, (zle 3)⟩
          | 1, _ =>
           show go _ _ ⟨[(1, .ptr 0 0), (2, .ptr 1 0), (4, .ptr 2 0), (6, .d (.int 1))], [oXU (.agg [.int 19, .int vk, .int vn, .int vd, .str vS, .sl (bo1 vl), .str nm, .bool ds, .sl (df9 [a, b])]), zXU, eXU 19 vk vn vd vS (bo1 vl) nm ds (.d (.sl [dg0 fa, dg0 fb]))]⟩ _;rw [hT1.1] at i2;rw [hT1.2] at b2;clear hT0 hT1
           repeat' (first | refine yz ?_ | refine yi (dg0 fa) k0 ?_ | refine yi (dg0 fb) k1 ?_ | refine yp b57 i2 ?_ | refine yp b58 b2 ?_ | exact zD)
         | false =>
          rw [hT1, cond_false] at hf2;rw [hf2];show go _ _ _ (an6 _ _ (.d (.agg [.int 19, .int vk, .int vn, .int vd, .str vS, .sl (bo1 vl), .str nm, .bool ds, .sl [dg0 fa, dg0 fb]])));refine ac7 (α := Fin 3) (fun p => ⟨[(1, .ptr 0 0), (2, .ptr 1 0), (4, .ptr 2 0), (6, .d (.int (p.val : Nat)))], [oXU (.agg [.int 19, .int vk, .int vn, .int vd, .str vS, .sl (bo1 vl), .str nm, .bool ds, .sl (df9 [a, b])]), zXU, eXU 19 vk vn vd vS (bo1 vl) nm ds (.d (.sl [dg0 fa, dg0 fb]))]⟩) (fun p => 2 - p.val) ⟨0, by omega⟩ (zle 3) ?_;rintro ⟨i, hi⟩
          match i, hi with
          | 0, _ =>
           show go _ _ ⟨[(1, .ptr 0 0), (2, .ptr 1 0), (4, .ptr 2 0), (6, .d (.int 0))], [oXU (.agg [.int 19, .int vk, .int vn, .int vd, .str vS, .sl (bo1 vl), .str nm, .bool ds, .sl (df9 [a, b])]), zXU, eXU 19 vk vn vd vS (bo1 vl) nm ds (.d (.sl [dg0 fa, dg0 fb]))]⟩ _
           cases x1 : isX fa 0 with
           | false =>
            rw [x1] at i1
            repeat' (first | refine yz ?_ | refine yi (dg0 fa) k0 ?_ | refine yp b57 i1 ?_ | fail)
            refine ac1 ?_;exact ⟨⟨1, by omega⟩, by dsimp only; omega, (zle 3)⟩
           | true =>
            rw [x1, fh3] at hT0;rw [x1] at i1;rw [hT0] at b1;clear x1 hT0
            repeat' (first | refine yz ?_ | refine yi (dg0 fa) k0 ?_ | refine yi (dg0 fb) k1 ?_ | refine yp b57 i1 ?_ | refine yp b58 b1 ?_ | fail)
            refine ac1 ?_;exact ⟨⟨1, by omega⟩, by dsimp only; omega, (zle 3)⟩
          | 1, _ =>
           show go _ _ ⟨[(1, .ptr 0 0), (2, .ptr 1 0), (4, .ptr 2 0), (6, .d (.int 1))], [oXU (.agg [.int 19, .int vk, .int vn, .int vd, .str vS, .sl (bo1 vl), .str nm, .bool ds, .sl (df9 [a, b])]), zXU, eXU 19 vk vn vd vS (bo1 vl) nm ds (.d (.sl [dg0 fa, dg0 fb]))]⟩ _
           cases x3 : isX fb 0 with
           | false =>
            rw [x3] at i2
            repeat' (first | refine yz ?_ | refine yi (dg0 fb) k1 ?_ | refine yp b57 i2 ?_ | fail)
            refine ac1 ?_;exact ⟨⟨2, by omega⟩, by dsimp only; omega, (zle 3)⟩
           | true =>
            rw [x3, fh3] at hT1;rw [x3] at i2;rw [hT1] at b2;clear x3 hT0 hT1
            repeat' (first | refine yz ?_ | refine yi (dg0 fa) k0 ?_ | refine yi (dg0 fb) k1 ?_ | refine yp b57 i2 ?_ | refine yp b58 b2 ?_ | fail)
            refine ac1 ?_;exact ⟨⟨2, by omega⟩, by dsimp only; omega, (zle 3)⟩
          | 2, _ =>
           show go _ _ ⟨[(1, .ptr 0 0), (2, .ptr 1 0), (4, .ptr 2 0), (6, .d (.int 2))], [oXU (.agg [.int 19, .int vk, .int vn, .int vd, .str vS, .sl (bo1 vl), .str nm, .bool ds, .sl (df9 [a, b])]), zXU, eXU 19 vk vn vd vS (bo1 vl) nm ds (.d (.sl [dg0 fa, dg0 fb]))]⟩ _
           repeat' (first | refine yz ?_ | exact zD)
    ·have hop : (op == 18) = false ∧ (op == 19) = false := by
      have h3 : (7 ≤ op ∧ op ≤ 20) → ks.length = 2 := hshp.2.2.1;simp only [beq_eq_false_iff_ne];constructor
      ·intro h; exact h2l (h3 (by omega))
      ·intro h; exact h2l (h3 (by omega))
     rw [ex3 hop] at hf;rw [hf];have hml : (df9 (ks.map ep0)).length = ks.length := by rw [dg6, fj8]
     have g2 : (((df9 (ks.map ep0)).length : Int) == 2) = false := by rw [hml, beq_eq_false_iff_ne]; omega
     show go _ _ _ (an6 _ _ (.d (.agg [.int op, .int vk, .int vn, .int vd, .str vS, .sl (bo1 vl), .str nm, .bool ds, .sl (df9 (ks.map ep0))])));generalize df9 (ks.map ep0) = L at *
     cases L with
     | nil =>
      dsimp only [bi6, ay5, List.append, HAppend.hAppend, Append.append]
      repeat' (refine yz ?_)
      refine ac7 (α := Unit) (fun _ => ⟨[(1, .ptr 0 0), (2, .ptr 1 0), (4, .ptr 2 0), (6, .d (.int 0))], [oXU (.agg [.int op, .int vk, .int vn, .int vd, .str vS, .sl (bo1 vl), .str nm, .bool ds, .sl (df9 ks)]), zXU, eXU op vk vn vd vS (bo1 vl) nm ds .nilS]⟩) (fun _ => 0) () (zle 3) ?_;rintro -
      repeat' (first | refine yz ?_ | exact zD)
     | cons lb lq =>
      dsimp only [bi6, ay5, List.append, HAppend.hAppend, Append.append];refine au6 3 rfl ?_;dsimp only [ar8, ar7, as0, ar9, List.map, List.set]
      repeat' (refine yz ?_)
      refine ac7 (α := Unit) (fun _ => ⟨[(1, .ptr 0 0), (2, .ptr 1 0), (4, .ptr 2 0), (6, .d (.int 0))], [oXU (.agg [.int op, .int vk, .int vn, .int vd, .str vS, .sl (bo1 vl), .str nm, .bool ds, .sl (df9 ks)]), zXU, eXU op vk vn vd vS (bo1 vl) nm ds (.d (.sl (lb :: lq)))]⟩) (fun _ => 0) () (zle 3) ?_;rintro -
      repeat' (first | refine yz ?_ | exact zD)
theorem ey1 (e : Ex) (h1 : nd e ≤ 1000000) (h2 : dp e ≤ 1000000) (hE : cE 1048576 e) : Ev E 10 [dg0 e] (.d (dg0 (bif dq0 e != 0 then e else ep0 e))) := by
 have hk := dq2 e h2 h1
 cases hc : dq0 e != 0 with
 | true =>
  rw [cond_true];generalize dq0 e = z at *;refine ye1 func10 ntmps10 fun _ _ _=>?_
  repeat' (first | refine yz ?_ | refine yp b16 hk ?_ | exact zD)
 | false =>
  rw [cond_false];have h0 : dq0 e = 0 := by simpa using hc
  have hf := ey0 e h0 hE;rw [h0] at hk;generalize ep0 e = fe at *;refine ye1 func10 ntmps10 fun _ _ _=>?_
  repeat' (first | refine yz ?_ | refine yp b16 hk ?_ | refine yp b28 hf ?_ | exact zD)
end Go.Proofs.YtibfalecohlngaaGreatDoor
