/- The worked examples of chapter 36: the law's own text; The law of this text in plain engine's terms (its card: text VFold); The law of this text in plain engine's terms (its card: text VLists); The law of this text in plain engine's terms (its card: text VValue). Conditions: each part's own, as it says. -/
import Derived.Test.YtibfalecohlngaaGreatDoorPA
import Derived.Test.YtibfalecohlngaaGreatDoorUB
import Derived.Test.YtibfalecohlngaaGreatDoorGC
set_option linter.unusedVariables false
set_option linter.unusedSimpArgs false
namespace Go.Proofs.YtibfalecohlngaaGreatDoor
set_option maxRecDepth 4000
open Go Go.Abs Go.Val Go.RowKit Go.Proofs.Tryz
attribute [local irreducible] go SGo an2 Ev aw0 EvO EvS RGo RGw PGo binOp
def naU : ByteArray := ⟨#[97]⟩
def eqU : Ex := opE 12 (ev0 naU) (eh9 1)
def f1U : Ex := opE 7 (opE 7 (eh9 1) (eh9 2)) (ev0 naU)
def f2U : Ex := opE 18 fb8 eqU
def f3U : Ex := opE 18 fb8 (ev0 naU)
def f4U : Ex := opE 8 (eh9 1) (eh9 3)
def lcU : Ex := opE 18 eqU (opE 18 fb8 eqU)
def fd7 (e : Ex) : Ex := bif dq0 e != 0 then e else ep0 e
theorem fd8 (e : Ex) (h1 : decide (nd e ≤ 1000000) = true) (h2 : decide (dp e ≤ 1000000) = true) (h3 : decide (bj2 (dg0 e) ≤ 1048576) = true) : Ev E 9 [dg0 e] (.d (dg0 (fd7 e))) :=
 ex7 e (of_decide_eq_true h1) (of_decide_eq_true h2) (ef0 e _ (of_decide_eq_true h3))
theorem v1U : fd7 f1U = opE 7 (eh9 3) (ev0 naU) := by kernel_rfl
theorem v2U : fd7 f2U = eqU := by kernel_rfl
theorem v3U : fd7 f3U = f3U := by kernel_rfl
theorem v4U : fd7 f4U = f4U := by kernel_rfl
theorem fd9 : Ev E 9 [dg0 f1U] (.d (dg0 (opE 7 (eh9 3) (ev0 naU)))) := by
 have h := fd8 f1U (by decide +kernel) (by decide +kernel) (by decide +kernel);rw [v1U] at h;exact h
theorem fe0 : Ev E 9 [dg0 f2U] (.d (dg0 eqU)) := by
 have h := fd8 f2U (by decide +kernel) (by decide +kernel) (by decide +kernel);rw [v2U] at h;exact h
theorem fe1 : Ev E 9 [dg0 f3U] (.d (dg0 f3U)) := by
 have h := fd8 f3U (by decide +kernel) (by decide +kernel) (by decide +kernel);rw [v3U] at h;exact h
theorem fe2 : Ev E 9 [dg0 f4U] (.d (dg0 f4U)) := by
 have h := fd8 f4U (by decide +kernel) (by decide +kernel) (by decide +kernel);rw [v4U] at h;exact h
def lsU : List Ex := [eqU, fb8, eqU]
theorem conjU : er9 lcU = lsU := by kernel_rfl
theorem fe3 : Ev E 12 [dg0 lcU] (.d (.sl (df9 lsU))) := by
 have h := (ew6 lcU (of_decide_eq_true (by decide +kernel))).ev;rw [conjU] at h;exact h
theorem fe4 : Ev E 14 [.sl []] (.d (dg0 fb8)) := ew9 [] fun x hx => by cases hx
theorem fe5 : nd eqU ≤ 2000000 := of_decide_eq_true (by decide +kernel)
theorem fe6 : Ev E 14 [.sl (df9 lsU)] (.d (dg0 (es2 lsU))) := ew9 lsU fun x hx => by
 simp only [lsU, fh7, List.not_mem_nil, or_false] at hx;rcases hx with rfl | rfl | rfl
 ·exact fe5
 ·rw [fb9]; decide
 ·exact fe5
set_option maxHeartbeats 4000000 in
theorem fe7 : Ev E 7 [] (.d (.bool true)) := by
 have h1 := fd9;have h2 := fe0;have h3 := fe1;have h4 := fe2;have h5 := fe3;have h6 := fe4;have h7 := fe6;have h8 := fd6;have k0 : (df8 (opE 7 (eh9 3) (ev0 naU)))[((0 : Int)).toNat]? = some (dg0 (eh9 3)) := rfl;have kl : (df8 (opE 7 (eh9 3) (ev0 naU))).length = 2 := rfl;have kf : ([ez8 ez7] : List D).length = 1 := rfl;have ke : (df9 lsU).length = 3 := rfl;have k1 : ([ez8 ez7])[((0 : Int)).toNat]? = some (ez8 ez7) := rfl;refine ap5 func7 ntmps7 rfl rfl fun w0 F0 O => ?_
 repeat' (first | refine yz ?_ | refine qP (d := 13) rfl rfl rfl rfl rfl rfl b21 ((ev2 naU)) ?_ | refine qP (d := 14) rfl rfl rfl rfl rfl rfl b22 ((ev1 1)) ?_ | refine qP (d := 15) rfl rfl rfl rfl rfl rfl b20 ((ev3 12 (ev0 naU) (eh9 1))) ?_)
 repeat' (first | refine qP (d := 16) rfl rfl rfl rfl rfl rfl b22 ((ev1 1)) ?_ | refine qP (d := 17) rfl rfl rfl rfl rfl rfl b22 ((ev1 2)) ?_ | refine qP (d := 18) rfl rfl rfl rfl rfl rfl b20 ((ev3 7 (eh9 1) (eh9 2))) ?_)
 repeat' (first | refine yz ?_ | refine qP (d := 19) rfl rfl rfl rfl rfl rfl b21 ((ev2 naU)) ?_ | refine qP (d := 20) rfl rfl rfl rfl rfl rfl b20 ((ev3 7 (opE 7 (eh9 1) (eh9 2)) (ev0 naU))) ?_ | refine qP (d := 21) rfl rfl rfl rfl rfl rfl b9 (h1) ?_)
 repeat' (first | refine yu 5 [4,5] [] ?_ | refine yk 5 0 4 ?_ | refine yz ?_ | refine qP (d := 24) rfl rfl rfl rfl rfl rfl b20 ((ev3 18 fb8 eqU)) ?_ | refine qP (d := 25) rfl rfl rfl rfl rfl rfl b9 (h2) ?_)
 repeat' (first | refine yw ?_ | refine rgN ?_ | refine yv ?_ | refine yz ?_ | refine qP (d := 27) rfl rfl rfl rfl rfl rfl b21 ((ev2 naU)) ?_ | refine qP (d := 28) rfl rfl rfl rfl rfl rfl b20 ((ev3 18 fb8 (ev0 naU))) ?_ | refine qP (d := 29) rfl rfl rfl rfl rfl rfl b9 (h3) ?_)
 repeat' (first | refine yz ?_ | refine qP (d := 30) rfl rfl rfl rfl rfl rfl b22 ((ev1 1)) ?_ | refine qP (d := 31) rfl rfl rfl rfl rfl rfl b22 ((ev1 3)) ?_ | refine qP (d := 32) rfl rfl rfl rfl rfl rfl b20 ((ev3 8 (eh9 1) (eh9 3))) ?_ | refine qP (d := 33) rfl rfl rfl rfl rfl rfl b9 (h4) ?_)
 repeat' (first | refine yz ?_ | refine qP (d := 37) rfl rfl rfl rfl rfl rfl b20 ((ev3 18 fb8 eqU)) ?_ | refine qP (d := 38) rfl rfl rfl rfl rfl rfl b20 ((ev3 18 eqU (opE 18 fb8 eqU))) ?_ | refine yp b12 h5 ?_ | fail)
 repeat' (first | refine yz ?_ | (refine qP (d := 48) rfl rfl rfl rfl rfl (by kernel_rfl) b23 h8 ?_) | refine qI (dg0 (eh9 3)) rfl (ap2 rfl) rfl rfl rfl rfl rfl rfl (by first | omega | decide) k0 ?_ | refine bo0 ?_ | refine bm1 rfl rfl rfl rfl rfl rfl rfl ?_ | refine qP (d := 88) rfl rfl rfl rfl rfl rfl b14 (h6) ?_ | refine qP (d := 95) rfl rfl rfl rfl rfl rfl b14 (h7) ?_ | refine yi (ez8 ez7) k1 ?_ | exact zD)
end Go.Proofs.YtibfalecohlngaaGreatDoor
namespace Go.Proofs.YtibfalecohlngaaGreatDoor
set_option maxRecDepth 4000
open Go Go.Abs Go.Val Go.RowKit Go.ChangeShapes Go.WideShapes Go.Proofs.Tryz
attribute [local irreducible] go SGo an2 Ev aw0 EvO EvS RGo RGw PGo
theorem fe8 {e : Ex} (h : bj3 [dg0 e] ≤ 1048576) : bj2 (dg0 e) ≤ 1048576 ∧ nd e ≤ 1000000 ∧ dp e ≤ 1000000 := by
 have hn := ee7 e;have hd := ee8 e;rw [bj3, bj3] at h;omega
theorem law_fold36 (e : Ex) (h : bj3 [dg0 e] ≤ 1048576) : Ev E 3 [dg0 e] (.d (.bool true)) := by
 obtain ⟨hb, hn, hd⟩ := fe8 h;have h1 := ev7 [e] fun x hx => by rw [fl4.1 hx]; omega
 have ha := fe7
 cases hl : ev5 [e] 0 with
 | false =>
  rw [hl] at h1;refine ye1 func3 ntmps3 fun _ _ _=>?_
  repeat' (first | refine yz ?_ | refine yp b6 h1 ?_ | refine yp b7 ha ?_ | exact zD)
 | true =>
  rw [hl] at h1;have hc := ef0 e 1048576 hb;have h2 := ex7 e hn hd hc;have h3 := ey1 e hn hd hc;generalize (bif dq0 e != 0 then e else ep0 e) = f at *;have h4 := et6 f;refine ye1 func3 ntmps3 fun _ _ _=>?_
  repeat' (first | refine yz ?_ | refine yp b6 h1 ?_ | refine yp b7 ha ?_ | refine yp b9 h2 ?_ | refine yp b10 h3 ?_ | refine yp b8 h4 ?_ | exact zD)
theorem fe9 {x : D} (h : az5 Tryz.prog 25 x) : ∃ l, x = .sl (df9 l) := (ty_E h).2 rfl
theorem ff0 {e : Ex} {l : List Ex} (h : bj3 [dg0 e, .sl (df9 l)] ≤ 1048576) : nd e ≤ 1000000 ∧ ∀ x ∈ l, nd x ≤ 1000000 := by
 have hn := ee7 e;rw [bj3, bj3, bj3, bj2] at h;refine ⟨by omega, fun x hx => ?_⟩;have h2 := ee7 x;have h3 : bj2 (dg0 x) ≤ bj3 (df9 l) := by rw [dg1]; exact ee4 hx
 omega
theorem ff1 : ∀ {l : List Ex} {n : Int}, 0 ≤ n → n ≤ 600 → ev5 l n = true → n + ndL l ≤ 600
 | [], n, _, h1, _ => by simp only [ndL]; omega
 | a :: r, n, hn, _, h => by
  rw [ev5] at h;have hz := ei1 a
  cases hd : decide (n + szE a > 600) with
  | true => rw [hd] at h; cases h
  | false =>
   rw [hd, cond_false] at h;have h1 := of_decide_eq_false hd;have h2 := ff1 (by omega) (by omega) h;have h3 := ei3 a (by omega);simp only [ndL];omega
theorem ff2 : ∀ (r : List Ex) (x : Ex), nd (r.foldl es1 x) = nd x + ndL r + r.length
 | [], x => by simp [ndL]
 | y :: r, x => by
  have h := ff2 r (es1 x y)
  have h2 : nd (es1 x y) = nd x + nd y + 1 := by
   unfold es1;rw [dk6];show ndL [x, y] + 1 = _;simp only [ndL]; omega
  rw [fo7, h, h2];simp only [ndL, fh9]; omega
theorem ff3 {l : List Ex} : nd (es2 l) ≤ 2 * ndL l + 1 := by
 cases l with
 | nil => decide +kernel
 | cons x r =>
  have h := ff2 r x;have h2 := ew0 r;show nd (r.foldl es1 x) ≤ _;rw [h];simp only [ndL]; omega
structure SLi3 (l : List Ex) where
 i : Nat
 hi : i ≤ l.length
 ok : ∀ j, j < i → ∀ y, l[j]? = some y → y.op ≠ 18
set_option maxHeartbeats 1000000 in
theorem law_lists (e : Ex) (l : List Ex) (h : bj3 [dg0 e, .sl (df9 l)] ≤ 1048576) : Ev E 4 [dg0 e, .sl (df9 l)] (.d (.bool true)) := Ev.fit fun hfit => by
 obtain ⟨hmax, -⟩ := dg8 (hfit (.sl (df9 l)) (by simp));obtain ⟨hn, hnl⟩ := ff0 h;have h1 := ev7 [e] fun x hx => by rw [fl4.1 hx]; omega
 have h2 := ev7 l fun x hx => by have := hnl x hx; omega
 have ha := fe7;clear h
 cases hl1 : ev5 [e] 0 with
 | false =>
  rw [hl1] at h1;refine ye2 func4 ntmps4 fun _ _ _=>?_
  repeat' (first | refine yz ?_ | refine qP (d := 8) rfl rfl rfl rfl rfl rfl b6 (h1) ?_ | refine yp b7 ha ?_ | exact zD)
 | true =>
 rw [hl1] at h1
 cases hl2 : ev5 l 0 with
 | false =>
  rw [hl2] at h2;refine ye2 func4 ntmps4 fun _ _ _=>?_
  repeat' (first | refine yz ?_ | refine qP (d := 8) rfl rfl rfl rfl rfl rfl b6 (h1) ?_ | refine qP (d := 12) rfl rfl rfl rfl rfl rfl b6 (h2) ?_ | refine yp b7 ha ?_ | exact zD)
 | true =>
 rw [hl2] at h2;have hnd := ff1 (by omega) (by omega) hl2;have hc1 := (ew6 e hn).ev;have hc2 := (ew7 e hn).ev;have hs1 := et7 (er9 e);have ha1 := ew9 l fun x hx => by have := hnl x hx; omega
 have ha2 := ex0 l;have hs2 := et6 (es2 l);have hle : (df9 l).length = l.length := dg6 l;have hca := ff3 (l := l);have hc3 := (ew6 (es2 l) (by omega)).ev;have hs3 := et7 l;have hinv : l ≠ [] → (∀ y ∈ l, y.op ≠ 18) → er9 (es2 l) = l := et3;generalize er9 e = ce at *;generalize es2 l = al at *;refine ye2 func4 ntmps4 fun _ _ _=>?_
 repeat' (first | refine yz ?_ | refine qP (d := 8) rfl rfl rfl rfl rfl rfl b6 (h1) ?_ | refine qP (d := 12) rfl rfl rfl rfl rfl rfl b6 (h2) ?_ | refine qP (d := 17) rfl rfl rfl rfl rfl rfl b12 (hc1) ?_ | refine qP (d := 19) rfl rfl rfl rfl rfl rfl b13 (hc2) ?_ | refine qP (d := 20) rfl rfl rfl rfl rfl rfl b11 (hs1) ?_ | refine qP (d := 24) rfl rfl rfl rfl rfl rfl b14 (ha1) ?_ | refine qP (d := 26) rfl rfl rfl rfl rfl rfl b15 (ha2) ?_ | refine qP (d := 27) rfl rfl rfl rfl rfl rfl b8 (hs2) ?_)
 refine ac7 (α := SLi3 l) (fun p => ⟨[(1, .d (.sl (df9 l))), (5, .d (.int p.i))], []⟩) (fun p => l.length - p.i) ⟨0, by omega, fun j hj => absurd hj (by omega)⟩ (zle 0) ?_;rintro ⟨i, hi, ok⟩;dsimp only;rcases fg7 i l.length with hlt | hge
 ·have g1 : decide ((i : Int) < ((df9 l).length : Int)) = true := by rw [hle]; simpa using hlt
  have hx0 := fg5 hlt;generalize l[i] = x at hx0;have hx : (df9 l)[(i : Int).toNat]? = some (dg0 x) := dg4 (by rw [fh0]; exact hx0)
  cases ho : x.op == 18 with
  | true =>
   repeat' (first | refine yz ?_ | refine yi (dg0 x) hx ?_ | refine yp b7 ha ?_ | exact zD)
  | false =>
   repeat' (first | refine yz ?_ | refine yi (dg0 x) hx ?_ | fail)
   refine ac1 ?_;refine ⟨⟨i + 1, by omega, fun j hj y hy => ?_⟩, by dsimp only; omega, (zle 0)⟩;rcases Nat.lt_succ_iff_lt_or_eq.1 hj with h1 | rfl
   ·exact ok j h1 y hy
   ·rw [hx0] at hy; cases hy; simpa using ho
 ·have g1 : decide ((i : Int) < ((df9 l).length : Int)) = false := by rw [hle]; simp; omega
  cases h0 : ((df9 l).length : Int) == 0 with
  | true =>
   repeat' (first | refine yz ?_ | refine yp b7 ha ?_ | refine yx ?_ | exact zD)
  | false =>
   have hne : l ≠ [] := by rintro rfl; cases h0
   have he := hinv hne fun y hy => by
    obtain ⟨j, hj⟩ := fi4 hy;exact ok j (by have := (fg8.1 hj).1; omega) y hj
   rw [he] at hc3
   repeat' (first | refine yz ?_ | refine qP (d := 48) rfl rfl rfl rfl rfl rfl b14 (ha1) ?_ | refine qP (d := 49) rfl rfl rfl rfl rfl rfl b12 (hc3) ?_ | refine qP (d := 51) rfl rfl rfl rfl rfl rfl b11 (hs3) ?_ | refine yp b7 ha ?_ | refine yx ?_ | exact zD)
theorem ff4 {v : V} (ho : Val.okV v = true) (hw : eo5 v = true) : cu8 v ≤ 3 := by
 have hs := ef4 8 v ho
 have hl : v.l = [] := by
  have hc := eq0 ho hw;unfold dk4 at hc;rw [fi1, fg6] at hc;rcases hc with h | ⟨h, -⟩
  ·unfold dj3 at h;simp only [fg6, beq_iff_eq] at h;have := h.2.2.2.2;unfold l0 at this;rw [bo6] at this
   cases hl : v.l with
   | nil => rfl
   | cons a r => rw [hl] at this; simp at this; omega
  ·exact en7 h ho
 rw [cv0, hl];simp only [cu9];omega
theorem ff5 {C : Nat} : ∀ {l : List Ex}, (∀ x ∈ l, cE C x) → cEL C l
 | [], _ => by simp only [cEL]
 | a :: r, h => by
  simp only [cEL];exact ⟨h a (by simp), ff5 fun x hx => h x (by simp [hx])⟩
theorem ff6 {C : Nat} (h3 : 3 ≤ C) (e : Ex) : cE C e → cE C (ep0 e) := by
 refine dg9 (P := fun e => cE C e → cE C (ep0 e)) (fun op v nm ds ks ih h => ?_) e;simp only [cE] at h;rw [er8]
 cases hb : el1 (.mk op v nm ds ks) && eo5 (ed3 gZ [] (.mk op v nm ds ks)) with
 | true =>
  rw [fg6] at hb;rw [cond_true];unfold eo7;simp only [cE, cEL, and_true];have := ff4 (ed5 gZ [] (.mk op v nm ds ks)) hb.2;omega
 | false =>
  rw [cond_false]
  have hk : ∀ x ∈ ks.map ep0, cE C x := fun x hx => by
   obtain ⟨y, hy, rfl⟩ := fk8.1 hx;exact ih y hy (ef1 h.2 y hy)
  rcases ep3 op v nm ds (ks.map ep0) with h1 | ⟨a, b, hab, -, ⟨-, -, h1⟩ | ⟨-, -, h1⟩⟩
  ·rw [h1];simp only [cE];exact ⟨h.1, ff5 hk⟩
  ·rw [h1]; exact hk b (by rw [hab]; simp)
  ·rw [h1]; exact hk a (by rw [hab]; simp)
theorem ff7 {C : Nat} (e : Ex) : cE C e → ∀ x ∈ er9 e, cE C x := by
 refine dg9 (P := fun e => cE C e → ∀ x ∈ er9 e, cE C x) (fun op v nm ds ks ih h => ?_) e;have h' := h;simp only [cE] at h;rw [er9]
 have key : ∀ l : List Ex, (∀ x ∈ l, cE C x → ∀ y ∈ er9 x, cE C y) → (∀ x ∈ l, cE C x) → ∀ y ∈ es0 l, cE C y := by
  intro l
  induction l with
  | nil => intro _ _ y hy; cases hy
  | cons a r ihr =>
   intro hx hc y hy;rw [es0, fj3] at hy;rcases hy with hy | hy
   ·exact hx a (by simp) (hc a (by simp)) y hy
   ·exact ihr (fun x hm => hx x (by simp [hm])) (fun x hm => hc x (by simp [hm])) y hy
 cases op == 18 && ks.length == 2 with
 | true => rw [cond_true]; exact key ks ih (ef1 h.2)
 | false =>
  rw [cond_false];intro x hx;rw [fl4.1 hx];exact h'
theorem ff8 {C : Nat} (h1 : 1 ≤ C) : ∀ (r : List Ex) (x : Ex), cE C x → (∀ y ∈ r, cE C y) → cE C (r.foldl es1 x)
 | [], _, h, _ => h
 | y :: r, x, h, hr => by
  rw [fo7];refine ff8 h1 r _ ?_ fun z hz => hr z (by simp [hz])
  unfold es1;simp only [cE, cEL, and_true];exact ⟨by rw [ef5]; exact h1, h, hr y (by simp)⟩
theorem ff9 {C : Nat} (h3 : 3 ≤ C) {l : List Ex} (h : ∀ x ∈ l, cE C x) : cE C (es2 l) := by
 cases l with
 | nil =>
  unfold es2 eo7;simp only [cE, cEL, and_true];have : cu8 (bp4 true) = 1 := by decide +kernel
  omega
 | cons x r => exact ff8 (by omega) r x (h x (by simp)) fun y hy => h y (by simp [hy])
theorem fg0 : ∀ (a b : List Ex), ndL (a ++ b) = ndL a + ndL b
 | [], b => by simp [ndL]
 | x :: r, b => by simp only [fp4, ndL, fg0 r b]; omega
theorem fg1 (e : Ex) : ndL (er9 e) + (er9 e).length ≤ nd e + 1 := by
 refine dg9 (P := fun e => ndL (er9 e) + (er9 e).length ≤ nd e + 1) (fun op v nm ds ks ih => ?_) e;rw [er9]
 cases hc : op == 18 && ks.length == 2 with
 | true =>
  rw [cond_true];rw [fg6, beq_iff_eq, beq_iff_eq] at hc
  match ks, hc.2, ih with
  | [a, b], _, ih =>
   have ha := ih a (by simp);have hb := ih b (by simp);rw [dk6];show _ ≤ ndL [a, b] + 1 + 1;rw [es0, es0, es0, fn1, fg0, fi3];simp only [ndL];omega
 | false => rw [cond_false]; simp [ndL]
theorem fg2 (e : Ex) : nd (es2 (er9 e)) ≤ nd e := by
 have h := fg1 e;have hne := es8 e
 cases hc : er9 e with
 | nil => exact absurd hc hne
 | cons x r =>
  rw [hc] at h;show nd (r.foldl es1 x) ≤ _;rw [ff2];simp only [ndL, fh9] at h;omega
theorem fg3 {g : Gr} {env : List Bd} {e : Ex} (h : dq0 e = 0) : ed3 g env e = evF g env e := by unfold ed3; rw [h]; rfl
theorem fg4 {g : Gr} {e : Ex} {env : List Bd} (h : bj3 [dc3 g, dg0 e, .sl (env.map dc4)] ≤ 1048576) : bj2 (dc3 g) ≤ 1048576 ∧ bj2 (dg0 e) ≤ 1048576 ∧ bj3 (env.map dc4) ≤ 1048576 := by
 rw [bj3, bj3, bj3, bj3, bj2] at h;omega
set_option maxHeartbeats 4000000 in
theorem law_value (g : Gr) (e : Ex) (env : List Bd) (h : bj3 [dc3 g, dg0 e, .sl (env.map dc4)] ≤ 1048576) : Ev E 5 [dc3 g, dg0 e, .sl (env.map dc4)] (.d (.bool true)) := Ev.fit fun hfit => by
 have hmax := (dq5 (hfit (.sl (env.map dc4)) (by simp))).1;obtain ⟨hbg, hbe, hbv⟩ := fg4 h;have hnb := ee7 e;have hdp := ee8 e;have hle : (env.map dc4).length = env.length := by simp
 have h1 := ev7 [e] fun x hx => by rw [fl4.1 hx]; omega
 have ha := fe7;obtain ⟨gn, ge, g1, g2⟩ := g;have hgn : (gn.map dc1).length = gn.length := by simp
 have hge : (ge.map dc2).length = ge.length := by simp
 have hG : dc3 ⟨gn, ge, g1, g2⟩ = .agg [.sl (gn.map dc1), .sl (ge.map dc2), .int g1, .int g2] := rfl;have hbulk := hbg
 cases hl : ev5 [e] 0 with
 | false =>
  rw [hl] at h1;rw [hG];refine ye3 func5 ntmps5 fun _ _ _=>?_
  repeat' (first | refine yz ?_ | refine yp b6 h1 ?_ | refine yp b7 ha ?_ | exact zD)
 | true =>
 rw [hl] at h1;have hnd : nd e ≤ 600 := ev8 (by omega) hl e (by simp)
 cases c1 : decide (((env.map dc4).length : Int) > 60) with
 | true =>
  rw [hG];refine ye3 func5 ntmps5 fun _ _ _=>?_
  repeat' (first | refine yz ?_ | refine yp b6 h1 ?_ | refine yp b7 ha ?_ | refine yx ?_ | exact zD)
 | false =>
 cases c2 : decide (((gn.map dc1).length : Int) > 100) with
 | true =>
  rw [hG];refine ye3 func5 ntmps5 fun _ _ _=>?_
  repeat' (first | refine yz ?_ | refine yp b6 h1 ?_ | refine yp b7 ha ?_ | refine yx ?_ | exact zD)
 | false =>
 cases c3 : decide (((ge.map dc2).length : Int) > 100) with
 | true =>
  rw [hG];refine ye3 func5 ntmps5 fun _ _ _=>?_
  repeat' (first | refine yz ?_ | refine yp b6 h1 ?_ | refine yp b7 ha ?_ | refine yx ?_ | exact zD)
 | false =>
 have hc := ef0 e 1048576 hbe;have h2 := ex7 e (by omega) (by omega) hc;have h3 := dq2 e (by omega) (by omega)
 cases hz : dq0 e != 0 with
 | true =>
  rw [hz, cond_true] at h2;have h4 := et6 e;generalize dq0 e = z at *;rw [hG];refine ye3 func5 ntmps5 fun _ _ _=>?_
  repeat' (first | refine yz ?_ | refine yp b6 h1 ?_ | refine yp b7 ha ?_ | refine yp b9 h2 ?_ | refine yp b16 h3 ?_ | refine yp b8 h4 ?_ | refine yx ?_ | exact zD)
 | false =>
  have hz0 : dq0 e = 0 := by simpa using hz
  rw [hz, cond_false] at h2;rw [hz0] at h3;have hok := fold_ok e hz0;have hfc := hok.chk hz0;have hfn := hok.nd;have hfd := hok.dp;have hcf := ff6 (by omega) e hc;have h5 := dq2 (ep0 e) (by omega) (by omega);rw [hfc] at h5;have h6 := ex7 (ep0 e) (by omega) (by omega) hcf;rw [hfc, hok.idem] at h6;have h6 : Ev E 9 [dg0 (ep0 e)] (.d (dg0 (ep0 e))) := h6;have h7 := et6 (ep0 e);have h8 := ev4 (ep0 e) (by omega);have h9 := ev4 e (by omega);have hs1 := ei1 (ep0 e);have hs2 := ei1 e;have hs3 := ei3 (ep0 e) (by omega);have hs4 := ei3 e (by omega);have g4 : decide (szE (ep0 e) > szE e) = false := by simp; omega
  obtain ⟨hev, hec⟩ := ej3 hbv;have hokE : ed6 ⟨gn, ge, g1, g2⟩ env e := ej5 hbg (by omega) hec hc (by omega);have hokF : ed6 ⟨gn, ge, g1, g2⟩ env (ep0 e) := ej5 hbg (by omega) hec hcf (by omega);have h10 := ed8 ⟨gn, ge, g1, g2⟩ env e hokE;have h11 := ed8 ⟨gn, ge, g1, g2⟩ env (ep0 e) hokF;have hvv : ed3 ⟨gn, ge, g1, g2⟩ env (ep0 e) = ed3 ⟨gn, ge, g1, g2⟩ env e := by rw [fg3 hfc, fg3 hz0, hok.val]
  rw [hvv] at h11;have h12 := et6 (eo7 (ed3 ⟨gn, ge, g1, g2⟩ env e));have h13 := (ew6 e (by omega)).ev;have hxn := fg2 e;have hxd := ee8 (es2 (er9 e));have h14 := ew9 (er9 e) fun x hx => by have := fg1 e; have h := dk7 hx; omega
  have hcx := ff9 (by omega : 3 ≤ 1048576) (ff7 e hc);have h15 := dq2 (es2 (er9 e)) (by omega) (by omega);have hokX : ed6 ⟨gn, ge, g1, g2⟩ env (es2 (er9 e)) := ej5 hbg (by omega) hec hcx (by omega);have h16 := ed9 ⟨gn, ge, g1, g2⟩ env (es2 (er9 e)) hokX;have h17 := ed9 ⟨gn, ge, g1, g2⟩ env e hokE;have htr := es9 ⟨gn, ge, g1, g2⟩ env e
  cases hxz : dq0 (es2 (er9 e)) != 0 with
  | true =>
   generalize dq0 (es2 (er9 e)) = zx at *;clear htr hokX hcx hxd hxn hokF hokE hec hev hs4 hs3 hok hfc hcf hfn hfd hvv hc hz hz0 hl;generalize es2 (er9 e) = x at *;generalize er9 e = ce at *;generalize ep0 e = fe at *;generalize szE fe = s1 at *;generalize szE e = s2 at *;rw [hG] at h10 h11 h16 h17 ⊢;generalize ed3 ⟨gn, ge, g1, g2⟩ env e = w at *;generalize ed3 ⟨gn, ge, g1, g2⟩ env x = wx at *;refine ye3 func5 ntmps5 fun _ _ _=>?_
   repeat' (first | refine yz ?_ | refine yp b6 h1 ?_ | refine yp b7 ha ?_ | refine qP (d := 34) rfl rfl rfl rfl rfl rfl b9 (h2) ?_ | refine qP (d := 36) rfl rfl rfl rfl rfl rfl b16 (h3) ?_ | refine qP (d := 45) rfl rfl rfl rfl rfl rfl b16 (h5) ?_ | refine qP (d := 49) rfl rfl rfl rfl rfl rfl b9 (h6) ?_ | refine qP (d := 51) rfl rfl rfl rfl rfl rfl b8 (h7) ?_ | refine qP (d := 56) rfl rfl rfl rfl rfl rfl b17 (h8) ?_ | refine qP (d := 58) rfl rfl rfl rfl rfl rfl b17 (h9) ?_ | refine qP (d := 64) rfl rfl rfl rfl rfl rfl b18 (h10) ?_ | refine qP (d := 69) rfl rfl rfl rfl rfl rfl b18 (h11) ?_ | refine qP (d := 73) rfl rfl rfl rfl rfl rfl b8 (h12) ?_ | refine yp b12 h13 ?_ | refine yp b14 h14 ?_ | refine qP (d := 79) rfl rfl rfl rfl rfl rfl b16 (h15) ?_ | refine yx ?_ | exact zD)
  | false =>
   have hxz0 : dq0 (es2 (er9 e)) = 0 := by simpa using hxz
   rw [hxz0] at h15;rw [fg3 hxz0, htr, ← fg3 hz0] at h16;have g5 : (bq8 (ed3 ⟨gn, ge, g1, g2⟩ env e) == bq8 (ed3 ⟨gn, ge, g1, g2⟩ env e)) = true := beq_self_eq_true _;clear htr hokX hcx hxd hxn hokF hokE hec hev hs4 hs3 hok hfc hcf hfn hfd hvv hc hz hz0 hl hxz hxz0;generalize es2 (er9 e) = x at *;generalize er9 e = ce at *;generalize ep0 e = fe at *;generalize szE fe = s1 at *;generalize szE e = s2 at *;rw [hG] at h10 h11 h16 h17 ⊢;generalize ed3 ⟨gn, ge, g1, g2⟩ env e = w at *;generalize bq8 w = t at *;refine ye3 func5 ntmps5 fun _ _ _=>?_
   repeat' (first | refine yz ?_ | refine yp b6 h1 ?_ | refine yp b7 ha ?_ | refine qP (d := 34) rfl rfl rfl rfl rfl rfl b9 (h2) ?_ | refine qP (d := 36) rfl rfl rfl rfl rfl rfl b16 (h3) ?_ | refine qP (d := 45) rfl rfl rfl rfl rfl rfl b16 (h5) ?_ | refine qP (d := 49) rfl rfl rfl rfl rfl rfl b9 (h6) ?_ | refine qP (d := 51) rfl rfl rfl rfl rfl rfl b8 (h7) ?_ | refine qP (d := 56) rfl rfl rfl rfl rfl rfl b17 (h8) ?_ | refine qP (d := 58) rfl rfl rfl rfl rfl rfl b17 (h9) ?_ | refine qP (d := 64) rfl rfl rfl rfl rfl rfl b18 (h10) ?_ | refine qP (d := 69) rfl rfl rfl rfl rfl rfl b18 (h11) ?_ | refine qP (d := 73) rfl rfl rfl rfl rfl rfl b8 (h12) ?_ | refine yp b12 h13 ?_ | refine yp b14 h14 ?_ | refine qP (d := 79) rfl rfl rfl rfl rfl rfl b16 (h15) ?_ | refine qP (d := 85) rfl rfl rfl rfl rfl rfl b19 (h16) ?_ | refine qP (d := 89) rfl rfl rfl rfl rfl rfl b19 (h17) ?_ | refine yx ?_ | exact zD)
end Go.Proofs.YtibfalecohlngaaGreatDoor
