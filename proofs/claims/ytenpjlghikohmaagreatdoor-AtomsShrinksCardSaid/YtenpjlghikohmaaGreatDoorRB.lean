/- Rows of integers compared by the specification and by the library; rows without their repeats; relations compared with themselves; The specification's merge and its sort of rows; The library's comparison of rows of integers, its sort in place of such rows, its removal of repeats among them, as the engine's contracts; The relation of an atom, by the program; The relation of an atom, by the specification: the program's; The law AtomsRels, given that the chapter's example holds. Conditions: each part's own, as it says. -/
import Derived.Test.YtenpjlghikohmaaGreatDoorWA
import Derived.Test.YtenpjlghikohmaaGreatDoorZA
import Derived.Test.YtenpjlghikohmaaGreatDoorLB
import Derived.Test.YtenpjlghikohmaaGreatDoorGC
import Derived.Test.YtenpjlghikohmaaGreatDoorRA
import Derived.Test.YtenpjlghikohmaaGreatDoorLD
import Derived.Test.YtenpjlghikohmaaGreatDoorGG
set_option linter.unusedVariables false
set_option linter.unusedSimpArgs false
namespace Go.Proofs.YtenpjlghikohmaaGreatDoor
set_option maxRecDepth 4000
open Go Go.Abs Go.Val Go.RowKit Go.Proofs.Tryz
attribute [local irreducible] go SGo an2 Ev aw2 EvO EvS PGo RGo
abbrev rowD (r : List Int) : D := .sl (iL r)
def rL (l : List (List Int)) : List D := l.map rowD
theorem ei6 (l : List (List Int)) : (rL l).length = l.length := by simp [rL]
theorem ei7 {a b : List Int} {i : Nat} (ha : i ≤ a.length) (hb : i ≤ b.length) (h : a.length ≤ i ∨ b.length ≤ i) : du7 (a.drop i) (b.drop i) = bif decide ((a.length : Int) < b.length) then -1 else bif decide ((a.length : Int) > b.length) then 1 else 0 := by
 have la : (a.drop i).length = a.length - i := by simp
 have lb : (b.drop i).length = b.length - i := by simp
 cases hA : a.drop i with
 | nil =>
  rw [hA] at la
  cases hB : b.drop i with
  | nil =>
   rw [hB] at lb;simp only [fd1] at la lb;rw [decide_eq_false (by omega), decide_eq_false (by omega)];rfl
  | cons y q =>
   rw [hB] at lb;simp only [fd1, fa8] at la lb;rw [decide_eq_true (by omega)];rfl
 | cons x r =>
  rw [hA] at la
  cases hB : b.drop i with
  | nil =>
   rw [hB] at lb;simp only [fd1, fa8] at la lb;rw [decide_eq_false (by omega), decide_eq_true (by omega)];rfl
  | cons y q =>
   rw [hB] at lb;simp only [fa8] at la lb;omega
structure SCl (a b : List Int) (R : Int) where
 i : Nat
 ha : i ≤ a.length
 hb : i ≤ b.length
 ok : R = du7 (a.drop i) (b.drop i)
set_option maxHeartbeats 2000000 in
theorem ei8 (a b : List Int) : Ev E 117 [.sl (iL a), .sl (iL b)] (.d (.int (du7 a b))) := Ev.fit fun hfit => by
 have m1 := (cy4 (hfit (.sl (iL a)) (by simp))).1;have m2 := (cy4 (hfit (.sl (iL b)) (by simp))).1;have la := di9 a;have lb := di9 b;have hend := fun i ha hb h => ei7 (a := a) (b := b) (i := i) ha hb h
 rw [← la, ← lb] at hend;generalize hR : du7 a b = R;refine ye2 func117 ntmps117 fun _ _ _=>?_
 repeat' (refine yz ?_)
 refine ac7 (α := SCl a b R) (fun p => ⟨[(0, .d (.sl (iL a))), (1, .d (.sl (iL b))), (5, .d (.int p.i))], []⟩) (fun p => a.length - p.i) ⟨0, by omega, by omega, hR.symm⟩ (zle 0) ?_;rintro ⟨i, ha, hb, ok⟩;dsimp only;have hE : (a.length ≤ i ∨ b.length ≤ i) → R = bif decide (((iL a).length : Int) < (iL b).length) then -1 else bif decide (((iL a).length : Int) > (iL b).length) then 1 else 0 := fun h => by rw [ok]; exact hend i (by omega) (by omega) (by omega)
 rcases ez6 i a.length with hlt | hge
 ·have g1 : decide ((i : Int) < ((iL a).length : Int)) = true := by rw [la]; simpa using hlt
  rcases ez6 i b.length with hlb | hgb
  ·have g2 : decide ((i : Int) < ((iL b).length : Int)) = true := by rw [lb]; simpa using hlb
   have hx0 := ez5 hlt;have hy0 := ez5 hlb;generalize a[i] = x at hx0;generalize b[i] = y at hy0;have hx := dj0 hx0;have hy := dj0 hy0;rw [bz2 hx0, bz2 hy0, du8] at ok
   cases c1 : decide (x < y) with
   | true =>
    rw [c1] at ok;rw [show R = -1 from ok]
    repeat' (first | refine yz ?_ | refine yi (.int x) hx ?_ | refine yi (.int y) hy ?_ | refine yx ?_ | exact zD)
   | false =>
    cases c2 : decide (x > y) with
    | true =>
     rw [c1, c2] at ok;rw [show R = 1 from ok]
     repeat' (first | refine yz ?_ | refine yi (.int x) hx ?_ | refine yi (.int y) hy ?_ | refine yx ?_ | exact zD)
    | false =>
     rw [c1, c2] at ok
     repeat' (first | refine yz ?_ | refine yi (.int x) hx ?_ | refine yi (.int y) hy ?_ | refine yx ?_)
     refine ac1 ?_;exact ⟨⟨i + 1, by omega, by omega, ok⟩, by dsimp only; omega, (zle 0)⟩
  ·have g2 : decide ((i : Int) < ((iL b).length : Int)) = false := by rw [lb]; simp; omega
   have hE := hE (.inr hgb)
   cases c1 : decide (((iL a).length : Int) < (iL b).length) with
   | true =>
    rw [c1] at hE;rw [show R = -1 from hE]
    repeat' (first | refine yz ?_ | refine yx ?_ | exact zD)
   | false =>
    cases c2 : decide (((iL a).length : Int) > (iL b).length) with
    | true =>
     rw [c1, c2] at hE;rw [show R = 1 from hE]
     repeat' (first | refine yz ?_ | refine yx ?_ | exact zD)
    | false =>
     rw [c1, c2] at hE;rw [show R = 0 from hE]
     repeat' (first | refine yz ?_ | refine yx ?_ | exact zD)
 ·have g1 : decide ((i : Int) < ((iL a).length : Int)) = false := by rw [la]; simp; omega
  have hE := hE (.inl hge)
  cases c1 : decide (((iL a).length : Int) < (iL b).length) with
  | true =>
   rw [c1] at hE;rw [show R = -1 from hE]
   repeat' (first | refine yz ?_ | refine yx ?_ | exact zD)
  | false =>
   cases c2 : decide (((iL a).length : Int) > (iL b).length) with
   | true =>
    rw [c1, c2] at hE;rw [show R = 1 from hE]
    repeat' (first | refine yz ?_ | refine yx ?_ | exact zD)
   | false =>
    rw [c1, c2] at hE;rw [show R = 0 from hE]
    repeat' (first | refine yz ?_ | refine yx ?_ | exact zD)
theorem ei9 (a b : List Int) : Ev E 78 [.sl (iL a), .sl (iL b)] (.d (.bool (du7 a b == 0))) := by
 have h := ei8 a b;generalize du7 a b = z at *;refine ye2 func78 ntmps78 fun _ _ _=>?_
 repeat' (first | refine yz ?_ | refine yp bu3 h ?_ | exact zD)
structure SNn (n : Nat) where
 i : Nat
 hi : i ≤ n
theorem ej0 {l : List (List Int)} {i : Nat} {x : List Int} (h : l[i]? = some x) : (rL l)[((i : Nat) : Int).toNat]? = some (.sl (iL x)) := by
 rw [fb4, rL, ez8, h];rfl
theorem ej1 (l : List (List Int)) : Ev E 27 [.sl (rL l), .sl (rL l)] (.d (.bool true)) := Ev.fit fun hfit => by
 have m1 := (cy4 (hfit (.sl (rL l)) (by simp))).1;have la := ei6 l;have g0 : (((rL l).length : Int) != ((rL l).length : Int)) = false := by simp
 refine ye2 func27 ntmps27 fun _ _ _=>?_
 repeat' (refine yz ?_)
 refine ac7 (α := SNn l.length) (fun p => ⟨[(0, .d (.sl (rL l))), (1, .d (.sl (rL l))), (5, .d (.int p.i))], []⟩) (fun p => l.length - p.i) ⟨0, by omega⟩ (zle 0) ?_;rintro ⟨i, hi⟩;dsimp only;rcases ez6 i l.length with hlt | hge
 ·have g1 : decide ((i : Int) < ((rL l).length : Int)) = true := by rw [la]; simpa using hlt
  have hx0 := ez5 hlt;generalize l[i] = x at hx0;have hx := ej0 hx0;have h := ei9 x x;rw [dv4] at h;have h : Ev E 78 [.sl (iL x), .sl (iL x)] (.d (.bool true)) := h
  repeat' (first | refine yz ?_ | refine qI (.sl (iL x)) rfl (ap2 rfl) rfl rfl rfl rfl rfl rfl (by first | omega | decide) hx ?_ | refine yp b78 h ?_)
  refine ac1 ?_;exact ⟨⟨i + 1, by omega⟩, by dsimp only; omega, (zle 0)⟩
 ·have g1 : decide ((i : Int) < ((rL l).length : Int)) = false := by rw [la]; simp; omega
  repeat' (first | refine yz ?_ | exact zD)
def ej2 (n : Int) (l : List (List Int)) : D := .agg [.int n, .sl (rL l)]
structure SEz (a b : List Int) where
 i : Nat
 hi : i ≤ a.length
 ok : du7 a b = du7 (a.drop i) (b.drop i)
theorem ej3 (a b : List Int) : Ev E 66 [.sl (iL a), .sl (iL b)] (.d (.bool (du7 b a == 0))) := Ev.fit fun hfit => by
 have m1 := (cy4 (hfit (.sl (iL a)) (by simp))).1;have la := di9 a;have lb := di9 b
 have e : (du7 b a == 0) = (du7 a b == 0) := by
  rw [dv2 a b]
  cases h : du7 a b == 0 with
  | true => rw [beq_iff_eq] at h ⊢; omega
  | false => rw [beq_eq_false_iff_ne] at h ⊢; omega
 rw [e]
 by_cases hl : a.length = b.length
 ·have g0 : (((iL a).length : Int) != ((iL b).length : Int)) = false := by rw [la, lb, hl]; simp
  refine ye2 func66 ntmps66 fun _ _ _=>?_
  repeat' (refine yz ?_)
  refine ac7 (α := SEz a b) (fun p => ⟨[(0, .d (.sl (iL a))), (1, .d (.sl (iL b))), (12, .d (.int (iL a).length)), (13, .d (.int p.i))], []⟩) (fun p => a.length - p.i) ⟨0, by omega, rfl⟩ (zle 0) ?_;rintro ⟨i, hi, ok⟩;dsimp only;rcases ez6 i a.length with hlt | hge
  ·have g1 : decide ((i : Int) < ((iL a).length : Int)) = true := by rw [la]; simpa using hlt
   have hx0 := ez5 hlt;have hy0 := ez5 (show i < b.length by omega);generalize a[i] = x at hx0;generalize b[i]'(by omega) = y at hy0;have hx := dj0 hx0;have hy := dj0 hy0;rw [bz2 hx0, bz2 hy0] at ok
   cases c1 : x != y with
   | true =>
    have : (du7 a b == 0) = false := by
     rw [ok, beq_eq_false_iff_ne];intro h0;have := dv3 _ _ h0;simp at this;simp [this.1] at c1
    rw [this]
    repeat' (first | refine yz ?_ | refine yi (.int x) hx ?_ | refine yi (.int y) hy ?_ | exact zD)
   | false =>
    have hxy : x = y := by simpa using c1
    rw [hxy, dv1] at ok
    repeat' (first | refine yz ?_ | refine yi (.int x) hx ?_ | refine yi (.int y) hy ?_)
    refine ac1 ?_;exact ⟨⟨i + 1, by omega, ok⟩, by dsimp only; omega, (zle 0)⟩
  ·have g1 : decide ((i : Int) < ((iL a).length : Int)) = false := by rw [la]; simp; omega
   have : (du7 a b == 0) = true := by
    rw [ok, fa1 (by omega), fa1 (by omega)];rfl
   rw [this]
   repeat' (first | refine yz ?_ | exact zD)
 ·have g0 : (((iL a).length : Int) != ((iL b).length : Int)) = true := by rw [la, lb]; simp; omega
  have : (du7 a b == 0) = false := by
   rw [beq_eq_false_iff_ne];intro h0;exact hl (congrArg List.length (dv3 _ _ h0))
  rw [this];refine ye2 func66 ntmps66 fun _ _ _=>?_
  repeat' (first | refine yz ?_ | exact zD)
theorem ej4 : Ev E 155 [.imm (.int .u64 0)] (.d (.int 0)) := by
 refine cb2 (by decide) fun w F _ _ => ?_
 refine (Tryz.bits_Len 0 w (by omega) (by omega)).mono ?_;rintro e w' ⟨rfl, rfl⟩;exact ⟨rfl, Below.refl _ _⟩
theorem ej5 (fn : FuncId) : EvS E 240 [.d (.sl []), .d (.int 0), .d (.int 0), .d (.imm (.func (.func fn) #[] #[]))] [] (.tup []) [] := by
 refine yn func240 ntmps240 fun _ _ _ _=>?_
 repeat' (refine yz ?_)
 refine ac7 (α := Unit) (fun _ => ⟨[(2, .d (.int 0)), (8, .d (.int 1))], []⟩) (fun _ => 0) () (zle 0) ?_;rintro -;have g : decide ((1 : Int) < 0) = false := rfl
 repeat' (first | refine yz ?_ | refine yo [])
theorem ej6 (fn : FuncId) : EvS E 154 [.d (.sl []), .d (.int 0), .d (.int 0), .d (.int 0), .d (.imm (.func (.func fn) #[] #[]))] [] (.tup []) [] := by
 have q := ej5 fn;refine yn func154 ntmps154 fun _ _ _ _=>?_
 repeat' (refine yz ?_)
 refine ac7 (α := Unit) (fun _ => ⟨[(0, .d (.sl [])), (1, .d (.int 0)), (2, .d (.int 0)), (3, .d (.int 0)), (4, .d (.imm (.func (.func fn) #[] #[])))], []⟩) (fun _ => 0) () (zle 0) ?_;rintro -;have g : decide ((0 : Int) ≤ 12) = true := rfl
 repeat' (first | refine yz ?_ | refine yc [] b240 (q) ?_ | refine bd1 [] rfl rfl rfl rfl)
theorem ej7 (fn : FuncId) : EvS E 63 [.d (.sl []), .d (.imm (.func (.func fn) #[] #[]))] [] (.tup []) [] := by
 have q := ej6 fn;have h := ej4;have hz : (([] : List D).length : Int) = 0 := rfl;refine yn func63 ntmps63 fun _ _ _ _=>?_
 repeat' (first | refine yz ?_ | refine yp b155 h ?_ | refine yc [] b154 (q) ?_ | refine yo [])
theorem subR (a b : List D) : ar1 (.sl a) 0 (.sl b) = .sl b := by rfl
theorem ej8 (fn : FuncId) : Ev E 65 [.sl [], .imm (.func (.func fn) #[] #[])] (.d (.sl [])) := by
 have g : decide ((0 : Int) < 2) = true := rfl;refine ye2 func65 ntmps65 fun _ _ _=>?_
 repeat' (first | refine yz ?_ | exact zD)
set_option maxHeartbeats 2000000 in
theorem ej9 (l : List (List Int)) (hm : l.length ≤ 1152921504606846976) :
  EvS E 65 [.own 0, .d (.imm (.func (.func 66) #[] #[]))] [.row 46 1 (l.map rowD)] (.d (.sl ((du1 du7 l).map rowD))) [.dead] := by
 have hL : (l.map rowD).length = l.length := by simp
 have hbb := b66
 by_cases hs : l.length < 2
 ·have g0 := yT (((l.map rowD).length : Int) < 2) (by omega);rw [du6 hs];refine yd func65 ntmps65 fun _ _ _ _=>?_
  repeat' (refine yz ?_)
  refine au8 0 rfl ?_
  repeat' (first | refine yr [0] ?_ | exact zD)
 ·have g0 := yF (((l.map rowD).length : Int) < 2) (by omega);refine yd func65 ntmps65 fun _ _ _ _=>?_
  repeat' (refine yz ?_)
  refine ac7 (α := CpT du7 l) (fun p => ⟨[(0, .own 0), (1, .d (.imm (.func (.func 66) #[] #[]))), (5, .d (.int p.k))], [.row 46 1 (l.map rowD)]⟩) (fun p => l.length - p.k) (CpT.start (by omega)) (zle 1) ?_;rintro p;have h1 := p.h1;have hk := p.hk;obtain ⟨k, hkp⟩ : ∃ k, p.k = k := ⟨_, rfl⟩;rw [hkp] at h1 hk;rw [hkp];rcases ez6 k l.length with hlt | hge
  ·have g1 := yT ((k : Int) < ((l.map rowD).length : Int)) (by omega);have x1 := dt9 (en := rowD) (l := l) (i := (k : Int)) (p := k) hlt rfl;have x2 := dt9 (en := rowD) (l := l) (i := (k : Int) - 1) (p := k - 1) (by omega) (by omega);have q := ej3 (atS l k) (atS l (k - 1))
   cases hc : du7 (atS l (k - 1)) (atS l k) == 0 with
   | false =>
    rw [hc] at q
    repeat' (first | refine yl x1 ?_ | refine yl x2 ?_ | refine yz ?_ | refine yp hbb q ?_)
    refine ac1 ?_;refine ⟨p.next (by rw [hkp]; exact hlt) (by rw [hkp]; simpa using hc), by show l.length - (p.k + 1) < l.length - k; omega, ?_⟩;show Le _ _ ⟨[(0, .own 0), (1, .d (.imm (.func (.func 66) #[] #[]))), (5, .d (.int ((p.k + 1 : Nat) : Int)))], _⟩;rw [hkp];exact (zle 1)
   | true =>
    rw [hc] at q;have hc0 : du7 (atS l (k - 1)) (atS l k) = 0 := by simpa using hc
    have e0 : ∃ p0 : CqT du7 l k, p0.k = k ∧ p0.k2 = 1 ∧ p0.l1 = l := by
     have h3 := CqT.start p (by rw [hkp]; exact hlt) (by rw [hkp]; exact hc0);subst hkp;exact ⟨CqT.start p hlt hc0, rfl, rfl, rfl⟩
    obtain ⟨p0, e1, e2, e3⟩ := e0
    repeat' (first | refine yl x1 ?_ | refine yl x2 ?_ | refine yz ?_ | refine yp hbb q ?_ | refine bm5 rfl rfl rfl rfl rfl rfl rfl rfl rfl (by constructor <;> first | omega | (simp; omega) | decide) ?_)
    refine ac7 (α := CqT du7 l k) (fun p => ⟨[(0, .own 0), (1, .d (.imm (.func (.func 66) #[] #[]))), (5, .d (.int p.k)), (6, .sub 0 k (l.length - k) 1), (7, .d (.int p.k2))], [.row 46 1 (p.l1.map rowD)]⟩) (fun p => l.length - p.k2) p0 (by
     rw [e1, e2, e3, ← hL];exact (zle 1)) ?_
    clear e1 e2 e3 p0;rintro p2;have hk2 := p2.hk2;have hb := p2.hb;have hkk := p2.hkk;have hl1 := p2.hl;have ha := p2.ha;obtain ⟨k2, hk2p⟩ : ∃ k2, p2.k2 = k2 := ⟨_, rfl⟩;obtain ⟨kk, hkkp⟩ : ∃ kk, p2.k = kk := ⟨_, rfl⟩;obtain ⟨l1, hl1p⟩ : ∃ l1, p2.l1 = l1 := ⟨_, rfl⟩;rw [hk2p] at hk2 hb hkk ha;rw [hkkp] at hkk;rw [hl1p] at hl1 ha;rw [hk2p, hkkp, hl1p];have hL1 : (l1.map rowD).length = l.length := by simp [hl1]
    rcases ez6 k2 (l.length - k) with hlt2 | hge2
    ·have g3 := yT ((k2 : Int) < ((l.length - k : Nat) : Int)) (by omega)
     have y1 : (l1.map rowD)[k + (k2 : Int).toNat]? = some (rowD (atS l (k + k2))) := by
      rw [fb4, ez8, dt8 (by omega), ha _ (by omega)]; rfl
     have y2 : (l1.map rowD)[k + ((k2 : Int) - 1).toNat]? = some (rowD (atS l (k + k2 - 1))) := by
      rw [show k + ((k2 : Int) - 1).toNat = k + k2 - 1 by omega, ez8, dt8 (by omega), ha _ (by omega)]; rfl
     have y3 := dt9 (en := rowD) (l := l1) (i := (kk : Int)) (p := kk) (by omega) rfl;have q2 := ej3 (atS l (k + k2)) (atS l (k + k2 - 1))
     cases hd : du7 (atS l (k + k2 - 1)) (atS l (k + k2)) == 0 with
     | false =>
      rw [hd] at q2
      have hset : (l1.map rowD).set (kk : Int).toNat (ar1 (rowD (atS l1 kk)) 0 (rowD (atS l (k + k2)))) = (l1.set kk (atS l (k + k2))).map rowD := by
       rw [subR, fb4, List.map_set]
      repeat' (first | refine yl y1 ?_ | refine yl y2 ?_ | refine qZ _ rfl rfl rfl rfl rfl rfl y3 rfl rfl rfl ?_ | refine yz ?_ | refine yp hbb q2 ?_ | refine bm6 rfl rfl rfl rfl rfl rfl rfl (by constructor <;> first | omega | (simp; omega) | decide) ?_)
      refine ac1 ?_;refine ⟨p2.keep (by rw [hk2p]; omega) (by rw [hk2p]; simpa using hd), by show l.length - (p2.k2 + 1) < l.length - k2; omega, ?_⟩;show Le _ ⟨_, [.row 46 1 ((l1.map rowD).set (kk : Int).toNat (ar1 (rowD (atS l1 kk)) 0 (rowD (atS l (k + k2)))))]⟩ ⟨[(0, .own 0), (1, .d (.imm (.func (.func 66) #[] #[]))), (5, .d (.int ((p2.k + 1 : Nat) : Int))), (6, .sub 0 k (l.length - k) 1), (7, .d (.int ((p2.k2 + 1 : Nat) : Int)))], [.row 46 1 ((p2.l1.set p2.k (atS l (k + p2.k2))).map rowD)]⟩;rw [hset, hk2p, hkkp, hl1p];exact (zle 1)
     | true =>
      rw [hd] at q2
      repeat' (first | refine yl y1 ?_ | refine yl y2 ?_ | refine yz ?_ | refine yp hbb q2 ?_ | refine bm6 rfl rfl rfl rfl rfl rfl rfl (by constructor <;> first | omega | (simp; omega) | decide) ?_)
      refine ac1 ?_;refine ⟨p2.drop (by rw [hk2p]; omega) (by rw [hk2p]; simpa using hd), by show l.length - (p2.k2 + 1) < l.length - k2; omega, ?_⟩;show Le _ _ ⟨[(0, .own 0), (1, .d (.imm (.func (.func 66) #[] #[]))), (5, .d (.int ((p2.k : Nat) : Int))), (6, .sub 0 k (l.length - k) 1), (7, .d (.int ((p2.k2 + 1 : Nat) : Int)))], [.row 46 1 (p2.l1.map rowD)]⟩;rw [hk2p, hkkp, hl1p];exact (zle 1)
    ·have g3 := yF ((k2 : Int) < ((l.length - k : Nat) : Int)) (by omega);have hdone := p2.done (by rw [hk2p]; omega);rw [hkkp, hl1p] at hdone;rw [hdone]
     repeat' (first | refine bm7 rfl rfl rfl rfl rfl rfl rfl rfl rfl (by omega) (be7 0 rfl ?_) | refine yz ?_ | refine bm5 rfl rfl rfl rfl rfl rfl rfl rfl rfl (by constructor <;> first | omega | (simp; omega) | decide) ?_)
     refine qS rfl ?_ ?_
     ·refine ⟨⟨by omega, ?_⟩, ?_⟩
      ·simp only [fb5, fb6, fb8, hl1];omega
      ·refine ⟨_, rfl, fun d hd => ?_⟩;rcases fb7.1 hd with hd | hd
       ·rcases fb7.1 hd with hd | hd
        ·obtain ⟨v, -, rfl⟩ := fc4.1 (fg1 hd);rfl
        ·rw [List.eq_of_mem_replicate hd]; rfl
       ·obtain ⟨v, -, rfl⟩ := fc4.1 (fh9 hd);rfl
     repeat' (first | refine yz ?_ | refine yr [0] ?_)
     refine congrArg D.sl ?_;rw [fb4, fc1, List.take_append_of_le_length (by simp; omega), List.take_take, Nat.min_self, ← List.map_take]
  ·have g1 := yF ((k : Int) < ((l.map rowD).length : Int)) (by omega);rw [p.done (by rw [hkp]; exact hge)]
   repeat' (refine yz ?_)
   refine au8 0 rfl ?_
   repeat' (first | refine yr [0] ?_ | exact zD)
theorem ek0 (a : List (List Int)) : dv9 a [] = a := by
 induction a with
 | nil => simp [dv9]
 | cons x r ih => rw [dv9, ih]
theorem ek1 (a : List (List Int)) : dv9 [] a = a := by
 induction a with
 | nil => simp [dv9]
 | cons x r ih => rw [dv9, ih]
theorem ek2 (x y : List Int) (a b : List (List Int)) : dv9 (x :: a) (y :: b) = bif decide (du7 x y < 0) then x :: dv9 a (y :: b) else bif du7 x y == 0 then x :: dv9 a b else y :: dv9 (x :: a) b := by
 rw [dv9]
 by_cases h1 : du7 x y < 0
 ·rw [if_pos h1, decide_eq_true h1]; rfl
 ·rw [if_neg h1, decide_eq_false h1, cond_false]
  by_cases h2 : du7 x y = 0
  ·rw [if_pos h2, h2]; rfl
  ·rw [if_neg h2, show (du7 x y == 0) = false by simpa using h2]; rfl
theorem ek3 (a : List (List Int)) (x : List Int) : rL (a ++ [x]) = rL a ++ [.sl (iL x)] := by simp [rL]
structure SMe (a b R : List (List Int)) where
 i : Nat
 k : Nat
 o : List (List Int)
 hi : i ≤ a.length
 hk : k ≤ b.length
 ho : o.length ≤ i + k
 ok : R = o ++ dv9 (a.drop i) (b.drop k)
set_option maxHeartbeats 8000000 in
theorem ek4 (a b : List (List Int)) (hn : a.length + b.length ≤ 1000000) : Ev E 79 [.sl (rL a), .sl (rL b)] (.d (.sl (rL (dv9 a b)))) := by
 have la := ei6 a;have lb := ei6 b;generalize hR : dv9 a b = R;refine ye2 func79 ntmps79 fun _ _ _=>?_
 repeat' (refine yz ?_)
 refine ac7 (α := SMe a b R) (fun p => ⟨[(5, bi1 0 (rL p.o)), (0, .d (.sl (rL a))), (1, .d (.sl (rL b))), (6, .d (.int p.i)), (7, .d (.int p.k))], ay6 46 1 (rL p.o)⟩) (fun p => a.length - p.i + (b.length - p.k)) ⟨0, 0, [], by omega, by omega, by simp, by rw [← hR]; rfl⟩ (zle 0) ?_;rintro ⟨i, k, o, hi, hk, ho, ok⟩;dsimp only;have happ := ek3 o;have hol : (rL o).length ≤ 1000000 := by rw [ei6]; omega
 rcases ez6 i a.length with hlt | hge
 ·have g1 : decide ((i : Int) < ((rL a).length : Int)) = true := by rw [la]; simpa using hlt
  have g2 : ((i : Int) == ((rL a).length : Int)) = false := by rw [la]; simp; omega
  have hx0 := ez5 hlt;generalize a[i] = x at hx0;have hx := ej0 hx0;have happx := happ x;rcases ez6 k b.length with hlb | hgb
  ·have g3 : decide ((k : Int) < ((rL b).length : Int)) = true := by rw [lb]; simpa using hlb
   have hy0 := ez5 hlb;generalize b[k] = y at hy0;have hy := ej0 hy0;have happy := happ y;have hc := ei8 x y;have m1 := bz2 hx0;have m2 := bz2 hy0;rw [m1, m2, ek2, ← m2, ← m1] at ok;generalize du7 x y = z at *;generalize hq : rL o = oo at *;rcases fk5 z 0 with hz | hz | hz
   ·have c1 : decide (z ≤ 0) = true := by simp; omega
    have c2 : decide (z ≥ 0) = false := by simp; omega
    rw [decide_eq_true hz, cond_true] at ok
    match oo, hol with
    | [], hol =>
     dsimp only [bi1, ay6]
     repeat' (first | refine yz ?_ | refine qI (.sl (iL x)) rfl (ap2 rfl) rfl rfl rfl rfl rfl rfl (by first | omega | decide) hx ?_ | refine qI (.sl (iL y)) rfl (ap2 rfl) rfl rfl rfl rfl rfl rfl (by first | omega | decide) hy ?_ | refine yp bu3 hc ?_ | (refine qS rfl ⟨by simp, fun d hd => by (obtain rfl := fa0.1 hd; rfl), by (show (0 + 1) * 24 ≤ 140737488355328; omega), by (show 0 + 1 ≤ 9223372036854775807; omega)⟩ ?_) | refine yx ?_)
     refine ac1 ?_;refine ⟨⟨i + 1, k + 0, o ++ [x], by omega, by omega, by (rw [fb5, fj0]; omega), by rw [ok]; simp⟩, by dsimp only; omega, ?_⟩;dsimp only;rw [happx];exact (bi5 [0])
    | o0 :: or, hol =>
     dsimp only [bi1, ay6]
     repeat' (first | refine yz ?_ | refine qI (.sl (iL x)) rfl (ap2 rfl) rfl rfl rfl rfl rfl rfl (by first | omega | decide) hx ?_ | refine qI (.sl (iL y)) rfl (ap2 rfl) rfl rfl rfl rfl rfl rfl (by first | omega | decide) hy ?_ | refine yp bu3 hc ?_ | (refine qS rfl ⟨by simp, fun d hd => by (obtain rfl := fa0.1 hd; rfl), by (show ((o0 :: or : List D).length + 1) * 24 ≤ 140737488355328; omega), by (show (o0 :: or : List D).length + 1 ≤ 9223372036854775807; omega)⟩ ?_) | refine yx ?_)
     refine ac1 ?_;refine ⟨⟨i + 1, k + 0, o ++ [x], by omega, by omega, by (rw [fb5, fj0]; omega), by rw [ok]; simp⟩, by dsimp only; omega, ?_⟩;dsimp only;rw [happx];exact (bi5 [1])
   ·have c1 : decide (z ≤ 0) = true := by simp; omega
    have c2 : decide (z ≥ 0) = true := by simp; omega
    rw [decide_eq_false (by omega), hz] at ok
    match oo, hol with
    | [], hol =>
     dsimp only [bi1, ay6]
     repeat' (first | refine yz ?_ | refine qI (.sl (iL x)) rfl (ap2 rfl) rfl rfl rfl rfl rfl rfl (by first | omega | decide) hx ?_ | refine qI (.sl (iL y)) rfl (ap2 rfl) rfl rfl rfl rfl rfl rfl (by first | omega | decide) hy ?_ | refine yp bu3 hc ?_ | (refine qS rfl ⟨by simp, fun d hd => by (obtain rfl := fa0.1 hd; rfl), by (show (0 + 1) * 24 ≤ 140737488355328; omega), by (show 0 + 1 ≤ 9223372036854775807; omega)⟩ ?_) | refine yx ?_)
     refine ac1 ?_;refine ⟨⟨i + 1, k + 1, o ++ [x], by omega, by omega, by (rw [fb5, fj0]; omega), by rw [ok]; simp⟩, by dsimp only; omega, ?_⟩;dsimp only;rw [happx];exact (bi5 [0])
    | o0 :: or, hol =>
     dsimp only [bi1, ay6]
     repeat' (first | refine yz ?_ | refine qI (.sl (iL x)) rfl (ap2 rfl) rfl rfl rfl rfl rfl rfl (by first | omega | decide) hx ?_ | refine qI (.sl (iL y)) rfl (ap2 rfl) rfl rfl rfl rfl rfl rfl (by first | omega | decide) hy ?_ | refine yp bu3 hc ?_ | (refine qS rfl ⟨by simp, fun d hd => by (obtain rfl := fa0.1 hd; rfl), by (show ((o0 :: or : List D).length + 1) * 24 ≤ 140737488355328; omega), by (show (o0 :: or : List D).length + 1 ≤ 9223372036854775807; omega)⟩ ?_) | refine yx ?_)
     refine ac1 ?_;refine ⟨⟨i + 1, k + 1, o ++ [x], by omega, by omega, by (rw [fb5, fj0]; omega), by rw [ok]; simp⟩, by dsimp only; omega, ?_⟩;dsimp only;rw [happx];exact (bi5 [1])
   ·have c1 : decide (z ≤ 0) = false := by simp; omega
    have c2 : decide (z ≥ 0) = true := by simp; omega
    rw [decide_eq_false (by omega), show (z == 0) = false by simp; omega] at ok
    match oo, hol with
    | [], hol =>
     dsimp only [bi1, ay6]
     repeat' (first | refine yz ?_ | refine qI (.sl (iL x)) rfl (ap2 rfl) rfl rfl rfl rfl rfl rfl (by first | omega | decide) hx ?_ | refine qI (.sl (iL y)) rfl (ap2 rfl) rfl rfl rfl rfl rfl rfl (by first | omega | decide) hy ?_ | refine yp bu3 hc ?_ | (refine qS rfl ⟨by simp, fun d hd => by (obtain rfl := fa0.1 hd; rfl), by (show (0 + 1) * 24 ≤ 140737488355328; omega), by (show 0 + 1 ≤ 9223372036854775807; omega)⟩ ?_) | refine yx ?_)
     refine ac1 ?_;refine ⟨⟨i + 0, k + 1, o ++ [y], by omega, by omega, by (rw [fb5, fj0]; omega), by rw [ok]; simp⟩, by dsimp only; omega, ?_⟩;dsimp only;rw [happy];exact (bi5 [0])
    | o0 :: or, hol =>
     dsimp only [bi1, ay6]
     repeat' (first | refine yz ?_ | refine qI (.sl (iL x)) rfl (ap2 rfl) rfl rfl rfl rfl rfl rfl (by first | omega | decide) hx ?_ | refine qI (.sl (iL y)) rfl (ap2 rfl) rfl rfl rfl rfl rfl rfl (by first | omega | decide) hy ?_ | refine yp bu3 hc ?_ | (refine qS rfl ⟨by simp, fun d hd => by (obtain rfl := fa0.1 hd; rfl), by (show ((o0 :: or : List D).length + 1) * 24 ≤ 140737488355328; omega), by (show (o0 :: or : List D).length + 1 ≤ 9223372036854775807; omega)⟩ ?_) | refine yx ?_)
     refine ac1 ?_;refine ⟨⟨i + 0, k + 1, o ++ [y], by omega, by omega, by (rw [fb5, fj0]; omega), by rw [ok]; simp⟩, by dsimp only; omega, ?_⟩;dsimp only;rw [happy];exact (bi5 [1])
  ·have g3 : decide ((k : Int) < ((rL b).length : Int)) = false := by rw [lb]; simp; omega
   have m1 := bz2 hx0;have m2 := fa1 hgb;rw [m1, m2, ek0] at ok;have ok2 : R = o ++ [x] ++ dv9 (a.drop (i + 1)) (b.drop k) := by rw [ok, m2, ek0]; simp
   generalize hq : rL o = oo at *
   match oo, hol with
   | [], hol =>
    dsimp only [bi1, ay6]
    repeat' (first | refine yz ?_ | refine qI (.sl (iL x)) rfl (ap2 rfl) rfl rfl rfl rfl rfl rfl (by first | omega | decide) hx ?_ | (refine qS rfl ⟨by simp, fun d hd => by (obtain rfl := fa0.1 hd; rfl), by (show (0 + 1) * 24 ≤ 140737488355328; omega), by (show 0 + 1 ≤ 9223372036854775807; omega)⟩ ?_) | refine yx ?_)
    refine ac1 ?_;refine ⟨⟨i + 1, k + 0, o ++ [x], by omega, by omega, by (rw [fb5, fj0]; omega), ok2⟩, by dsimp only; omega, ?_⟩;dsimp only;rw [happx];exact (bi5 [0])
   | o0 :: or, hol =>
    dsimp only [bi1, ay6]
    repeat' (first | refine yz ?_ | refine qI (.sl (iL x)) rfl (ap2 rfl) rfl rfl rfl rfl rfl rfl (by first | omega | decide) hx ?_ | (refine qS rfl ⟨by simp, fun d hd => by (obtain rfl := fa0.1 hd; rfl), by (show ((o0 :: or : List D).length + 1) * 24 ≤ 140737488355328; omega), by (show (o0 :: or : List D).length + 1 ≤ 9223372036854775807; omega)⟩ ?_) | refine yx ?_)
    refine ac1 ?_;refine ⟨⟨i + 1, k + 0, o ++ [x], by omega, by omega, by (rw [fb5, fj0]; omega), ok2⟩, by dsimp only; omega, ?_⟩;dsimp only;rw [happx];exact (bi5 [1])
 ·have g1 : decide ((i : Int) < ((rL a).length : Int)) = false := by rw [la]; simp; omega
  have g2 : ((i : Int) == ((rL a).length : Int)) = true := by rw [la]; simp; omega
  have m1 := fa1 hge;rcases ez6 k b.length with hlb | hgb
  ·have g3 : decide ((k : Int) < ((rL b).length : Int)) = true := by rw [lb]; simpa using hlb
   have hy0 := ez5 hlb;generalize b[k] = y at hy0;have hy := ej0 hy0;have happy := happ y;have m2 := bz2 hy0;rw [m1, m2, ek1] at ok;have ok2 : R = o ++ [y] ++ dv9 (a.drop i) (b.drop (k + 1)) := by rw [ok, m1, ek1]; simp
   generalize hq : rL o = oo at *
   match oo, hol with
   | [], hol =>
    dsimp only [bi1, ay6]
    repeat' (first | refine yz ?_ | refine qI (.sl (iL y)) rfl (ap2 rfl) rfl rfl rfl rfl rfl rfl (by first | omega | decide) hy ?_ | (refine qS rfl ⟨by simp, fun d hd => by (obtain rfl := fa0.1 hd; rfl), by (show (0 + 1) * 24 ≤ 140737488355328; omega), by (show 0 + 1 ≤ 9223372036854775807; omega)⟩ ?_) | refine yx ?_)
    refine ac1 ?_;refine ⟨⟨i + 0, k + 1, o ++ [y], by omega, by omega, by (rw [fb5, fj0]; omega), ok2⟩, by dsimp only; omega, ?_⟩;dsimp only;rw [happy];exact (bi5 [0])
   | o0 :: or, hol =>
    dsimp only [bi1, ay6]
    repeat' (first | refine yz ?_ | refine qI (.sl (iL y)) rfl (ap2 rfl) rfl rfl rfl rfl rfl rfl (by first | omega | decide) hy ?_ | (refine qS rfl ⟨by simp, fun d hd => by (obtain rfl := fa0.1 hd; rfl), by (show ((o0 :: or : List D).length + 1) * 24 ≤ 140737488355328; omega), by (show (o0 :: or : List D).length + 1 ≤ 9223372036854775807; omega)⟩ ?_) | refine yx ?_)
    refine ac1 ?_;refine ⟨⟨i + 0, k + 1, o ++ [y], by omega, by omega, by (rw [fb5, fj0]; omega), ok2⟩, by dsimp only; omega, ?_⟩;dsimp only;rw [happy];exact (bi5 [1])
  ·have g3 : decide ((k : Int) < ((rL b).length : Int)) = false := by rw [lb]; simp; omega
   have m2 := fa1 hgb;rw [m1, m2] at ok;have hRo : R = o := by rw [ok, ek1]; simp
   rw [hRo];generalize rL o = oo at *
   match oo with
   | [] =>
    dsimp only [bi1, ay6]
    repeat' (first | refine yz ?_ | refine yx ?_ | exact zD)
   | y :: q =>
    dsimp only [bi1, ay6];refine au8 0 rfl ?_
    repeat' (first | refine yz ?_ | refine yx ?_ | exact zD)
set_option maxHeartbeats 8000000 in
theorem ek5 : ∀ (n : Nat) (l : List (List Int)), l.length ≤ n → l.length ≤ 500000 → (∀ r ∈ l, r.length ≤ 1000000) → Ev E 28 [.sl (rL l)] (.d (.sl (rL (dw2 l)))) := by
 intro n
 induction n with
 | zero =>
  intro l h _ _;obtain rfl : l = [] := fl3 (by omega);rw [dw3 (by simp)];refine ye1 func28 ntmps28 fun _ _ _=>?_
  repeat' (refine yz ?_)
  refine ac7 (α := Unit) (fun _ => ⟨[(0, .d (.sl (rL []))), (3, .nilS), (4, .d (.int 0))], []⟩) (fun _ => 0) () (zle 0) ?_;rintro -;have g1 : decide ((0 : Int) < (((rL []).length : Nat) : Int)) = false := rfl
  repeat' (first | refine yz ?_ | exact zD)
 | succ n ih =>
  intro l h hN hrl;have la := ei6 l
  by_cases h1 : l.length ≤ 1
  ·rw [dw3 h1];have g0 : decide (((rL l).length : Int) ≤ 1) = true := by rw [la]; simp; omega
   match l, h1 with
   | [], _ =>
    refine ye1 func28 ntmps28 fun _ _ _=>?_
    repeat' (refine yz ?_)
    refine ac7 (α := Unit) (fun _ => ⟨[(0, .d (.sl (rL []))), (3, .nilS), (4, .d (.int 0))], []⟩) (fun _ => 0) () (zle 0) ?_;rintro -;have g1 : decide ((0 : Int) < (((rL []).length : Nat) : Int)) = false := rfl
    repeat' (first | refine yz ?_ | exact zD)
   | [x], _ =>
    have hx : (rL [x])[((0 : Nat) : Int).toNat]? = some (.sl (iL x)) := rfl;have g1 : decide ((((0 : Nat) : Int)) < (((rL [x]).length : Nat) : Int)) = true := rfl;have g2 : decide ((((1 : Nat) : Int)) < (((rL [x]).length : Nat) : Int)) = false := rfl;refine ye1 func28 ntmps28 fun _ _ _=>?_
    repeat' (refine yz ?_)
    refine ac7 (α := Fin 2) (fun p => ⟨[(3, bi1 0 ((rL [x]).take p.val)), (0, .d (.sl (rL [x]))), (4, .d (.int (p.val : Nat)))], ay6 46 1 ((rL [x]).take p.val)⟩) (fun p => 1 - p.val) ⟨0, by omega⟩ (zle 0) ?_;rintro ⟨i, hi⟩
    match i, hi with
    | 0, _ =>
     dsimp only [bi1, ay6, rL, List.map, List.take]
     by_cases hx0 : x = []
     ·subst hx0;have hx0 : iL ([] : List Int) = [] := rfl
      repeat' (first | refine az1 rfl rfl rfl rfl rfl rfl rfl (by decide) (by decide) ?_ | (refine bn3 rfl rfl rfl rfl rfl rfl rfl rfl rfl ?_) | refine yz ?_ | refine qI (.sl (iL [])) rfl (ap2 rfl) rfl rfl rfl rfl rfl rfl (by first | omega | decide) hx ?_)
      refine be7 0 rfl ?_
      repeat' (first | refine yz ?_ | (refine qS rfl ⟨by simp, fun d hd => by (obtain rfl := fa0.1 hd; rfl), by (show (0 + 1) * 24 ≤ 140737488355328; omega), by (show 0 + 1 ≤ 9223372036854775807; omega)⟩ ?_))
      refine ac1 ?_;exact ⟨⟨1, by omega⟩, by show 1 - 1 < 1 - 0; omega, (bi5 [1])⟩
     ·have hne : iL x ≠ [] := fun h => hx0 ((dk2 x).1 h)
      have hxl : (iL x).length ≤ 1000000 := by rw [di9]; exact hrl x (by simp)
      have hq0 : ([] : List D).length = 0 := rfl
      repeat' (first | refine az1 rfl rfl rfl rfl rfl rfl rfl (by decide) (by decide) ?_ | (refine qS rfl ⟨hne, dj2 _, by (show (([] : List D).length + (iL x).length) * 8 ≤ 140737488355328; omega), by (show ([] : List D).length + (iL x).length ≤ 9223372036854775807; omega)⟩ ?_) | refine yz ?_ | refine qI (.sl (iL x)) rfl (ap2 rfl) rfl rfl rfl rfl rfl rfl (by first | omega | decide) hx ?_)
      refine be7 1 rfl ?_
      repeat' (first | refine yz ?_ | (refine qS rfl ⟨by simp, fun d hd => by (obtain rfl := fa0.1 hd; rfl), by (show (0 + 1) * 24 ≤ 140737488355328; omega), by (show 0 + 1 ≤ 9223372036854775807; omega)⟩ ?_))
      refine ac1 ?_;exact ⟨⟨1, by omega⟩, by show 1 - 1 < 1 - 0; omega, (bi5 [2])⟩
    | 1, _ =>
     dsimp only [bi1, ay6, rL, List.map, List.take];refine au8 0 rfl ?_
     repeat' (first | refine yz ?_ | exact zD)
  ·have g0 : decide (((rL l).length : Int) ≤ 1) = false := by rw [la]; simp; omega
   rw [dw4 h1];generalize hm : l.length / 2 = m;have k1 : (l.take m).length + (l.drop m).length = l.length := by simp; omega
   have i1 := ih (l.take m) (by simp; omega) (by simp; omega) fun r hr => hrl r (fg1 hr)
   have i2 := ih (l.drop m) (by simp; omega) (by simp; omega) fun r hr => hrl r (fh9 hr)
   have c1 := dw9 _ (l.take m) (fa4 _);have c2 := dw9 _ (l.drop m) (fa4 _);have hM := ek4 (dw2 (l.take m)) (dw2 (l.drop m)) (by omega);have hq : ((rL l).length : Int).tdiv 2 = (m : Int) := by rw [la, ← hm, fg8 (by omega)]; rfl
   have hq2 : (((rL l).length : Int).tdiv 2).toNat = m := by rw [hq]; rfl
   have e1 : rL (l.take m) = (rL l).take m := by simp [rL, List.map_take]
   have e2 : rL (l.drop m) = (rL l).drop m := by simp [rL, List.map_drop]
   have hml : m ≤ (rL l).length := by rw [la, ← hm]; omega
   have hcl : ∀ d ∈ rL l, d.cells.length = 1 := fun d hd => by
    obtain ⟨u, -, rfl⟩ := fc4.1 hd;rfl
   generalize rL (dv9 (dw2 (l.take m)) (dw2 (l.drop m))) = M at *;generalize rL (dw2 (l.take m)) = A at *;generalize rL (dw2 (l.drop m)) = B at *;rw [e1, ← hq2] at i1;rw [e2, ← hq2] at i2;generalize rL l = L at *;refine ye1 func28 ntmps28 fun _ _ _=>?_
   repeat' (first | refine yz ?_ | (refine qS rfl ⟨⟨by omega, by omega⟩, ⟨_, rfl, fun d hd => hcl d hd⟩⟩ ?_) | refine yp b28 i1 ?_ | refine yp b28 i2 ?_ | refine yp b79 hM ?_ | exact zD)
end Go.Proofs.YtenpjlghikohmaaGreatDoor
namespace Go.Proofs.YtenpjlghikohmaaGreatDoor
set_option maxRecDepth 4000
open Go Go.Abs Go.Val Go.RowKit Go.Sort Go.Proofs Go.Proofs.Tryz
attribute [local go_sem] Oper.semAt_some
theorem ek6 {xs ys : List Int} {k : Nat} (h : ∀ j, j < k → xs[j]! = ys[j]!) (hx : k ≤ xs.length) (hy : k ≤ ys.length) : du7 xs ys = du7 (xs.drop k) (ys.drop k) := by
 have e : xs.take k = ys.take k := by
  refine ff4 fun j => ?_
  rcases ez6 j k with hj | hj
  ·have := h j hj;rw [fi9 hj, fi9 hj, ez5 (by omega), ez5 (by omega)];rw [getElem!_pos xs j (by omega), getElem!_pos ys j (by omega)] at this;rw [this]
  ·rw [fc8 (by rw [fb6]; omega), fc8 (by rw [fb6]; omega)]
 conv => lhs; rw [← fj5 k xs, ← fj5 k ys, e]
 induction ys.take k with
 | nil => rfl
 | cons x r ih => rw [fe3, fe3, dv1, ih]
theorem ek7 {xs ys : List Int} {k : Nat} (h : ∀ j, j < k → xs[j]! = ys[j]!) (hx : k < xs.length) (hy : k < ys.length) (hc : Lib.compareInt xs[k]! ys[k]! ≠ 0) : du7 xs ys = Lib.compareInt xs[k]! ys[k]! := by
 rw [ek6 h (by omega) (by omega), fk7 hx, fk7 hy];rw [getElem!_pos xs k hx, getElem!_pos ys k hy] at *;unfold Lib.compareInt at *;rcases fk5 xs[k] ys[k] with g | g | g
 ·rw [du9 g, if_pos g]
 ·rw [g] at hc; simp at hc
 ·rw [dv0 g, if_neg (by omega), if_pos g]
theorem ek8 {xs : List Int} (h : xs ≠ []) : du7 xs [] = 1 := by
 cases xs with
 | nil => exact absurd rfl h
 | cons => rfl
set_option maxRecDepth 100000 in
set_option maxHeartbeats 4000000 in
theorem ek9 (b1 o1 c b2 o2 d : Nat) (xs ys : List Int) (w : World) (hbig1 : xs.length ≤ 9223372036854775807) (hbig2 : ys.length ≤ 9223372036854775807)
  (hc1 : ∀ j, j < xs.length → w.cell? ⟨b1, o1 + j, none⟩ = some (.int .i64 xs[j]!)) (hc2 : ∀ j, j < ys.length → w.cell? ⟨b2, o2 + j, none⟩ = some (.int .i64 ys[j]!)) :
  Calls Tryz.prog 64 #[.slice (some ⟨b1, o1, none⟩) xs.length c, .slice (some ⟨b2, o2, none⟩) ys.length d] w fun e w' => e = .returned (.int .i64 (du7 xs ys)) ∧ ∃ q, w' = w.drewN q := by
 go_enter func64, ntmps64
 go_wp2
 go_loopg [11] xs.length (fun g s11 wr => ∃ k q : Nat, k ≤ xs.length ∧ xs.length - k ≤ g ∧ s11 = .int .i64 k ∧ wr = w.drewN q ∧ k ≤ ys.length ∧ Aside (∀ j, j < k → xs[j]! = ys[j]!))
 case atStart => exact ⟨0, 0, fd6 _, by omega, rfl, rfl, fd6 _, fun j hj => absurd hj (Nat.not_lt_zero _)⟩
 case round =>
  obtain ⟨k, q, hk, hg, rfl, rfl, hky, A⟩ := hrel
  by_cases hlt : k < xs.length
  ·have g1 : w.cell? ⟨b1, o1 + k, none⟩ = some (.int .i64 xs[k]!) := hc1 k hlt
   by_cases hly : k < ys.length
   ·have g2 : w.cell? ⟨b2, o2 + k, none⟩ = some (.int .i64 ys[k]!) := hc2 k hly;have hat := fun hc => ek7 A.out hlt hly hc
    clear hc1 hc2;generalize hxk : xs[k]! = x at g1 hat;generalize hyk : ys[k]! = y at g2 hat;have B : Aside (xs[k]! = x ∧ ys[k]! = y) := ⟨hxk, hyk⟩;clear hxk hyk
    have hz : Lib.compareInt x y = 0 → x = y := fun h => by
     unfold Lib.compareInt at h;rcases fk5 x y with g | g | g
     ·rw [if_pos g] at h; simp at h
     ·exact g
     ·rw [if_neg (by omega), if_pos g] at h; simp at h
    have hcon := fun W => Tryz.cmp_Compare_int x y W
    generalize hR : Lib.compareInt x y = R at hcon hat hz
    by_cases hR0 : R = 0
    ·subst hR0;have hxy : Aside (x = y) := hz rfl;clear hat hz
     go_wp2_with (go_at_call 52; refine (hcon _).mono ?_; rintro e w' ⟨rfl, rfl⟩)
     go_roundg (xs.length - (k + 1))
     case measure => omega
     case rel =>
      refine ⟨k + 1, q, by omega, by omega, by go_num, rfl, by omega, (show Aside _ from fun j hj => ?_)⟩
      by_cases e : j = k
      ·subst e;rw [B.out.1, B.out.2]; exact hxy.out
      ·exact A.out j (by omega)
    ·have hat : Aside (du7 xs ys = R) := hat hR0;clear hz
     go_wp2_with (go_at_call 52; refine (hcon _).mono ?_; rintro e w' ⟨rfl, rfl⟩)
     go_ret
     refine ⟨?_, q, rfl⟩;rw [hat.out];rfl
   ·have hlx : du7 xs ys = 1 := by
     rw [ek6 A.out hk hky, fa1 (by omega : ys.length ≤ k)];exact ek8 (by rw [ne_eq, List.drop_eq_nil_iff]; omega)
    clear hc1 hc2
    go_wp2
    go_ret
    refine ⟨?_, q, rfl⟩;rw [hlx];rfl
  ·have hk2 : k = xs.length := by omega
   have hlx : du7 xs ys = if xs.length < ys.length then -1 else 0 := by
    rw [ek6 A.out hk hky, fa1 (by omega : xs.length ≤ k)]
    by_cases h : xs.length < ys.length
    ·rw [if_pos h]
     cases hd : ys.drop k with
     | nil => rw [List.drop_eq_nil_iff] at hd; omega
     | cons => rfl
    ·rw [if_neg h, fa1 (by omega)]; rfl
   clear hc1 hc2
   by_cases h : xs.length < ys.length
   ·go_wp2
    go_ret
    refine ⟨?_, q, rfl⟩;rw [hlx, if_pos h];rfl
   ·go_wp2
    go_ret
    refine ⟨?_, q, rfl⟩;rw [hlx, if_neg h];rfl
set_option maxRecDepth 100000 in
set_option maxHeartbeats 4000000 in
theorem el0 (p1 p2 : Option Addr) (c d : Nat) (ys : List Int) (w : World) (hbig2 : ys.length ≤ 9223372036854775807) :
  Calls Tryz.prog 64 #[.slice p1 0 c, .slice p2 ys.length d] w fun e w' => e = .returned (.int .i64 (du7 [] ys)) ∧ ∃ q, w' = w.drewN q := by
 have hlx : du7 [] ys = if 0 < ys.length then -1 else 0 := by cases ys <;> rfl
 go_enter func64, ntmps64
 go_wp2
 refine wp_loop_rounds 1 ?_;rw [rounds_succ]
 by_cases h : 0 < ys.length
 ·go_wp2
  go_ret
  refine ⟨?_, 0, rfl⟩;rw [hlx, if_pos h];rfl
 ·go_wp2
  go_ret
  refine ⟨?_, 0, rfl⟩;rw [hlx, if_neg h];rfl
set_option maxRecDepth 100000 in
set_option maxHeartbeats 4000000 in
theorem el1 (b1 o1 c : Nat) (p2 : Option Addr) (d : Nat) (xs : List Int) (w : World) (hne : xs ≠ []) (hbig1 : xs.length ≤ 9223372036854775807)
  (hc1 : ∀ j, j < xs.length → w.cell? ⟨b1, o1 + j, none⟩ = some (.int .i64 xs[j]!)) :
  Calls Tryz.prog 64 #[.slice (some ⟨b1, o1, none⟩) xs.length c, .slice p2 0 d] w fun e w' => e = .returned (.int .i64 (du7 xs [])) ∧ ∃ q, w' = w.drewN q := by
 have hpos : 0 < xs.length := fj2.2 hne;have g1 : w.cell? ⟨b1, o1 + 0, none⟩ = some (.int .i64 xs[0]!) := hc1 0 hpos;have g2 : w.cell? ⟨b1, o1, none⟩ = some (.int .i64 xs[0]!) := g1;generalize xs[0]! = x at g1 g2;clear hc1;have hlx := ek8 hne
 go_enter func64, ntmps64
 go_wp2
 refine wp_loop_rounds 1 ?_;rw [rounds_succ]
 go_wp2
 go_ret
 refine ⟨?_, 0, rfl⟩;rw [hlx];rfl
theorem el2 {w : World} {F : Nat → Prop} {xs ys : List Int} {u v : Value} (hx : Rd w F (.sl (iL xs)) u) (hy : Rd w F (.sl (iL ys)) v) :
  Calls Tryz.prog 64 #[u, v] w fun e w' => e = .returned (.int .i64 (du7 xs ys)) ∧ ∃ q, w' = w.drewN q := by
 have key : ∀ {zs : List Int} {v : Value}, Rd w F (.sl (iL zs)) v → zs.length ≤ 9223372036854775807 ∧ ((zs = [] ∧ ∃ p c, v = .slice p 0 c) ∨ ∃ b o c, v = .slice (some ⟨b, o, none⟩) zs.length c ∧ zs ≠ [] ∧ ∀ j, j < zs.length → w.cell? ⟨b, o + j, none⟩ = some (.int .i64 zs[j]!)) := by
  intro zs v h;rcases Rd.sl_inv h with ⟨h0, rfl⟩ | ⟨size, ad, cap, rfl, h1, h2, h3, h4, h5, h6⟩
  ·have : zs = [] := by simpa [iL] using h0
   subst this;exact ⟨by simp, .inl ⟨rfl, _, _, rfl⟩⟩
  ·have hl : (iL zs).length = zs.length := di9 zs;rw [hl] at h1 ⊢;refine ⟨by unfold maxLen at h2; omega, ?_⟩
   by_cases hne : zs = []
   ·subst hne;exact .inl ⟨rfl, _, _, rfl⟩
   ·have hlp : 0 < zs.length := fj2.2 hne
    have hsize : size = 1 := by
     have := h4 (.int zs[0]) (by simp [iL]);exact this.symm
    subst hsize
    have hcell : ∀ j, j < zs.length → w.cell? (ad.add j) = some (.int .i64 zs[j]!) := by
     intro j hj;obtain ⟨u, q1, q2⟩ := h6 j (.int zs[j]) 0 (.int zs[j]) (by simp [iL, hj]) rfl;rw [ff1, fc5] at q1;rw [q1, (Rd.imm_inv q2).1, getElem!_pos zs j hj]
    have hsp : ad.spot = none := dn3 (by have := hcell 0 hlp; rwa [show ad.add 0 = ad from rfl] at this);obtain ⟨ab, ao, asp⟩ := ad;simp only at hsp;subst hsp;exact .inr ⟨ab, ao, cap, rfl, hne, fun j hj => by have := hcell j hj; rwa [aa2] at this⟩
 obtain ⟨lx, kx⟩ := key hx;obtain ⟨ly, ky⟩ := key hy;rcases kx with ⟨rfl, p1, c1, rfl⟩ | ⟨b1, o1, c1, rfl, nx, hc1⟩
 ·rcases ky with ⟨rfl, p2, c2, rfl⟩ | ⟨b2, o2, c2, rfl, ny, hc2⟩
  ·exact el0 p1 p2 c1 c2 [] w ly
  ·exact el0 p1 _ c1 c2 ys w ly
 ·rcases ky with ⟨rfl, p2, c2, rfl⟩ | ⟨b2, o2, c2, rfl, ny, hc2⟩
  ·exact el1 b1 o1 c1 p2 c2 xs w nx lx hc1
  ·exact ek9 b1 o1 c1 b2 o2 c2 xs ys w lx ly hc1 hc2
def clR (l : List (List Int)) (i : Nat) : Nat := min i (l.length - 1)
def cfR (l : List (List Int)) (i j : Nat) : Int := du7 (l.getD (clR l i) []) (l.getD (clR l j) [])
theorem swoR (l : List (List Int)) : SWO (ltOf (cfR l)) where
 irrefl x := by unfold ltOf cfR; rw [dv4]; rfl
 trans x y z h1 h2 := by
  unfold ltOf cfR at *;rw [decide_eq_true_eq] at *;exact dv6 h1 (by omega)
 ntrans x y z h1 h2 := by
  unfold ltOf cfR at *;rw [decide_eq_false_iff_not] at *;have a1 := dv2 (l.getD (clR l x) []) (l.getD (clR l y) []);have a2 := dv2 (l.getD (clR l y) []) (l.getD (clR l z) []);have a3 := dv2 (l.getD (clR l x) []) (l.getD (clR l z) []);have := dv5 (l.getD (clR l z) []) (l.getD (clR l y) []) (l.getD (clR l x) []) (by omega) (by omega);omega
def pdR (l : List (List Int)) : Array Nat := pdq (ltOf (cfR l)) (List.range l.length).toArray 0 l.length (Lib.bitLen l.length) true true
def el3 (l : List (List Int)) : List (List Int) := (pdR l).toList.map fun i => l.getD (clR l i) []
theorem el4 (l : List (List Int)) : (List.range l.length).map (fun i => l.getD (clR l i) []) = l := by
 refine ff4 fun i => ?_
 rw [ez8];rcases ez6 i l.length with h | h
 ·rw [ff0 h, fd0, ez5 h];rw [show clR l i = i by unfold clR; omega, fb9, ez5 h];rfl
 ·rw [fc8 h, fc8 (by simpa using h)];rfl
theorem el5 (l : List (List Int)) : (pdR l).size = l.length ∧ (pdR l).toList.Perm (List.range l.length) ∧ (el3 l).Perm l ∧ (el3 l).length = l.length ∧ (el3 l).Pairwise fun a b => du7 a b ≤ 0 := by
 have h := pdq_sorts (ltOf (cfR l)) (swoR l) (List.range l.length).toArray 0 l.length (Lib.bitLen l.length) true true (fd6 _) (by simp) (Or.inl rfl);obtain ⟨⟨h1, -, h3⟩, h4⟩ := h;have hs : (pdR l).size = l.length := by unfold pdR; rw [h1]; simp
 have hp : (pdR l).toList.Perm (List.range l.length) := by
  have e : ∀ (a : Array Nat), a.size = l.length → (a.extract 0 l.length).toList = a.toList := fun a ha => by simp [← ha]
  rw [e _ (by rw [h1]; simp), e _ (by simp)] at h3;exact h3
 refine ⟨hs, hp, ?_, by unfold el3; rw [fb8, fk1, hs], ?_⟩
 ·have := hp.map fun i => l.getD (clR l i) []
  rw [el4] at this;exact this
 ·rw [fl9];intro i j hi hj hij;have hi' : i < (pdR l).size := by unfold el3 at hi; simpa using hi
  have hj' : j < (pdR l).size := by unfold el3 at hj; simpa using hj
  have := h4 i j (fd6 _) hij (by omega);rw [show pdq (ltOf (cfR l)) (List.range l.length).toArray 0 l.length (Lib.bitLen l.length) true true = pdR l from rfl, getElem!_pos _ i hi', getElem!_pos _ j hj'] at this;unfold ltOf cfR at this;rw [decide_eq_false_iff_not] at this;have a := dv2 (l.getD (clR l (pdR l)[i]) []) (l.getD (clR l (pdR l)[j]) []);have e : ∀ k (hk : k < (el3 l).length) (hk' : k < (pdR l).size), (el3 l)[k] = l.getD (clR l (pdR l)[k]) [] := fun k hk hk' => by simp [el3]
  rw [e i hi hi', e j hj hj'];omega
theorem el6 (l : List (List Int)) (hne : l ≠ []) (hsz : l.length ≤ 1000000) : EvS E 63 [.own 0, .d (.imm (.func (.func 64) #[] #[]))] [.row 46 1 (rL l)] (.tup []) [.row 46 1 (rL (el3 l))] := by
 intro w F σ vs hi hl hr
 match vs, hl with
 | [v0, v1], _ =>
  obtain ⟨b, c, n, e1, rfl⟩ := hr 0 _ _ rfl rfl;obtain ⟨rfl, -⟩ := Rd.imm_inv (hr 1 _ v1 rfl rfl);obtain ⟨cs, g1, g2, g3, g4, g5, g6, g7, g8, g9, g10⟩ := hi.obs 0 _ _ rfl e1;have hn : n = l.length := by rw [g3, ei6]
  subst hn;have hlp : 0 < l.length := fj2.2 hne;have hcl : ∀ i, clR l i < l.length := fun i => by unfold clR; omega
  have hcsl : l.length ≤ cs.length := by rw [g2]; omega
  have hrg : ∀ j (h : j < l.length), ∃ v, cs[j]? = some v ∧ Rd w F (.sl (iL l[j])) v := fun j hj => by
   obtain ⟨v, q1, q2⟩ := g8 j (.sl (iL l[j])) 0 (.sl (iL l[j])) (by simp [rL, hj]) rfl;rw [ff1, fc5] at q1;exact ⟨v, q1, q2⟩
  obtain ⟨en, hen⟩ : ∃ en : Nat → Value, en = fun i => cs.getD (clR l i) (.int .i64 0) := ⟨_, rfl⟩
  have hrd : ∀ i, Rd w F (.sl (iL (l.getD (clR l i) []))) (en i) := fun i => by
   obtain ⟨v, q1, q2⟩ := hrg _ (hcl i);rw [hen];dsimp only;rw [fb9, fb9, q1, ez5 (hcl i)];exact q2
  have hH : Holds en w b 0 (List.range l.length).toArray := by
   intro j hj;have hj' : j < l.length := by simpa using hj
   refine ⟨?_, by simp [World.frozen?, g1]⟩;obtain ⟨v, q1, -⟩ := hrg j hj';have e3 : (List.range l.length).toArray[j]! = j := by rw [getElem!_pos _ j hj]; simp
   rw [e3, hen];dsimp only;rw [show clR l j = j by unfold clR; omega, fb9, q1];simp only [World.cell?, g1, fc0];simpa using q1
  have hgl : b < w.heap.size := (fg3.1 g1).1;have eg : ∀ args w, (callFunc 64 args).run Tryz.prog w = .ok (.enter 64 args) w := enters_of func64 (by kernel_rfl) rfl
  have hgb0 : ∀ (m : Nat) (os : Array Obj) (dk : Array Nat), w.grownBy (sortWorld en w b 0 m dk os) (some b) := fun m os dk => by
   unfold sortWorld;refine ⟨rfl, rfl, rfl, by simp, fun k hk hne => ?_⟩;rw [heap_grow_old _ _ (by simpa using hk)];have : b ≠ k := fun e => hne (by rw [e])
   simp [putRow, mapBlock, Sort.ahead, Array.getElem?_modify, this]
  have hcmp : CmpReads Tryz.prog 64 #[] en (cfR l) b 0 (List.range l.length).toArray.size w := fun m os dk _ x y => by
   have hg := hgb0 m os dk;have hk : ∀ k, F k → (sortWorld en w b 0 m dk os).heap[k]? = w.heap[k]? := fun k hk => hg.block k (hi.flt k hk) (fun e => by cases e; exact g10 hk)
   exact el2 ((hrd x).mono (fun _ h => h) hk) ((hrd y).mono (fun _ h => h) hk)
  have h1c : OneCell en := fun i => (hrd i).one rfl
  have hcon := Any.slices_SortFunc_eq Tryz.sortRow en h1c (cfR l) (swoR l) 64 #[] b 0 c (List.range l.length).toArray w eg hcmp.lays hH hgl (by simp; omega);change Calls Tryz.prog 63 _ _ _ at hcon;simp only [fd5, List.length_range] at hcon;obtain ⟨p0, p1, p2, p3, -⟩ := el5 l;refine hcon.mono ?_;rintro e w' ⟨rfl, q, os, rfl⟩;rw [show pdq (ltOf (cfR l)) (List.range l.length).toArray 0 l.length (Lib.bitLen l.length) true true = pdR l from rfl];have hgb := hgb0 q os (pdR l)
  have hhp : (sortWorld en w b 0 q (pdR l) os).heap[b]? = some (.cells (putCells en 0 (pdR l) cs.toArray) 46 (0, 0)) := by
   unfold sortWorld;rw [heap_grow_old _ _ (by simpa using hgl)];simp [putRow, mapBlock, Sort.ahead, Array.getElem?_modify, g1, onCells]
  refine dx0 hi e1 hgb (putCells en 0 (pdR l) cs.toArray).toList (by simpa using hhp) (by simp [putCells, g2]) (by rw [ei6, p3]) g4 g5 (fun x hx => ?_) (fun x hx c hc => ?_) fun i x j cd hx hc => ?_
  ·obtain ⟨u, -, rfl⟩ := fc4.1 hx;rfl
  ·obtain ⟨u, -, rfl⟩ := fc4.1 hx;rw [show (D.sl (iL u)).cells = [D.sl (iL u)] from rfl, fa0] at hc;subst hc;rfl
  ·rw [rL, ez8, fa2] at hx;obtain ⟨u, hu, rfl⟩ := hx;rw [show (D.sl (iL u)).cells = [D.sl (iL u)] from rfl] at hc
   cases j with
   | zero =>
    simp at hc;subst hc;unfold el3 at hu;rw [ez8, fa2] at hu;obtain ⟨m, hm, rfl⟩ := hu;refine ⟨en m, ?_, (hrd m).mono (fun _ h => h) fun k hk => hgb.block k (hi.flt k hk) (fun e => by cases e; exact g10 hk)⟩;have hlt : i < (pdR l).size := by have := (ez7.1 hm).1; simpa using this
    have hmi : (pdR l)[i] = m := by
     have := (ez7.1 hm).2;simpa using this
    rw [ff1, fc5, Array.getElem?_toList];have hcs : i < cs.length := by omega
    simp [putCells, hlt, hcs, hmi]
   | succ j => simp at hc
end Go.Proofs.YtenpjlghikohmaaGreatDoor
namespace Go.Proofs.YtenpjlghikohmaaGreatDoor
set_option maxRecDepth 4000
open Go Go.Abs Go.Val Go.RowKit Go.Proofs.Tryz
attribute [local irreducible] go SGo an2 Ev aw2 EvO EvS RGo PGo
def el7 (e : Ed) : List Int := [e.src, e.id, e.dst]
def eR (a : AT) : List Ed → List (List Int)
 | [] => []
 | e :: r => (bif htF e a.ty && eh6 a.vs (el7 e) then [eh7 a.vs (el7 e)] else []) ++ eR a r
def nR (a : AT) : List Nd → List (List Int)
 | [] => []
 | n :: r => (bif eh1 n a then [[n.id]] else []) ++ nR a r
def el8 (g : Gr) (a : AT) : List (List Int) := bif a.k == 3 then eR a g.edges else nR a g.nodes
def okR (g : Gr) (a : AT) : Bool := dy7 g == 0 && dp1 a && dq4 a
def el9 (g : Gr) (a : AT) : List (List Int) := bif okR g a then dw2 (el8 g a) else []
def em0 (g : Gr) (a : AT) : Int := bif okR g a then ((eb7 a.vs).length : Int) else 0
theorem em1 (a : AT) : ∀ l : List Ed, (eR a l).length ≤ l.length
 | [] => fa4 _
 | e :: r => by
  have := em1 a r;rw [eR, fb5, fa8]
  cases htF e a.ty && eh6 a.vs (el7 e) <;> simp <;> omega
theorem em2 (a : AT) : ∀ l : List Nd, (nR a l).length ≤ l.length
 | [] => fa4 _
 | e :: r => by
  have := em2 a r;rw [nR, fb5, fa8]
  cases eh1 e a <;> simp <;> omega
theorem em3 {k : Int} {n : Nat} (h : n = dn8 k) (h0 : dn8 k ≠ 0) (c : (k == 3) = false) : n = 1 := by
 unfold dn8 at *;rw [c] at h h0
 cases c1 : k == 1 <;> cases c2 : k == 2 <;> cases c4 : k == 4 <;> rw [c1, c2, c4] at h h0 <;> simp_all
theorem tup1 (v n : Int) : eh7 [v] [n] = [n] ∧ eh6 [v] [n] = true := by
 have h1 : eh5 [v] [n] v = n := by unfold eh5 eh3; simp [List.findIdx?_cons]
 refine ⟨?_, ?_⟩
 ·show ([v].map (eh5 [v] [n])) = [n];rw [List.map_singleton, h1]
 ·unfold eh6;rw [show List.range [v].length = [0] from rfl];simp [h1]
theorem em4 {g : Gr} (h : dy7 g = 0) : g.nodes.length ≤ 2000 ∧ g.edges.length ≤ 4000 := by
 unfold dy7 at h
 cases c : decide (g.nodes.length > 2000) || decide (g.edges.length > 4000) with
 | true => rw [c] at h; simp at h
 | false =>
  rw [fh2] at c;have c1 := of_decide_eq_false c.1;have c2 := of_decide_eq_false c.2;omega
abbrev em5 (a : AT) : aa5 := .var 58 (.w (.d (di7 a)))
abbrev oRs (x : X) : aa5 := .var 40 (.w x)
abbrev oRn : aa5 := .var 40 (.cs [.nilS])
def rsV (k : Nat) : List D → aa5
 | [] => oRn
 | _ :: _ => oRs (.own k)
abbrev rwR (l : List D) : aa5 := .row 46 1 l
theorem em6 (a : AT) (ids : List Int) (hl : ids.length = a.vs.length) (hn : a.vs.length ≤ 8) (ho : eh6 a.vs ids = true) : EvS E 59 [.d (.sl (iL ids)), .ptr 0 0, .ptr 1 0] [em5 a, oRn] (.tup []) [em5 a, oRs (.own 2), rwR [rowD (eh7 a.vs ids)]] := by
 have h := ei5 a ids hl hn;unfold ei3 at h;rw [ho, cond_true] at h;refine yn func59 ntmps59 fun _ _ _ _=>?_
 repeat' (first | refine yz ?_ | refine yp b60 h ?_ | (refine qS rfl ⟨by simp, fun d hd => by (obtain rfl := fa0.1 hd; rfl), by (show (0 + 1) * 24 ≤ 140737488355328; omega), by (show 0 + 1 ≤ 9223372036854775807; omega)⟩ ?_) | refine yo [0, 1, 2])
theorem em7 (a : AT) (ids : List Int) (hl : ids.length = a.vs.length) (hn : a.vs.length ≤ 8) (ho : eh6 a.vs ids = false) : EvS E 59 [.d (.sl (iL ids)), .ptr 0 0, .ptr 1 0] [em5 a, oRn] (.tup []) [em5 a, oRn] := by
 have h := ei5 a ids hl hn;unfold ei3 at h;rw [ho, cond_false] at h;refine yn func59 ntmps59 fun _ _ _ _=>?_
 repeat' (first | refine yz ?_ | refine yp b60 h ?_ | refine yo [0, 1])
theorem em8 (a : AT) (ids : List Int) (l : List D) (hl : ids.length = a.vs.length) (hn : a.vs.length ≤ 8) (ho : eh6 a.vs ids = true) (hll : l.length ≤ 1000000) : EvS E 59 [.d (.sl (iL ids)), .ptr 0 0, .ptr 1 0] [em5 a, oRs (.own 2), rwR l] (.tup []) [em5 a, oRs (.own 3), .dead, rwR (l ++ [rowD (eh7 a.vs ids)])] := by
 have h := ei5 a ids hl hn;unfold ei3 at h;rw [ho, cond_true] at h;refine yn func59 ntmps59 fun _ _ _ _=>?_
 repeat' (first | refine yz ?_ | refine yp b60 h ?_ | (refine qS rfl ⟨by simp, fun d hd => by (obtain rfl := fa0.1 hd; rfl), by (show (l.length + 1) * 24 ≤ 140737488355328; omega), by (show l.length + 1 ≤ 9223372036854775807; omega)⟩ ?_) | refine yo [0, 1, 2, 3])
theorem em9 (a : AT) (ids : List Int) (l : List D) (hl : ids.length = a.vs.length) (hn : a.vs.length ≤ 8) (ho : eh6 a.vs ids = false) : EvS E 59 [.d (.sl (iL ids)), .ptr 0 0, .ptr 1 0] [em5 a, oRs (.own 2), rwR l] (.tup []) [em5 a, oRs (.own 2), rwR l] := by
 have h := ei5 a ids hl hn;unfold ei3 at h;rw [ho, cond_false] at h;refine yn func59 ntmps59 fun _ _ _ _=>?_
 repeat' (first | refine yz ?_ | refine yp b60 h ?_ | refine yo [0, 1, 2])
structure SRe (R : List (List Int)) (n : Nat) (rest : Nat → List (List Int)) where
 i : Nat
 o : List (List Int)
 hi : i ≤ n
 ho : o.length ≤ i
 ok : R = o ++ rest i
set_option maxHeartbeats 8000000 in
theorem en0 (g : Gr) (a : AT) (hn : ∀ n ∈ g.nodes, da0 n.props) : Ev E 23 [cy2 g, di7 a] (.d (ej2 (em0 g a) (el9 g a))) := by
 have hg := dz2 g;have hs := dp2 a;have hm := dq5 a;obtain ⟨R, hR⟩ : ∃ R, ej2 (em0 g a) (el9 g a) = R := ⟨_, rfl⟩;rw [hR]
 cases hok : okR g a with
 | false =>
  have e1 : R = .agg [.int 0, .sl []] := by rw [← hR]; unfold em0 el9; rw [hok]; rfl
  rw [e1];unfold okR at hok;clear hR e1 hn;generalize dy7 g = z at *;generalize dp1 a = s at *;generalize dq4 a = m at *;obtain ⟨k, vs, nm, ty, ⟨vk, vn, vd, vS, vl⟩⟩ := a
  cases c1 : z != 0 with
  | true =>
   refine ye2 func23 ntmps23 fun _ _ _=>?_
   repeat' (first | refine yz ?_ | refine yp b41 hg ?_ | refine yx ?_ | exact zD)
  | false =>
   have c1' : (z == 0) = true := by simpa using c1
   rw [c1', fc3] at hok
   cases s with
   | false =>
    refine ye2 func23 ntmps23 fun _ _ _=>?_
    repeat' (first | refine yz ?_ | refine yp b41 hg ?_ | refine yp b57 hs ?_ | refine yx ?_ | exact zD)
   | true =>
    rw [fc3] at hok;subst hok;refine ye2 func23 ntmps23 fun _ _ _=>?_
    repeat' (first | refine yz ?_ | refine yp b41 hg ?_ | refine yp b57 hs ?_ | refine yp b58 hm ?_ | refine yx ?_ | exact zD)
 | true =>
  have h0 := hok;unfold okR at h0;rw [fa3, fa3] at h0;obtain ⟨⟨h1, h2⟩, h3⟩ := h0;rw [h2] at hs;rw [h3] at hm;have h1 : dy7 g = 0 := by simpa using h1
  rw [h1] at hg;obtain ⟨s1, s2, s3⟩ := dt2 h2;have hlE : (g.edges.map cy1).length = g.edges.length := by simp
  have hlN : (g.nodes.map cy0).length = g.nodes.length := by simp
  have hbE := em4 h1;have hvl := ed7 a.vs
  cases c3 : a.k == 3 with
  | true =>
   have hk3 : a.k = 3 := by simpa using c3
   have hv3 : a.vs.length = 3 := by rw [s1, hk3]; rfl
   have hRe : R = .agg [.int (((eb7 a.vs).map D.int).length : Int), .sl (rL (dw2 (eR a g.edges)))] := by
    rw [← hR]; unfold em0 el9 ej2 el8; rw [hok, c3, fb8]; rfl
   have h0t := fun ids h1 h2 => em6 a ids h1 (by omega) h2
   have h0f := fun ids h1 h2 => em7 a ids h1 (by omega) h2
   have h1t := fun ids l h1 h2 h3 => em8 a ids l h1 (by omega) h2 h3
   have h1f := fun ids l h1 h2 => em9 a ids l h1 (by omega) h2
   have hHT := fun e => eh0 e a.ty
   have hAV := ed2 a (by omega);have hso := fun l h1 h2 => el6 l h1 h2
   have hs0 := ej7 64;have hco := fun l h => ej9 l h
   have hc0 := ej8 66;rw [hRe];clear hR hRe;obtain ⟨k, vs, nm, ty, ⟨vk, vn, vd, vS, vl⟩⟩ := a;dsimp only at *;refine ye2 func23 ntmps23 fun _ _ _=>?_
   repeat' (first | refine yz ?_ | refine yp b41 hg ?_ | refine yp b57 hs ?_ | refine yp b58 hm ?_ | refine bc7 rfl rfl rfl rfl rfl ?_)
   refine ac7 (α := SRe (eR ⟨k, vs, nm, ty, .mk vk vn vd vS vl⟩ g.edges) g.edges.length (fun i => eR ⟨k, vs, nm, ty, .mk vk vn vd vS vl⟩ (g.edges.drop i))) (fun p => ⟨[(2, .ptr 0 0), (3, .ptr 1 0), (4, .ptr 2 0), (5, .ptr 3 0), (6, .clo 59 [.ptr 1 0, .ptr 3 0]), (30, .d (.sl (g.edges.map cy1))), (31, .d (.int (g.edges.map cy1).length)), (32, .d (.int p.i))], [.var 38 (.w (.d (cy2 g))), em5 ⟨k, vs, nm, ty, .mk vk vn vd vS vl⟩, .var 63 (.cs [.d (.int 0), .nilS]), rsV 4 (rL p.o)] ++ ay6 46 1 (rL p.o)⟩) (fun p => g.edges.length - p.i) ⟨0, [], by omega, by simp, rfl⟩ (zle 4) ?_;rintro ⟨i, o, hi, ho, ok⟩;dsimp only;have hol : (rL o).length ≤ 1000000 := by rw [ei6]; omega
   rcases ez6 i g.edges.length with hlt | hge
   ·have g1 : decide ((i : Int) < ((g.edges.map cy1).length : Int)) = true := by rw [hlE]; simpa using hlt
    have hx0 := ez5 hlt;generalize g.edges[i] = x at hx0;have hx : (g.edges.map cy1)[((i : Nat) : Int).toNat]? = some (cy1 x) := cy3 (f := cy1) hx0;have hht := hHT x;have hids : [x.src, x.id, x.dst].length = vs.length := by rw [hv3]; rfl
    rw [bz2 hx0, eR] at ok;dsimp only at ok;rw [show el7 x = [x.src, x.id, x.dst] from rfl] at ok;have happ := ek3 o (eh7 vs [x.src, x.id, x.dst])
    cases c1 : htF x ty with
    | true =>
     rw [c1] at hht ok;rw [fc3] at ok
     cases c2 : eh6 vs [x.src, x.id, x.dst] with
     | true =>
      rw [c2, cond_true, ← fc1] at ok;have a0 := h0t _ hids c2;have a1 := fun l => h1t _ l hids c2
      obtain ⟨x1, x2, x3, x4, x5⟩ := x;generalize hq : rL o = oo at *
      match oo, hol with
      | [], hol =>
       dsimp only [rsV, ay6]
       repeat' (first | refine yz ?_ | refine yi (cy1 ⟨x1, x2, x3, x4, x5⟩) hx ?_ | refine yp b61 hht ?_ | refine bc8 [1, 3] rfl rfl rfl rfl (FnX.clo _ _) b59 (a0) rfl rfl rfl rfl rfl ?_)
       refine ac1 ?_;refine ⟨⟨i + 1, o ++ [eh7 vs [x2, x1, x3]], by omega, by simp; omega, ok⟩, by dsimp only; omega, ?_⟩;dsimp only;rw [happ];exact (bi5 [0, 1, 2, 3, 5])
      | o0 :: or, hol =>
       have a1 := a1 (o0 :: or) hol;dsimp only [rsV, ay6]
       repeat' (first | refine yz ?_ | refine yi (cy1 ⟨x1, x2, x3, x4, x5⟩) hx ?_ | refine yp b61 hht ?_ | refine bc8 [1, 3, 4] rfl rfl rfl rfl (FnX.clo _ _) b59 (a1) rfl rfl rfl rfl rfl ?_)
       refine ac1 ?_;refine ⟨⟨i + 1, o ++ [eh7 vs [x2, x1, x3]], by omega, by simp; omega, ok⟩, by dsimp only; omega, ?_⟩;dsimp only;rw [happ];exact (bi5 [0, 1, 2, 3, 6])
     | false =>
      rw [c2, cond_false, fd9] at ok;have a0 := h0f _ hids c2;have a1 := fun l => h1f _ l hids c2
      obtain ⟨x1, x2, x3, x4, x5⟩ := x;generalize hq : rL o = oo at *
      match oo, hol with
      | [], hol =>
       dsimp only [rsV, ay6]
       repeat' (first | refine yz ?_ | refine yi (cy1 ⟨x1, x2, x3, x4, x5⟩) hx ?_ | refine yp b61 hht ?_ | refine bc8 [1, 3] rfl rfl rfl rfl (FnX.clo _ _) b59 (a0) rfl rfl rfl rfl rfl ?_)
       refine ac1 ?_;refine ⟨⟨i + 1, o, by omega, by omega, ok⟩, by dsimp only; omega, ?_⟩;dsimp only;rw [hq];exact (zle 4)
      | o0 :: or, hol =>
       have a1 := a1 (o0 :: or);dsimp only [rsV, ay6]
       repeat' (first | refine yz ?_ | refine yi (cy1 ⟨x1, x2, x3, x4, x5⟩) hx ?_ | refine yp b61 hht ?_ | refine bc8 [1, 3, 4] rfl rfl rfl rfl (FnX.clo _ _) b59 (a1) rfl rfl rfl rfl rfl ?_)
       refine ac1 ?_;refine ⟨⟨i + 1, o, by omega, by omega, ok⟩, by dsimp only; omega, ?_⟩;dsimp only;rw [hq];exact (zle 5)
    | false =>
     rw [c1] at hht ok;rw [fe1, cond_false, fd9] at ok;generalize hq : rL o = oo at *
     match oo, hol with
     | [], hol =>
      dsimp only [rsV, ay6]
      repeat' (first | refine yz ?_ | refine yi (cy1 x) hx ?_ | refine yp b61 hht ?_)
      refine ac1 ?_;refine ⟨⟨i + 1, o, by omega, by omega, ok⟩, by dsimp only; omega, ?_⟩;dsimp only;rw [hq];exact (zle 4)
     | o0 :: or, hol =>
      dsimp only [rsV, ay6]
      repeat' (first | refine yz ?_ | refine yi (cy1 x) hx ?_ | refine yp b61 hht ?_)
      refine ac1 ?_;refine ⟨⟨i + 1, o, by omega, by omega, ok⟩, by dsimp only; omega, ?_⟩;dsimp only;rw [hq];exact (zle 5)
   ·have g1 : decide ((i : Int) < ((g.edges.map cy1).length : Int)) = false := by rw [hlE]; simp; omega
    rw [fa1 hge] at ok;rw [show eR ⟨k, vs, nm, ty, .mk vk vn vd vS vl⟩ [] = [] from rfl, fg4] at ok;rw [ok]
    cases o with
    | nil =>
     have e0 : dw2 ([] : List (List Int)) = [] := dw3 (by simp);rw [e0];dsimp only [rsV, ay6, rL, List.map]
     repeat' (first | refine yq 19 [6] ?_ | refine yf 19 0 6 ?_ | refine yw ?_ | refine rgN ?_ | refine yz ?_ | refine yc [] b63 (hs0) ?_ | refine yp b53 hAV ?_ | refine yp b65 hc0 ?_ | exact zD)
    | cons o0 or =>
     obtain ⟨p0, p1, p2, p3, p4⟩ := el5 (o0 :: or);have hso := hso (o0 :: or) (by simp) (by have := ei6 (o0 :: or); omega);have hco := hco (el3 (o0 :: or)) (by rw [p3]; have := ei6 (o0 :: or); omega);rw [dw8 p2 p4] at hco;rw [show (rL (o0 :: or)) = rowD o0 :: rL or from rfl] at hso ⊢;generalize hS : el3 (o0 :: or) = S at *;dsimp only [rsV, ay6]
     repeat' (first | refine yu 19 [4,6] [2,4] ?_ | refine yk 19 0 3 ?_ | refine yf 19 3 1 ?_ | refine yf 19 5 1 ?_ | refine yw ?_ | refine rgN ?_ | refine yv ?_ | refine yz ?_ | refine yc [4] b63 (hso) ?_ | refine yp b53 hAV ?_ | refine bi0 [4] (id := 19) (i := 4) rfl rfl rfl rfl rfl (FnX.plain _) b65 (hco) rfl rfl rfl rfl rfl (by repeat (first | exact trivial | refine ⟨⟨rfl, rfl⟩, ?_⟩ | refine ⟨trivial, ?_⟩)) ?_ | exact zD)
  | false =>
   have hv1 : a.vs.length = 1 := em3 s1 s2 c3
   have hRe : R = .agg [.int (((eb7 a.vs).map D.int).length : Int), .sl (rL (dw2 (nR a g.nodes)))] := by
    rw [← hR]; unfold em0 el9 ej2 el8; rw [hok, c3, fb8]; rfl
   have h0t := fun ids h1 h2 => em6 a ids h1 (by omega) h2
   have h0f := fun ids h1 h2 => em7 a ids h1 (by omega) h2
   have h1t := fun ids l h1 h2 h3 => em8 a ids l h1 (by omega) h2 h3
   have h1f := fun ids l h1 h2 => em9 a ids l h1 (by omega) h2
   have hHT := fun n hnm => eh2 n a (hn n hnm)
   have hAV := ed2 a (by omega);have hso := fun l h1 h2 => el6 l h1 h2
   have hs0 := ej7 64;have hco := fun l h => ej9 l h
   have hc0 := ej8 66;rw [hRe];clear hR hRe;obtain ⟨k, vs, nm, ty, ⟨vk, vn, vd, vS, vl⟩⟩ := a;dsimp only at *;refine ye2 func23 ntmps23 fun _ _ _=>?_
   repeat' (first | refine yz ?_ | refine yp b41 hg ?_ | refine yp b57 hs ?_ | refine yp b58 hm ?_ | refine bc7 rfl rfl rfl rfl rfl ?_)
   refine ac7 (α := SRe (nR ⟨k, vs, nm, ty, .mk vk vn vd vS vl⟩ g.nodes) g.nodes.length (fun i => nR ⟨k, vs, nm, ty, .mk vk vn vd vS vl⟩ (g.nodes.drop i))) (fun p => ⟨[(2, .ptr 0 0), (3, .ptr 1 0), (4, .ptr 2 0), (5, .ptr 3 0), (6, .clo 59 [.ptr 1 0, .ptr 3 0]), (51, .d (.sl (g.nodes.map cy0))), (52, .d (.int (g.nodes.map cy0).length)), (53, .d (.int p.i))], [.var 38 (.w (.d (cy2 g))), em5 ⟨k, vs, nm, ty, .mk vk vn vd vS vl⟩, .var 63 (.cs [.d (.int 0), .nilS]), rsV 4 (rL p.o)] ++ ay6 46 1 (rL p.o)⟩) (fun p => g.nodes.length - p.i) ⟨0, [], by omega, by simp, rfl⟩ (zle 4) ?_;rintro ⟨i, o, hi, ho, ok⟩;dsimp only;have hol : (rL o).length ≤ 1000000 := by rw [ei6]; omega
   rcases ez6 i g.nodes.length with hlt | hge
   ·have g1 : decide ((i : Int) < ((g.nodes.map cy0).length : Int)) = true := by rw [hlN]; simpa using hlt
    have hx0 := ez5 hlt;generalize g.nodes[i] = x at hx0;have hx : (g.nodes.map cy0)[((i : Nat) : Int).toNat]? = some (cy0 x) := cy3 (f := cy0) hx0;have hht := hHT x (ez9 hx0);have hids : [x.id].length = vs.length := by rw [hv1]; rfl
    obtain ⟨v0, hv0⟩ : ∃ v0, vs = [v0] := List.length_eq_one_iff.1 hv1;have c2 : eh6 vs [x.id] = true := by rw [hv0]; exact (tup1 v0 x.id).2
    have ht1 : eh7 vs [x.id] = [x.id] := by rw [hv0]; exact (tup1 v0 x.id).1
    rw [bz2 hx0, nR, ← ht1] at ok;have happ := ek3 o (eh7 vs [x.id])
    cases c1 : eh1 x ⟨k, vs, nm, ty, .mk vk vn vd vS vl⟩ with
    | true =>
     rw [c1] at hht ok;rw [cond_true, ← fc1] at ok;have a0 := h0t _ hids c2;have a1 := fun l => h1t _ l hids c2
     obtain ⟨x1, x2, x3⟩ := x;generalize hq : rL o = oo at *
     match oo, hol with
     | [], hol =>
      dsimp only [rsV, ay6]
      repeat' (first | refine yz ?_ | refine yi (cy0 ⟨x1, x2, x3⟩) hx ?_ | refine yp b62 hht ?_ | refine bc8 [1, 3] rfl rfl rfl rfl (FnX.clo _ _) b59 (a0) rfl rfl rfl rfl rfl ?_)
      refine ac1 ?_;refine ⟨⟨i + 1, o ++ [eh7 vs [x1]], by omega, by simp; omega, ok⟩, by dsimp only; omega, ?_⟩;dsimp only;rw [happ];exact (bi5 [0, 1, 2, 3, 5])
     | o0 :: or, hol =>
      have a1 := a1 (o0 :: or) hol;dsimp only [rsV, ay6]
      repeat' (first | refine yz ?_ | refine yi (cy0 ⟨x1, x2, x3⟩) hx ?_ | refine yp b62 hht ?_ | refine bc8 [1, 3, 4] rfl rfl rfl rfl (FnX.clo _ _) b59 (a1) rfl rfl rfl rfl rfl ?_)
      refine ac1 ?_;refine ⟨⟨i + 1, o ++ [eh7 vs [x1]], by omega, by simp; omega, ok⟩, by dsimp only; omega, ?_⟩;dsimp only;rw [happ];exact (bi5 [0, 1, 2, 3, 6])
    | false =>
     rw [c1] at hht ok;rw [cond_false, fd9] at ok;generalize hq : rL o = oo at *
     match oo, hol with
     | [], hol =>
      dsimp only [rsV, ay6]
      repeat' (first | refine yz ?_ | refine yi (cy0 x) hx ?_ | refine yp b62 hht ?_)
      refine ac1 ?_;refine ⟨⟨i + 1, o, by omega, by omega, ok⟩, by dsimp only; omega, ?_⟩;dsimp only;rw [hq];exact (zle 4)
     | o0 :: or, hol =>
      dsimp only [rsV, ay6]
      repeat' (first | refine yz ?_ | refine yi (cy0 x) hx ?_ | refine yp b62 hht ?_)
      refine ac1 ?_;refine ⟨⟨i + 1, o, by omega, by omega, ok⟩, by dsimp only; omega, ?_⟩;dsimp only;rw [hq];exact (zle 5)
   ·have g1 : decide ((i : Int) < ((g.nodes.map cy0).length : Int)) = false := by rw [hlN]; simp; omega
    rw [fa1 hge] at ok;rw [show nR ⟨k, vs, nm, ty, .mk vk vn vd vS vl⟩ [] = [] from rfl, fg4] at ok;rw [ok]
    cases o with
    | nil =>
     have e0 : dw2 ([] : List (List Int)) = [] := dw3 (by simp);rw [e0];dsimp only [rsV, ay6, rL, List.map]
     repeat' (first | refine yq 19 [6] ?_ | refine yf 19 0 6 ?_ | refine yw ?_ | refine rgN ?_ | refine yz ?_ | refine yc [] b63 (hs0) ?_ | refine yp b53 hAV ?_ | refine yp b65 hc0 ?_ | exact zD)
    | cons o0 or =>
     obtain ⟨p0, p1, p2, p3, p4⟩ := el5 (o0 :: or);have hso := hso (o0 :: or) (by simp) (by have := ei6 (o0 :: or); omega);have hco := hco (el3 (o0 :: or)) (by rw [p3]; have := ei6 (o0 :: or); omega);rw [dw8 p2 p4] at hco;rw [show (rL (o0 :: or)) = rowD o0 :: rL or from rfl] at hso ⊢;generalize hS : el3 (o0 :: or) = S at *;dsimp only [rsV, ay6]
     repeat' (first | refine yu 19 [4,6] [2,4] ?_ | refine yk 19 0 3 ?_ | refine yf 19 3 1 ?_ | refine yf 19 5 1 ?_ | refine yw ?_ | refine rgN ?_ | refine yv ?_ | refine yz ?_ | refine yc [4] b63 (hso) ?_ | refine yp b53 hAV ?_ | refine bi0 [4] (id := 19) (i := 4) rfl rfl rfl rfl rfl (FnX.plain _) b65 (hco) rfl rfl rfl rfl rfl (by repeat (first | exact trivial | refine ⟨⟨rfl, rfl⟩, ?_⟩ | refine ⟨trivial, ?_⟩)) ?_ | exact zD)
end Go.Proofs.YtenpjlghikohmaaGreatDoor
