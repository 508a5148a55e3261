/- Rows of integers compared by the specification and by the library; rows without their repeats; relations compared with themselves; The specification's merge and its sort of rows; The library's comparison of rows of integers, its sort in place of such rows, its removal of repeats among them, as the engine's contracts; The relation of an atom, by the program; The relation of an atom, by the specification: the program's; The law AtomsRels, given that the chapter's example holds. Conditions: each part's own, as it says. -/
import Derived.Test.YtenpjlghikohmaaGreatDoorWA
import Derived.Test.YtenpjlghikohmaaGreatDoorZA
import Derived.Test.YtenpjlghikohmaaGreatDoorLB
import Derived.Test.YtenpjlghikohmaaGreatDoorGC
import Derived.Test.YtenpjlghikohmaaGreatDoorRA
import Derived.Test.YtenpjlghikohmaaGreatDoorLD
import Derived.Test.YtenpjlghikohmaaGreatDoorGG
set_option linter.unusedVariables false
set_option linter.unusedSimpArgs false
namespace Go.Proofs.YtenpjlghikohmaaGreatDoor
set_option maxRecDepth 4000
open Go Go.Abs Go.Val Go.RowKit Go.Proofs.Tryz
attribute [local irreducible] go SGo HasBody Ev ExtEv EvO EvS PGo RGo
abbrev rowD (r : List Int) : D := .sl (iL r)
def rL (l : List (List Int)) : List D := l.map rowD
theorem rL_len (l : List (List Int)) : (rL l).length = l.length := by simp [rL]
theorem lexZ_end {a b : List Int} {i : Nat} (ha : i ≤ a.length) (hb : i ≤ b.length) (h : a.length ≤ i ∨ b.length ≤ i) : lexZ (a.drop i) (b.drop i) = bif decide ((a.length : Int) < b.length) then -1 else bif decide ((a.length : Int) > b.length) then 1 else 0 := by
 have la : (a.drop i).length = a.length - i := by simp
 have lb : (b.drop i).length = b.length - i := by simp
 cases hA : a.drop i with
 | nil =>
  rw [hA] at la
  cases hB : b.drop i with
  | nil =>
   rw [hB] at lb
   simp only [List.length_nil] at la lb
   rw [decide_eq_false (by omega), decide_eq_false (by omega)]
   rfl
  | cons y q =>
   rw [hB] at lb
   simp only [List.length_nil, List.length_cons] at la lb
   rw [decide_eq_true (by omega)]
   rfl
 | cons x r =>
  rw [hA] at la
  cases hB : b.drop i with
  | nil =>
   rw [hB] at lb
   simp only [List.length_nil, List.length_cons] at la lb
   rw [decide_eq_false (by omega), decide_eq_true (by omega)]
   rfl
  | cons y q =>
   rw [hB] at lb
   simp only [List.length_cons] at la lb
   omega
structure SCl (a b : List Int) (R : Int) where
 i : Nat
 ha : i ≤ a.length
 hb : i ≤ b.length
 ok : R = lexZ (a.drop i) (b.drop i)
set_option maxHeartbeats 2000000 in
theorem rcmpL_ev (a b : List Int) : Ev E 117 [.sl (iL a), .sl (iL b)] (.d (.int (lexZ a b))) := Ev.fit fun hfit => by
 have m1 := (fit_map (hfit (.sl (iL a)) (by simp))).1
 have m2 := (fit_map (hfit (.sl (iL b)) (by simp))).1
 have la := iL_len a
 have lb := iL_len b
 have hend := fun i ha hb h => lexZ_end (a := a) (b := b) (i := i) ha hb h
 rw [← la, ← lb] at hend
 generalize hR : lexZ a b = R
 refine ye2 func117 ntmps117 fun _ _ _=>?_
 repeat' (first | refine yz ?_ | refine yx ?_ | (refine yy ?_ ?_ <;> intro _) | exact zD | exact zL)
 refine go_loop_ (α := SCl a b R) (fun p => ⟨[(0, .d (.sl (iL a))), (1, .d (.sl (iL b))), (5, .d (.int p.i))], []⟩) (fun p => a.length - p.i) ⟨0, by omega, by omega, hR.symm⟩ (zle 0) ?_
 rintro ⟨i, ha, hb, ok⟩
 dsimp only
 have hE : (a.length ≤ i ∨ b.length ≤ i) → R = bif decide (((iL a).length : Int) < (iL b).length) then -1 else bif decide (((iL a).length : Int) > (iL b).length) then 1 else 0 := fun h => by rw [ok]; exact hend i (by omega) (by omega) (by omega)
 rcases Nat.lt_or_ge i a.length with hlt | hge
 ·have g1 : decide ((i : Int) < ((iL a).length : Int)) = true := by rw [la]; simpa using hlt
  rcases Nat.lt_or_ge i b.length with hlb | hgb
  ·have g2 : decide ((i : Int) < ((iL b).length : Int)) = true := by rw [lb]; simpa using hlb
   have hx0 := List.getElem?_eq_getElem hlt
   have hy0 := List.getElem?_eq_getElem hlb
   generalize a[i] = x at hx0
   generalize b[i] = y at hy0
   have hx := iL_get hx0
   have hy := iL_get hy0
   rw [drop_at hx0, drop_at hy0, lexZ_cons] at ok
   cases c1 : decide (x < y) with
   | true =>
    rw [c1] at ok
    rw [show R = -1 from ok]
    repeat' (first | refine yz ?_ | refine yi (.int x) hx ?_ | refine yi (.int y) hy ?_ | refine yx ?_ | (refine yy ?_ ?_ <;> intro _) | exact zD | exact zL)
   | false =>
    cases c2 : decide (x > y) with
    | true =>
     rw [c1, c2] at ok
     rw [show R = 1 from ok]
     repeat' (first | refine yz ?_ | refine yi (.int x) hx ?_ | refine yi (.int y) hy ?_ | refine yx ?_ | (refine yy ?_ ?_ <;> intro _) | exact zD | exact zL)
    | false =>
     rw [c1, c2] at ok
     repeat' (first | refine yz ?_ | refine yi (.int x) hx ?_ | refine yi (.int y) hy ?_ | refine yx ?_ | (refine yy ?_ ?_ <;> intro _) | exact zD | exact zL)
     refine go_stop ?_
     exact ⟨⟨i + 1, by omega, by omega, ok⟩, by dsimp only; omega, (zle 0)⟩
  ·have g2 : decide ((i : Int) < ((iL b).length : Int)) = false := by rw [lb]; simp; omega
   have hE := hE (.inr hgb)
   cases c1 : decide (((iL a).length : Int) < (iL b).length) with
   | true =>
    rw [c1] at hE
    rw [show R = -1 from hE]
    repeat' (first | refine yz ?_ | refine yx ?_ | (refine yy ?_ ?_ <;> intro _) | exact zD | exact zL)
   | false =>
    cases c2 : decide (((iL a).length : Int) > (iL b).length) with
    | true =>
     rw [c1, c2] at hE
     rw [show R = 1 from hE]
     repeat' (first | refine yz ?_ | refine yx ?_ | (refine yy ?_ ?_ <;> intro _) | exact zD | exact zL)
    | false =>
     rw [c1, c2] at hE
     rw [show R = 0 from hE]
     repeat' (first | refine yz ?_ | refine yx ?_ | (refine yy ?_ ?_ <;> intro _) | exact zD | exact zL)
 ·have g1 : decide ((i : Int) < ((iL a).length : Int)) = false := by rw [la]; simp; omega
  have hE := hE (.inl hge)
  cases c1 : decide (((iL a).length : Int) < (iL b).length) with
  | true =>
   rw [c1] at hE
   rw [show R = -1 from hE]
   repeat' (first | refine yz ?_ | refine yx ?_ | (refine yy ?_ ?_ <;> intro _) | exact zD | exact zL)
  | false =>
   cases c2 : decide (((iL a).length : Int) > (iL b).length) with
   | true =>
    rw [c1, c2] at hE
    rw [show R = 1 from hE]
    repeat' (first | refine yz ?_ | refine yx ?_ | (refine yy ?_ ?_ <;> intro _) | exact zD | exact zL)
   | false =>
    rw [c1, c2] at hE
    rw [show R = 0 from hE]
    repeat' (first | refine yz ?_ | refine yx ?_ | (refine yy ?_ ?_ <;> intro _) | exact zD | exact zL)
theorem intsL_ev (a b : List Int) : Ev E 78 [.sl (iL a), .sl (iL b)] (.d (.bool (lexZ a b == 0))) := by
 have h := rcmpL_ev a b
 generalize lexZ a b = z at *
 refine ye2 func78 ntmps78 fun _ _ _=>?_
 repeat' (first | refine yz ?_ | refine yp b117 h ?_ | refine yx ?_ | (refine yy ?_ ?_ <;> intro _) | exact zD | exact zL)
structure SNn (n : Nat) where
 i : Nat
 hi : i ≤ n
theorem rL_get {l : List (List Int)} {i : Nat} {x : List Int} (h : l[i]? = some x) : (rL l)[((i : Nat) : Int).toNat]? = some (.sl (iL x)) := by
 rw [Int.toNat_natCast, rL, List.getElem?_map, h]
 rfl
theorem sameRows_self (l : List (List Int)) : Ev E 27 [.sl (rL l), .sl (rL l)] (.d (.bool true)) := Ev.fit fun hfit => by
 have m1 := (fit_map (hfit (.sl (rL l)) (by simp))).1
 have la := rL_len l
 have g0 : (((rL l).length : Int) != ((rL l).length : Int)) = false := by simp
 refine ye2 func27 ntmps27 fun _ _ _=>?_
 repeat' (first | refine yz ?_ | refine yx ?_ | (refine yy ?_ ?_ <;> intro _) | exact zD | exact zL)
 refine go_loop_ (α := SNn l.length) (fun p => ⟨[(0, .d (.sl (rL l))), (1, .d (.sl (rL l))), (5, .d (.int p.i))], []⟩) (fun p => l.length - p.i) ⟨0, by omega⟩ (zle 0) ?_
 rintro ⟨i, hi⟩
 dsimp only
 rcases Nat.lt_or_ge i l.length with hlt | hge
 ·have g1 : decide ((i : Int) < ((rL l).length : Int)) = true := by rw [la]; simpa using hlt
  have hx0 := List.getElem?_eq_getElem hlt
  generalize l[i] = x at hx0
  have hx := rL_get hx0
  have h := intsL_ev x x
  rw [lexZ_self] at h
  have h : Ev E 78 [.sl (iL x), .sl (iL x)] (.d (.bool true)) := h
  repeat' (first | refine yz ?_ | refine qI (.sl (iL x)) rfl (guardX_ok rfl) rfl rfl rfl rfl rfl rfl (by first | omega | decide) hx ?_ | refine yp b78 h ?_ | refine yx ?_ | (refine yy ?_ ?_ <;> intro _) | exact zD | exact zL)
  refine go_stop ?_
  exact ⟨⟨i + 1, by omega⟩, by dsimp only; omega, (zle 0)⟩
 ·have g1 : decide ((i : Int) < ((rL l).length : Int)) = false := by rw [la]; simp; omega
  repeat' (first | refine yz ?_ | refine yx ?_ | (refine yy ?_ ?_ <;> intro _) | exact zD | exact zL)
def encRL (n : Int) (l : List (List Int)) : D := .agg [.int n, .sl (rL l)]
theorem sameRel_self (n : Int) (l : List (List Int)) : Ev E 22 [encRL n l, encRL n l] (.d (.bool true)) := by
 have h := sameRows_self l
 have g : (n == n) = true := by simp
 refine ye2 func22 ntmps22 fun _ _ _=>?_
 repeat' (first | refine yz ?_ | refine yp b27 h ?_ | refine yx ?_ | (refine yy ?_ ?_ <;> intro _) | exact zD | exact zL)
structure SEz (a b : List Int) where
 i : Nat
 hi : i ≤ a.length
 ok : lexZ a b = lexZ (a.drop i) (b.drop i)
theorem equalL_ev (a b : List Int) : Ev E 66 [.sl (iL a), .sl (iL b)] (.d (.bool (lexZ b a == 0))) := Ev.fit fun hfit => by
 have m1 := (fit_map (hfit (.sl (iL a)) (by simp))).1
 have la := iL_len a
 have lb := iL_len b
 have e : (lexZ b a == 0) = (lexZ a b == 0) := by
  rw [lexZ_anti a b]
  cases h : lexZ a b == 0 with
  | true => rw [beq_iff_eq] at h ⊢; omega
  | false => rw [beq_eq_false_iff_ne] at h ⊢; omega
 rw [e]
 by_cases hl : a.length = b.length
 ·have g0 : (((iL a).length : Int) != ((iL b).length : Int)) = false := by rw [la, lb, hl]; simp
  refine ye2 func66 ntmps66 fun _ _ _=>?_
  repeat' (first | refine yz ?_ | refine yx ?_ | (refine yy ?_ ?_ <;> intro _) | exact zD | exact zL)
  refine go_loop_ (α := SEz a b) (fun p => ⟨[(0, .d (.sl (iL a))), (1, .d (.sl (iL b))), (12, .d (.int (iL a).length)), (13, .d (.int p.i))], []⟩) (fun p => a.length - p.i) ⟨0, by omega, rfl⟩ (zle 0) ?_
  rintro ⟨i, hi, ok⟩
  dsimp only
  rcases Nat.lt_or_ge i a.length with hlt | hge
  ·have g1 : decide ((i : Int) < ((iL a).length : Int)) = true := by rw [la]; simpa using hlt
   have hx0 := List.getElem?_eq_getElem hlt
   have hy0 := List.getElem?_eq_getElem (show i < b.length by omega)
   generalize a[i] = x at hx0
   generalize b[i]'(by omega) = y at hy0
   have hx := iL_get hx0
   have hy := iL_get hy0
   rw [drop_at hx0, drop_at hy0] at ok
   cases c1 : x != y with
   | true =>
    have : (lexZ a b == 0) = false := by
     rw [ok, beq_eq_false_iff_ne]
     intro h0
     have := lexZ_zero _ _ h0
     simp at this
     simp [this.1] at c1
    rw [this]
    repeat' (first | refine yz ?_ | refine yi (.int x) hx ?_ | refine yi (.int y) hy ?_ | refine yx ?_ | (refine yy ?_ ?_ <;> intro _) | exact zD | exact zL)
   | false =>
    have hxy : x = y := by simpa using c1
    rw [hxy, lexZ_eq] at ok
    repeat' (first | refine yz ?_ | refine yi (.int x) hx ?_ | refine yi (.int y) hy ?_ | refine yx ?_ | (refine yy ?_ ?_ <;> intro _) | exact zD | exact zL)
    refine go_stop ?_
    exact ⟨⟨i + 1, by omega, ok⟩, by dsimp only; omega, (zle 0)⟩
  ·have g1 : decide ((i : Int) < ((iL a).length : Int)) = false := by rw [la]; simp; omega
   have : (lexZ a b == 0) = true := by
    rw [ok, List.drop_eq_nil_of_le (by omega), List.drop_eq_nil_of_le (by omega)]
    rfl
   rw [this]
   repeat' (first | refine yz ?_ | refine yx ?_ | (refine yy ?_ ?_ <;> intro _) | exact zD | exact zL)
 ·have g0 : (((iL a).length : Int) != ((iL b).length : Int)) = true := by rw [la, lb]; simp; omega
  have : (lexZ a b == 0) = false := by
   rw [beq_eq_false_iff_ne]
   intro h0
   exact hl (congrArg List.length (lexZ_zero _ _ h0))
  rw [this]
  refine ye2 func66 ntmps66 fun _ _ _=>?_
  repeat' (first | refine yz ?_ | refine yx ?_ | (refine yy ?_ ?_ <;> intro _) | exact zD | exact zL)
theorem blenR_ev : Ev E 155 [.imm (.int .u64 0)] (.d (.int 0)) := by
 refine of_lib1 (by decide) fun w F _ _ => ?_
 refine (Tryz.bits_Len 0 w (by omega) (by omega)).mono ?_
 rintro e w' ⟨rfl, rfl⟩
 exact ⟨rfl, Below.refl _ _⟩
theorem insR0_ev (fn : FuncId) : EvS E 240 [.d (.sl []), .d (.int 0), .d (.int 0), .d (.imm (.func (.func fn) #[] #[]))] [] (.tup []) [] := by
 refine yn func240 ntmps240 fun _ _ _ _=>?_
 repeat' (first | refine yz ?_ | refine yx ?_ | (refine yy ?_ ?_ <;> intro _) | exact zD | exact zL)
 refine go_loop_ (α := Unit) (fun _ => ⟨[(2, .d (.int 0)), (8, .d (.int 1))], []⟩) (fun _ => 0) () (zle 0) ?_
 rintro -
 have g : decide ((1 : Int) < 0) = false := rfl
 repeat' (first | refine yz ?_ | refine retS0 [] rfl rfl rfl rfl | refine endS0 [] rfl rfl rfl rfl | refine yx ?_ | (refine yy ?_ ?_ <;> intro _) | exact zD | exact zL)
theorem pdqR0_ev (fn : FuncId) : EvS E 154 [.d (.sl []), .d (.int 0), .d (.int 0), .d (.int 0), .d (.imm (.func (.func fn) #[] #[]))] [] (.tup []) [] := by
 have q := insR0_ev fn
 refine yn func154 ntmps154 fun _ _ _ _=>?_
 repeat' (first | refine yz ?_ | refine yx ?_ | (refine yy ?_ ?_ <;> intro _) | exact zD | exact zL)
 refine go_loop_ (α := Unit) (fun _ => ⟨[(0, .d (.sl [])), (1, .d (.int 0)), (2, .d (.int 0)), (3, .d (.int 0)), (4, .d (.imm (.func (.func fn) #[] #[])))], []⟩) (fun _ => 0) () (zle 0) ?_
 rintro -
 have g : decide ((0 : Int) ≤ 12) = true := rfl
 repeat' (first | refine yz ?_ | refine yc [] b240 (q) ?_ | refine retS0 [] rfl rfl rfl rfl | refine endS0 [] rfl rfl rfl rfl | refine yx ?_ | (refine yy ?_ ?_ <;> intro _) | exact zD | exact zL)
theorem sortR0_evS (fn : FuncId) : EvS E 63 [.d (.sl []), .d (.imm (.func (.func fn) #[] #[]))] [] (.tup []) [] := by
 have q := pdqR0_ev fn
 have h := blenR_ev
 have hz : (([] : List D).length : Int) = 0 := rfl
 refine yn func63 ntmps63 fun _ _ _ _=>?_
 repeat' (first | refine yz ?_ | refine yp b155 h ?_ | refine yc [] b154 (q) ?_ | refine retS0 [] rfl rfl rfl rfl | refine endS0 [] rfl rfl rfl rfl | refine yx ?_ | (refine yy ?_ ?_ <;> intro _) | exact zD | exact zL)
theorem subR (a b : List D) : subD (.sl a) 0 (.sl b) = .sl b := by rfl
theorem compactR0_ev (fn : FuncId) : Ev E 65 [.sl [], .imm (.func (.func fn) #[] #[])] (.d (.sl [])) := by
 have g : decide ((0 : Int) < 2) = true := rfl
 refine ye2 func65 ntmps65 fun _ _ _=>?_
 repeat' (first | refine yz ?_ | refine yx ?_ | (refine yy ?_ ?_ <;> intro _) | exact zD | exact zL)
set_option maxHeartbeats 2000000 in
theorem compactR_evS (l : List (List Int)) (hm : l.length ≤ 1152921504606846976) :
  EvS E 65 [.own 0, .d (.imm (.func (.func 66) #[] #[]))] [.row 46 1 (l.map rowD)] (.d (.sl ((uniF lexZ l).map rowD))) [.dead] := by
 have hL : (l.map rowD).length = l.length := by simp
 have hbb := b66
 by_cases hs : l.length < 2
 ·have g0 := yT (((l.map rowD).length : Int) < 2) (by omega)
  rw [uniF_short hs]
  refine yd func65 ntmps65 fun _ _ _ _=>?_
  repeat' (first | refine yz ?_ | refine yx ?_ | (refine yy ?_ ?_ <;> intro _) | exact zD | exact zL)
  refine go_frz 0 rfl ?_
  repeat' (first | refine yz ?_ | refine yr [0] ?_ | refine yt [0] ?_ | refine yx ?_ | (refine yy ?_ ?_ <;> intro _) | exact zD | exact zL)
 ·have g0 := yF (((l.map rowD).length : Int) < 2) (by omega)
  refine yd func65 ntmps65 fun _ _ _ _=>?_
  repeat' (first | refine yz ?_ | refine yx ?_ | (refine yy ?_ ?_ <;> intro _) | exact zD | exact zL)
  refine go_loop_ (α := CpT lexZ l) (fun p => ⟨[(0, .own 0), (1, .d (.imm (.func (.func 66) #[] #[]))), (5, .d (.int p.k))], [.row 46 1 (l.map rowD)]⟩) (fun p => l.length - p.k) (CpT.start (by omega)) (zle 1) ?_
  rintro p
  have h1 := p.h1
  have hk := p.hk
  obtain ⟨k, hkp⟩ : ∃ k, p.k = k := ⟨_, rfl⟩
  rw [hkp] at h1 hk
  rw [hkp]
  rcases Nat.lt_or_ge k l.length with hlt | hge
  ·have g1 := yT ((k : Int) < ((l.map rowD).length : Int)) (by omega)
   have x1 := row_get (en := rowD) (l := l) (i := (k : Int)) (p := k) hlt rfl
   have x2 := row_get (en := rowD) (l := l) (i := (k : Int) - 1) (p := k - 1) (by omega) (by omega)
   have q := equalL_ev (atS l k) (atS l (k - 1))
   cases hc : lexZ (atS l (k - 1)) (atS l k) == 0 with
   | false =>
    rw [hc] at q
    repeat' (first | refine yl x1 ?_ | refine yl x2 ?_ | refine yz ?_ | refine yp hbb q ?_ | refine yx ?_ | (refine yy ?_ ?_ <;> intro _) | exact zD | exact zL)
    refine go_stop ?_
    refine ⟨p.next (by rw [hkp]; exact hlt) (by rw [hkp]; simpa using hc), by show l.length - (p.k + 1) < l.length - k; omega, ?_⟩
    show Le _ _ ⟨[(0, .own 0), (1, .d (.imm (.func (.func 66) #[] #[]))), (5, .d (.int ((p.k + 1 : Nat) : Int)))], _⟩
    rw [hkp]
    exact (zle 1)
   | true =>
    rw [hc] at q
    have hc0 : lexZ (atS l (k - 1)) (atS l k) = 0 := by simpa using hc
    have e0 : ∃ p0 : CqT lexZ l k, p0.k = k ∧ p0.k2 = 1 ∧ p0.l1 = l := by
     have h3 := CqT.start p (by rw [hkp]; exact hlt) (by rw [hkp]; exact hc0)
     subst hkp
     exact ⟨CqT.start p hlt hc0, rfl, rfl, rfl⟩
    obtain ⟨p0, e1, e2, e3⟩ := e0
    repeat' (first | refine yl x1 ?_ | refine yl x2 ?_ | refine yz ?_ | refine yp hbb q ?_ | refine go_sliceOwn rfl rfl rfl rfl rfl rfl rfl rfl rfl (by constructor <;> first | omega | (simp; omega) | decide) ?_ | refine yx ?_ | (refine yy ?_ ?_ <;> intro _) | exact zD | exact zL)
    refine go_loop_ (α := CqT lexZ l k) (fun p => ⟨[(0, .own 0), (1, .d (.imm (.func (.func 66) #[] #[]))), (5, .d (.int p.k)), (6, .sub 0 k (l.length - k) 1), (7, .d (.int p.k2))], [.row 46 1 (p.l1.map rowD)]⟩) (fun p => l.length - p.k2) p0 (by
     rw [e1, e2, e3, ← hL]
     exact (zle 1)) ?_
    clear e1 e2 e3 p0
    rintro p2
    have hk2 := p2.hk2
    have hb := p2.hb
    have hkk := p2.hkk
    have hl1 := p2.hl
    have ha := p2.ha
    obtain ⟨k2, hk2p⟩ : ∃ k2, p2.k2 = k2 := ⟨_, rfl⟩
    obtain ⟨kk, hkkp⟩ : ∃ kk, p2.k = kk := ⟨_, rfl⟩
    obtain ⟨l1, hl1p⟩ : ∃ l1, p2.l1 = l1 := ⟨_, rfl⟩
    rw [hk2p] at hk2 hb hkk ha
    rw [hkkp] at hkk
    rw [hl1p] at hl1 ha
    rw [hk2p, hkkp, hl1p]
    have hL1 : (l1.map rowD).length = l.length := by simp [hl1]
    rcases Nat.lt_or_ge k2 (l.length - k) with hlt2 | hge2
    ·have g3 := yT ((k2 : Int) < ((l.length - k : Nat) : Int)) (by omega)
     have y1 : (l1.map rowD)[k + (k2 : Int).toNat]? = some (rowD (atS l (k + k2))) := by
      rw [Int.toNat_natCast, List.getElem?_map, atS_get (by omega), ha _ (by omega)]; rfl
     have y2 : (l1.map rowD)[k + ((k2 : Int) - 1).toNat]? = some (rowD (atS l (k + k2 - 1))) := by
      rw [show k + ((k2 : Int) - 1).toNat = k + k2 - 1 by omega, List.getElem?_map, atS_get (by omega), ha _ (by omega)]; rfl
     have y3 := row_get (en := rowD) (l := l1) (i := (kk : Int)) (p := kk) (by omega) rfl
     have q2 := equalL_ev (atS l (k + k2)) (atS l (k + k2 - 1))
     cases hd : lexZ (atS l (k + k2 - 1)) (atS l (k + k2)) == 0 with
     | false =>
      rw [hd] at q2
      have hset : (l1.map rowD).set (kk : Int).toNat (subD (rowD (atS l1 kk)) 0 (rowD (atS l (k + k2)))) = (l1.set kk (atS l (k + k2))).map rowD := by
       rw [subR, Int.toNat_natCast, List.map_set]
      repeat' (first | refine yl y1 ?_ | refine yl y2 ?_ | refine qZ _ rfl rfl rfl rfl rfl rfl y3 rfl rfl rfl ?_ | refine yz ?_ | refine yp hbb q2 ?_ | refine go_indexSub rfl rfl rfl rfl rfl rfl rfl (by constructor <;> first | omega | (simp; omega) | decide) ?_ | (refine qS rfl ?_ ?_; (rw [hL1]; omega)) | refine yx ?_ | (refine yy ?_ ?_ <;> intro _) | exact zD | exact zL)
      refine go_stop ?_
      refine ⟨p2.keep (by rw [hk2p]; omega) (by rw [hk2p]; simpa using hd), by show l.length - (p2.k2 + 1) < l.length - k2; omega, ?_⟩
      show Le _ ⟨_, [.row 46 1 ((l1.map rowD).set (kk : Int).toNat (subD (rowD (atS l1 kk)) 0 (rowD (atS l (k + k2)))))]⟩ ⟨[(0, .own 0), (1, .d (.imm (.func (.func 66) #[] #[]))), (5, .d (.int ((p2.k + 1 : Nat) : Int))), (6, .sub 0 k (l.length - k) 1), (7, .d (.int ((p2.k2 + 1 : Nat) : Int)))], [.row 46 1 ((p2.l1.set p2.k (atS l (k + p2.k2))).map rowD)]⟩
      rw [hset, hk2p, hkkp, hl1p]
      exact (zle 1)
     | true =>
      rw [hd] at q2
      repeat' (first | refine yl y1 ?_ | refine yl y2 ?_ | refine yz ?_ | refine yp hbb q2 ?_ | refine go_indexSub rfl rfl rfl rfl rfl rfl rfl (by constructor <;> first | omega | (simp; omega) | decide) ?_ | refine yx ?_ | (refine yy ?_ ?_ <;> intro _) | exact zD | exact zL)
      refine go_stop ?_
      refine ⟨p2.drop (by rw [hk2p]; omega) (by rw [hk2p]; simpa using hd), by show l.length - (p2.k2 + 1) < l.length - k2; omega, ?_⟩
      show Le _ _ ⟨[(0, .own 0), (1, .d (.imm (.func (.func 66) #[] #[]))), (5, .d (.int ((p2.k : Nat) : Int))), (6, .sub 0 k (l.length - k) 1), (7, .d (.int ((p2.k2 + 1 : Nat) : Int)))], [.row 46 1 (p2.l1.map rowD)]⟩
      rw [hk2p, hkkp, hl1p]
      exact (zle 1)
    ·have g3 := yF ((k2 : Int) < ((l.length - k : Nat) : Int)) (by omega)
     have hdone := p2.done (by rw [hk2p]; omega)
     rw [hkkp, hl1p] at hdone
     rw [hdone]
     repeat' (first | refine go_clear rfl rfl rfl rfl rfl rfl rfl rfl rfl (by omega) (go_frzS 0 rfl ?_) | refine yz ?_ | refine go_sliceOwn rfl rfl rfl rfl rfl rfl rfl rfl rfl (by constructor <;> first | omega | (simp; omega) | decide) ?_ | refine yx ?_ | (refine yy ?_ ?_ <;> intro _) | exact zD | exact zL)
     refine qS rfl ?_ ?_
     ·refine ⟨⟨by omega, ?_⟩, ?_⟩
      ·simp only [List.length_append, List.length_take, List.length_map, hl1]
       omega
      ·refine ⟨_, rfl, fun d hd => ?_⟩
       rcases List.mem_append.1 hd with hd | hd
       ·rcases List.mem_append.1 hd with hd | hd
        ·obtain ⟨v, -, rfl⟩ := List.mem_map.1 (List.mem_of_mem_take hd)
         rfl
        ·rw [List.eq_of_mem_replicate hd]; rfl
       ·obtain ⟨v, -, rfl⟩ := List.mem_map.1 (List.mem_of_mem_drop hd)
        rfl
     repeat' (first | refine yz ?_ | refine yr [0] ?_ | refine yt [0] ?_ | refine yx ?_ | (refine yy ?_ ?_ <;> intro _) | exact zD | exact zL)
     refine congrArg D.sl ?_
     rw [Int.toNat_natCast, List.append_assoc, List.take_append_of_le_length (by simp; omega), List.take_take, Nat.min_self, ← List.map_take]
  ·have g1 := yF ((k : Int) < ((l.map rowD).length : Int)) (by omega)
   rw [p.done (by rw [hkp]; exact hge)]
   repeat' (first | refine yz ?_ | refine yx ?_ | (refine yy ?_ ?_ <;> intro _) | exact zD | exact zL)
   refine go_frz 0 rfl ?_
   repeat' (first | refine yz ?_ | refine yr [0] ?_ | refine yt [0] ?_ | refine yx ?_ | (refine yy ?_ ?_ <;> intro _) | exact zD | exact zL)
theorem merZ_nil_r (a : List (List Int)) : merZ a [] = a := by
 induction a with
 | nil => simp [merZ]
 | cons x r ih => rw [merZ, ih]
theorem merZ_nil_l (a : List (List Int)) : merZ [] a = a := by
 induction a with
 | nil => simp [merZ]
 | cons x r ih => rw [merZ, ih]
theorem merZ_cons (x y : List Int) (a b : List (List Int)) : merZ (x :: a) (y :: b) = bif decide (lexZ x y < 0) then x :: merZ a (y :: b) else bif lexZ x y == 0 then x :: merZ a b else y :: merZ (x :: a) b := by
 rw [merZ]
 by_cases h1 : lexZ x y < 0
 ·rw [if_pos h1, decide_eq_true h1]; rfl
 ·rw [if_neg h1, decide_eq_false h1, cond_false]
  by_cases h2 : lexZ x y = 0
  ·rw [if_pos h2, h2]; rfl
  ·rw [if_neg h2, show (lexZ x y == 0) = false by simpa using h2]; rfl
theorem rL_app (a : List (List Int)) (x : List Int) : rL (a ++ [x]) = rL a ++ [.sl (iL x)] := by simp [rL]
structure SMe (a b R : List (List Int)) where
 i : Nat
 k : Nat
 o : List (List Int)
 hi : i ≤ a.length
 hk : k ≤ b.length
 ho : o.length ≤ i + k
 ok : R = o ++ merZ (a.drop i) (b.drop k)
set_option maxHeartbeats 8000000 in
theorem mergeL_ev (a b : List (List Int)) (hn : a.length + b.length ≤ 1000000) : Ev E 79 [.sl (rL a), .sl (rL b)] (.d (.sl (rL (merZ a b)))) := by
 have la := rL_len a
 have lb := rL_len b
 generalize hR : merZ a b = R
 refine ye2 func79 ntmps79 fun _ _ _=>?_
 repeat' (first | refine yz ?_ | refine yx ?_ | (refine yy ?_ ?_ <;> intro _) | exact zD | exact zL)
 refine go_loop_ (α := SMe a b R) (fun p => ⟨[(5, rowK 0 (rL p.o)), (0, .d (.sl (rL a))), (1, .d (.sl (rL b))), (6, .d (.int p.i)), (7, .d (.int p.k))], rowO 46 1 (rL p.o)⟩) (fun p => a.length - p.i + (b.length - p.k)) ⟨0, 0, [], by omega, by omega, by simp, by rw [← hR]; rfl⟩ (zle 0) ?_
 rintro ⟨i, k, o, hi, hk, ho, ok⟩
 dsimp only
 have happ := rL_app o
 have hol : (rL o).length ≤ 1000000 := by rw [rL_len]; omega
 rcases Nat.lt_or_ge i a.length with hlt | hge
 ·have g1 : decide ((i : Int) < ((rL a).length : Int)) = true := by rw [la]; simpa using hlt
  have g2 : ((i : Int) == ((rL a).length : Int)) = false := by rw [la]; simp; omega
  have hx0 := List.getElem?_eq_getElem hlt
  generalize a[i] = x at hx0
  have hx := rL_get hx0
  have happx := happ x
  rcases Nat.lt_or_ge k b.length with hlb | hgb
  ·have g3 : decide ((k : Int) < ((rL b).length : Int)) = true := by rw [lb]; simpa using hlb
   have hy0 := List.getElem?_eq_getElem hlb
   generalize b[k] = y at hy0
   have hy := rL_get hy0
   have happy := happ y
   have hc := rcmpL_ev x y
   have m1 := drop_at hx0
   have m2 := drop_at hy0
   rw [m1, m2, merZ_cons, ← m2, ← m1] at ok
   generalize lexZ x y = z at *
   generalize hq : rL o = oo at *
   rcases Int.lt_trichotomy z 0 with hz | hz | hz
   ·have c1 : decide (z ≤ 0) = true := by simp; omega
    have c2 : decide (z ≥ 0) = false := by simp; omega
    rw [decide_eq_true hz, cond_true] at ok
    match oo, hol with
    | [], hol =>
     dsimp only [rowK, rowO]
     repeat' (first | refine yz ?_ | refine qI (.sl (iL x)) rfl (guardX_ok rfl) rfl rfl rfl rfl rfl rfl (by first | omega | decide) hx ?_ | refine qI (.sl (iL y)) rfl (guardX_ok rfl) rfl rfl rfl rfl rfl rfl (by first | omega | decide) hy ?_ | refine yp b117 hc ?_ | (refine qS rfl ⟨by simp, fun d hd => by (obtain rfl := List.mem_singleton.1 hd; rfl), by (show (0 + 1) * 24 ≤ 140737488355328; omega), by (show 0 + 1 ≤ 9223372036854775807; omega)⟩ ?_) | refine yx ?_ | (refine yy ?_ ?_ <;> intro _) | exact zD | exact zL)
     refine go_stop ?_
     refine ⟨⟨i + 1, k + 0, o ++ [x], by omega, by omega, by (rw [List.length_append, List.length_singleton]; omega), by rw [ok]; simp⟩, by dsimp only; omega, ?_⟩
     dsimp only
     rw [happx]
     exact (zren [0])
    | o0 :: or, hol =>
     dsimp only [rowK, rowO]
     repeat' (first | refine yz ?_ | refine qI (.sl (iL x)) rfl (guardX_ok rfl) rfl rfl rfl rfl rfl rfl (by first | omega | decide) hx ?_ | refine qI (.sl (iL y)) rfl (guardX_ok rfl) rfl rfl rfl rfl rfl rfl (by first | omega | decide) hy ?_ | refine yp b117 hc ?_ | (refine qS rfl ⟨by simp, fun d hd => by (obtain rfl := List.mem_singleton.1 hd; rfl), by (show ((o0 :: or : List D).length + 1) * 24 ≤ 140737488355328; omega), by (show (o0 :: or : List D).length + 1 ≤ 9223372036854775807; omega)⟩ ?_) | refine yx ?_ | (refine yy ?_ ?_ <;> intro _) | exact zD | exact zL)
     refine go_stop ?_
     refine ⟨⟨i + 1, k + 0, o ++ [x], by omega, by omega, by (rw [List.length_append, List.length_singleton]; omega), by rw [ok]; simp⟩, by dsimp only; omega, ?_⟩
     dsimp only
     rw [happx]
     exact (zren [1])
   ·have c1 : decide (z ≤ 0) = true := by simp; omega
    have c2 : decide (z ≥ 0) = true := by simp; omega
    rw [decide_eq_false (by omega), hz] at ok
    match oo, hol with
    | [], hol =>
     dsimp only [rowK, rowO]
     repeat' (first | refine yz ?_ | refine qI (.sl (iL x)) rfl (guardX_ok rfl) rfl rfl rfl rfl rfl rfl (by first | omega | decide) hx ?_ | refine qI (.sl (iL y)) rfl (guardX_ok rfl) rfl rfl rfl rfl rfl rfl (by first | omega | decide) hy ?_ | refine yp b117 hc ?_ | (refine qS rfl ⟨by simp, fun d hd => by (obtain rfl := List.mem_singleton.1 hd; rfl), by (show (0 + 1) * 24 ≤ 140737488355328; omega), by (show 0 + 1 ≤ 9223372036854775807; omega)⟩ ?_) | refine yx ?_ | (refine yy ?_ ?_ <;> intro _) | exact zD | exact zL)
     refine go_stop ?_
     refine ⟨⟨i + 1, k + 1, o ++ [x], by omega, by omega, by (rw [List.length_append, List.length_singleton]; omega), by rw [ok]; simp⟩, by dsimp only; omega, ?_⟩
     dsimp only
     rw [happx]
     exact (zren [0])
    | o0 :: or, hol =>
     dsimp only [rowK, rowO]
     repeat' (first | refine yz ?_ | refine qI (.sl (iL x)) rfl (guardX_ok rfl) rfl rfl rfl rfl rfl rfl (by first | omega | decide) hx ?_ | refine qI (.sl (iL y)) rfl (guardX_ok rfl) rfl rfl rfl rfl rfl rfl (by first | omega | decide) hy ?_ | refine yp b117 hc ?_ | (refine qS rfl ⟨by simp, fun d hd => by (obtain rfl := List.mem_singleton.1 hd; rfl), by (show ((o0 :: or : List D).length + 1) * 24 ≤ 140737488355328; omega), by (show (o0 :: or : List D).length + 1 ≤ 9223372036854775807; omega)⟩ ?_) | refine yx ?_ | (refine yy ?_ ?_ <;> intro _) | exact zD | exact zL)
     refine go_stop ?_
     refine ⟨⟨i + 1, k + 1, o ++ [x], by omega, by omega, by (rw [List.length_append, List.length_singleton]; omega), by rw [ok]; simp⟩, by dsimp only; omega, ?_⟩
     dsimp only
     rw [happx]
     exact (zren [1])
   ·have c1 : decide (z ≤ 0) = false := by simp; omega
    have c2 : decide (z ≥ 0) = true := by simp; omega
    rw [decide_eq_false (by omega), show (z == 0) = false by simp; omega] at ok
    match oo, hol with
    | [], hol =>
     dsimp only [rowK, rowO]
     repeat' (first | refine yz ?_ | refine qI (.sl (iL x)) rfl (guardX_ok rfl) rfl rfl rfl rfl rfl rfl (by first | omega | decide) hx ?_ | refine qI (.sl (iL y)) rfl (guardX_ok rfl) rfl rfl rfl rfl rfl rfl (by first | omega | decide) hy ?_ | refine yp b117 hc ?_ | (refine qS rfl ⟨by simp, fun d hd => by (obtain rfl := List.mem_singleton.1 hd; rfl), by (show (0 + 1) * 24 ≤ 140737488355328; omega), by (show 0 + 1 ≤ 9223372036854775807; omega)⟩ ?_) | refine yx ?_ | (refine yy ?_ ?_ <;> intro _) | exact zD | exact zL)
     refine go_stop ?_
     refine ⟨⟨i + 0, k + 1, o ++ [y], by omega, by omega, by (rw [List.length_append, List.length_singleton]; omega), by rw [ok]; simp⟩, by dsimp only; omega, ?_⟩
     dsimp only
     rw [happy]
     exact (zren [0])
    | o0 :: or, hol =>
     dsimp only [rowK, rowO]
     repeat' (first | refine yz ?_ | refine qI (.sl (iL x)) rfl (guardX_ok rfl) rfl rfl rfl rfl rfl rfl (by first | omega | decide) hx ?_ | refine qI (.sl (iL y)) rfl (guardX_ok rfl) rfl rfl rfl rfl rfl rfl (by first | omega | decide) hy ?_ | refine yp b117 hc ?_ | (refine qS rfl ⟨by simp, fun d hd => by (obtain rfl := List.mem_singleton.1 hd; rfl), by (show ((o0 :: or : List D).length + 1) * 24 ≤ 140737488355328; omega), by (show (o0 :: or : List D).length + 1 ≤ 9223372036854775807; omega)⟩ ?_) | refine yx ?_ | (refine yy ?_ ?_ <;> intro _) | exact zD | exact zL)
     refine go_stop ?_
     refine ⟨⟨i + 0, k + 1, o ++ [y], by omega, by omega, by (rw [List.length_append, List.length_singleton]; omega), by rw [ok]; simp⟩, by dsimp only; omega, ?_⟩
     dsimp only
     rw [happy]
     exact (zren [1])
  ·have g3 : decide ((k : Int) < ((rL b).length : Int)) = false := by rw [lb]; simp; omega
   have m1 := drop_at hx0
   have m2 := List.drop_eq_nil_of_le hgb
   rw [m1, m2, merZ_nil_r] at ok
   have ok2 : R = o ++ [x] ++ merZ (a.drop (i + 1)) (b.drop k) := by rw [ok, m2, merZ_nil_r]; simp
   generalize hq : rL o = oo at *
   match oo, hol with
   | [], hol =>
    dsimp only [rowK, rowO]
    repeat' (first | refine yz ?_ | refine qI (.sl (iL x)) rfl (guardX_ok rfl) rfl rfl rfl rfl rfl rfl (by first | omega | decide) hx ?_ | (refine qS rfl ⟨by simp, fun d hd => by (obtain rfl := List.mem_singleton.1 hd; rfl), by (show (0 + 1) * 24 ≤ 140737488355328; omega), by (show 0 + 1 ≤ 9223372036854775807; omega)⟩ ?_) | refine yx ?_ | (refine yy ?_ ?_ <;> intro _) | exact zD | exact zL)
    refine go_stop ?_
    refine ⟨⟨i + 1, k + 0, o ++ [x], by omega, by omega, by (rw [List.length_append, List.length_singleton]; omega), ok2⟩, by dsimp only; omega, ?_⟩
    dsimp only
    rw [happx]
    exact (zren [0])
   | o0 :: or, hol =>
    dsimp only [rowK, rowO]
    repeat' (first | refine yz ?_ | refine qI (.sl (iL x)) rfl (guardX_ok rfl) rfl rfl rfl rfl rfl rfl (by first | omega | decide) hx ?_ | (refine qS rfl ⟨by simp, fun d hd => by (obtain rfl := List.mem_singleton.1 hd; rfl), by (show ((o0 :: or : List D).length + 1) * 24 ≤ 140737488355328; omega), by (show (o0 :: or : List D).length + 1 ≤ 9223372036854775807; omega)⟩ ?_) | refine yx ?_ | (refine yy ?_ ?_ <;> intro _) | exact zD | exact zL)
    refine go_stop ?_
    refine ⟨⟨i + 1, k + 0, o ++ [x], by omega, by omega, by (rw [List.length_append, List.length_singleton]; omega), ok2⟩, by dsimp only; omega, ?_⟩
    dsimp only
    rw [happx]
    exact (zren [1])
 ·have g1 : decide ((i : Int) < ((rL a).length : Int)) = false := by rw [la]; simp; omega
  have g2 : ((i : Int) == ((rL a).length : Int)) = true := by rw [la]; simp; omega
  have m1 := List.drop_eq_nil_of_le hge
  rcases Nat.lt_or_ge k b.length with hlb | hgb
  ·have g3 : decide ((k : Int) < ((rL b).length : Int)) = true := by rw [lb]; simpa using hlb
   have hy0 := List.getElem?_eq_getElem hlb
   generalize b[k] = y at hy0
   have hy := rL_get hy0
   have happy := happ y
   have m2 := drop_at hy0
   rw [m1, m2, merZ_nil_l] at ok
   have ok2 : R = o ++ [y] ++ merZ (a.drop i) (b.drop (k + 1)) := by rw [ok, m1, merZ_nil_l]; simp
   generalize hq : rL o = oo at *
   match oo, hol with
   | [], hol =>
    dsimp only [rowK, rowO]
    repeat' (first | refine yz ?_ | refine qI (.sl (iL y)) rfl (guardX_ok rfl) rfl rfl rfl rfl rfl rfl (by first | omega | decide) hy ?_ | (refine qS rfl ⟨by simp, fun d hd => by (obtain rfl := List.mem_singleton.1 hd; rfl), by (show (0 + 1) * 24 ≤ 140737488355328; omega), by (show 0 + 1 ≤ 9223372036854775807; omega)⟩ ?_) | refine yx ?_ | (refine yy ?_ ?_ <;> intro _) | exact zD | exact zL)
    refine go_stop ?_
    refine ⟨⟨i + 0, k + 1, o ++ [y], by omega, by omega, by (rw [List.length_append, List.length_singleton]; omega), ok2⟩, by dsimp only; omega, ?_⟩
    dsimp only
    rw [happy]
    exact (zren [0])
   | o0 :: or, hol =>
    dsimp only [rowK, rowO]
    repeat' (first | refine yz ?_ | refine qI (.sl (iL y)) rfl (guardX_ok rfl) rfl rfl rfl rfl rfl rfl (by first | omega | decide) hy ?_ | (refine qS rfl ⟨by simp, fun d hd => by (obtain rfl := List.mem_singleton.1 hd; rfl), by (show ((o0 :: or : List D).length + 1) * 24 ≤ 140737488355328; omega), by (show (o0 :: or : List D).length + 1 ≤ 9223372036854775807; omega)⟩ ?_) | refine yx ?_ | (refine yy ?_ ?_ <;> intro _) | exact zD | exact zL)
    refine go_stop ?_
    refine ⟨⟨i + 0, k + 1, o ++ [y], by omega, by omega, by (rw [List.length_append, List.length_singleton]; omega), ok2⟩, by dsimp only; omega, ?_⟩
    dsimp only
    rw [happy]
    exact (zren [1])
  ·have g3 : decide ((k : Int) < ((rL b).length : Int)) = false := by rw [lb]; simp; omega
   have m2 := List.drop_eq_nil_of_le hgb
   rw [m1, m2] at ok
   have hRo : R = o := by rw [ok, merZ_nil_l]; simp
   rw [hRo]
   generalize rL o = oo at *
   match oo with
   | [] =>
    dsimp only [rowK, rowO]
    repeat' (first | refine yz ?_ | refine yx ?_ | (refine yy ?_ ?_ <;> intro _) | exact zD | exact zL)
   | y :: q =>
    dsimp only [rowK, rowO]
    refine go_frz 0 rfl ?_
    repeat' (first | refine yz ?_ | refine yx ?_ | (refine yy ?_ ?_ <;> intro _) | exact zD | exact zL)
set_option maxHeartbeats 8000000 in
theorem sortedL_ev : ∀ (n : Nat) (l : List (List Int)), l.length ≤ n → l.length ≤ 500000 → (∀ r ∈ l, r.length ≤ 1000000) → Ev E 28 [.sl (rL l)] (.d (.sl (rL (sorZ l)))) := by
 intro n
 induction n with
 | zero =>
  intro l h _ _
  obtain rfl : l = [] := List.eq_nil_of_length_eq_zero (by omega)
  rw [sorZ_short (by simp)]
  refine ye1 func28 ntmps28 fun _ _ _=>?_
  repeat' (first | refine yz ?_ | refine yx ?_ | (refine yy ?_ ?_ <;> intro _) | exact zD | exact zL)
  refine go_loop_ (α := Unit) (fun _ => ⟨[(0, .d (.sl (rL []))), (3, .nilS), (4, .d (.int 0))], []⟩) (fun _ => 0) () (zle 0) ?_
  rintro -
  have g1 : decide ((0 : Int) < (((rL []).length : Nat) : Int)) = false := rfl
  repeat' (first | refine yz ?_ | refine yx ?_ | (refine yy ?_ ?_ <;> intro _) | exact zD | exact zL)
 | succ n ih =>
  intro l h hN hrl
  have la := rL_len l
  by_cases h1 : l.length ≤ 1
  ·rw [sorZ_short h1]
   have g0 : decide (((rL l).length : Int) ≤ 1) = true := by rw [la]; simp; omega
   match l, h1 with
   | [], _ =>
    refine ye1 func28 ntmps28 fun _ _ _=>?_
    repeat' (first | refine yz ?_ | refine yx ?_ | (refine yy ?_ ?_ <;> intro _) | exact zD | exact zL)
    refine go_loop_ (α := Unit) (fun _ => ⟨[(0, .d (.sl (rL []))), (3, .nilS), (4, .d (.int 0))], []⟩) (fun _ => 0) () (zle 0) ?_
    rintro -
    have g1 : decide ((0 : Int) < (((rL []).length : Nat) : Int)) = false := rfl
    repeat' (first | refine yz ?_ | refine yx ?_ | (refine yy ?_ ?_ <;> intro _) | exact zD | exact zL)
   | [x], _ =>
    have hx : (rL [x])[((0 : Nat) : Int).toNat]? = some (.sl (iL x)) := rfl
    have g1 : decide ((((0 : Nat) : Int)) < (((rL [x]).length : Nat) : Int)) = true := rfl
    have g2 : decide ((((1 : Nat) : Int)) < (((rL [x]).length : Nat) : Int)) = false := rfl
    refine ye1 func28 ntmps28 fun _ _ _=>?_
    repeat' (first | refine yz ?_ | refine yx ?_ | (refine yy ?_ ?_ <;> intro _) | exact zD | exact zL)
    refine go_loop_ (α := Fin 2) (fun p => ⟨[(3, rowK 0 ((rL [x]).take p.val)), (0, .d (.sl (rL [x]))), (4, .d (.int (p.val : Nat)))], rowO 46 1 ((rL [x]).take p.val)⟩) (fun p => 1 - p.val) ⟨0, by omega⟩ (zle 0) ?_
    rintro ⟨i, hi⟩
    match i, hi with
    | 0, _ =>
     dsimp only [rowK, rowO, rL, List.map, List.take]
     by_cases hx0 : x = []
     ·subst hx0
      have hx0 : iL ([] : List Int) = [] := rfl
      repeat' (first | refine go_buildOwn rfl rfl rfl rfl rfl rfl rfl (by decide) (by decide) ?_ | (refine go_append0o rfl rfl rfl rfl rfl rfl rfl rfl rfl ?_) | refine yz ?_ | refine qI (.sl (iL [])) rfl (guardX_ok rfl) rfl rfl rfl rfl rfl rfl (by first | omega | decide) hx ?_ | refine yx ?_ | (refine yy ?_ ?_ <;> intro _) | exact zD | exact zL)
      refine go_frzS 0 rfl ?_
      repeat' (first | refine yz ?_ | (refine qS rfl ⟨by simp, fun d hd => by (obtain rfl := List.mem_singleton.1 hd; rfl), by (show (0 + 1) * 24 ≤ 140737488355328; omega), by (show 0 + 1 ≤ 9223372036854775807; omega)⟩ ?_) | refine yx ?_ | (refine yy ?_ ?_ <;> intro _) | exact zD | exact zL)
      refine go_stop ?_
      exact ⟨⟨1, by omega⟩, by show 1 - 1 < 1 - 0; omega, (zren [1])⟩
     ·have hne : iL x ≠ [] := fun h => hx0 ((iL_nil x).1 h)
      have hxl : (iL x).length ≤ 1000000 := by rw [iL_len]; exact hrl x (by simp)
      have hq0 : ([] : List D).length = 0 := rfl
      repeat' (first | refine go_buildOwn rfl rfl rfl rfl rfl rfl rfl (by decide) (by decide) ?_ | (refine qS rfl ⟨hne, iL_cells _, by (show (([] : List D).length + (iL x).length) * 8 ≤ 140737488355328; omega), by (show ([] : List D).length + (iL x).length ≤ 9223372036854775807; omega)⟩ ?_) | refine yz ?_ | refine qI (.sl (iL x)) rfl (guardX_ok rfl) rfl rfl rfl rfl rfl rfl (by first | omega | decide) hx ?_ | refine yx ?_ | (refine yy ?_ ?_ <;> intro _) | exact zD | exact zL)
      refine go_frzS 1 rfl ?_
      repeat' (first | refine yz ?_ | (refine qS rfl ⟨by simp, fun d hd => by (obtain rfl := List.mem_singleton.1 hd; rfl), by (show (0 + 1) * 24 ≤ 140737488355328; omega), by (show 0 + 1 ≤ 9223372036854775807; omega)⟩ ?_) | refine yx ?_ | (refine yy ?_ ?_ <;> intro _) | exact zD | exact zL)
      refine go_stop ?_
      exact ⟨⟨1, by omega⟩, by show 1 - 1 < 1 - 0; omega, (zren [2])⟩
    | 1, _ =>
     dsimp only [rowK, rowO, rL, List.map, List.take]
     refine go_frz 0 rfl ?_
     repeat' (first | refine yz ?_ | refine yx ?_ | (refine yy ?_ ?_ <;> intro _) | exact zD | exact zL)
  ·have g0 : decide (((rL l).length : Int) ≤ 1) = false := by rw [la]; simp; omega
   rw [sorZ_long h1]
   generalize hm : l.length / 2 = m
   have k1 : (l.take m).length + (l.drop m).length = l.length := by simp; omega
   have i1 := ih (l.take m) (by simp; omega) (by simp; omega) fun r hr => hrl r (List.mem_of_mem_take hr)
   have i2 := ih (l.drop m) (by simp; omega) (by simp; omega) fun r hr => hrl r (List.mem_of_mem_drop hr)
   have c1 := sorZ_len _ (l.take m) (Nat.le_refl _)
   have c2 := sorZ_len _ (l.drop m) (Nat.le_refl _)
   have hM := mergeL_ev (sorZ (l.take m)) (sorZ (l.drop m)) (by omega)
   have hq : ((rL l).length : Int).tdiv 2 = (m : Int) := by rw [la, ← hm, Int.tdiv_eq_ediv_of_nonneg (by omega)]; rfl
   have hq2 : (((rL l).length : Int).tdiv 2).toNat = m := by rw [hq]; rfl
   have e1 : rL (l.take m) = (rL l).take m := by simp [rL, List.map_take]
   have e2 : rL (l.drop m) = (rL l).drop m := by simp [rL, List.map_drop]
   have hml : m ≤ (rL l).length := by rw [la, ← hm]; omega
   have hcl : ∀ d ∈ rL l, d.cells.length = 1 := fun d hd => by
    obtain ⟨u, -, rfl⟩ := List.mem_map.1 hd
    rfl
   generalize rL (merZ (sorZ (l.take m)) (sorZ (l.drop m))) = M at *
   generalize rL (sorZ (l.take m)) = A at *
   generalize rL (sorZ (l.drop m)) = B at *
   rw [e1, ← hq2] at i1
   rw [e2, ← hq2] at i2
   generalize rL l = L at *
   refine ye1 func28 ntmps28 fun _ _ _=>?_
   repeat' (first | refine yz ?_ | (refine qS rfl ⟨⟨by omega, by omega⟩, ⟨_, rfl, fun d hd => hcl d hd⟩⟩ ?_) | refine yp b28 i1 ?_ | refine yp b28 i2 ?_ | refine yp b79 hM ?_ | refine yx ?_ | (refine yy ?_ ?_ <;> intro _) | exact zD | exact zL)
end Go.Proofs.YtenpjlghikohmaaGreatDoor
namespace Go.Proofs.YtenpjlghikohmaaGreatDoor
set_option maxRecDepth 4000
open Go Go.Abs Go.Val Go.RowKit Go.Sort Go.Proofs Go.Proofs.Tryz
attribute [local go_sem] Oper.semAt_some
theorem lexZ_take {xs ys : List Int} {k : Nat} (h : ∀ j, j < k → xs[j]! = ys[j]!) (hx : k ≤ xs.length) (hy : k ≤ ys.length) : lexZ xs ys = lexZ (xs.drop k) (ys.drop k) := by
 have e : xs.take k = ys.take k := by
  refine List.ext_getElem? fun j => ?_
  rcases Nat.lt_or_ge j k with hj | hj
  ·have := h j hj
   rw [List.getElem?_take_of_lt hj, List.getElem?_take_of_lt hj, List.getElem?_eq_getElem (by omega), List.getElem?_eq_getElem (by omega)]
   rw [getElem!_pos xs j (by omega), getElem!_pos ys j (by omega)] at this
   rw [this]
  ·rw [List.getElem?_eq_none (by rw [List.length_take]; omega), List.getElem?_eq_none (by rw [List.length_take]; omega)]
 conv => lhs; rw [← List.take_append_drop k xs, ← List.take_append_drop k ys, e]
 induction ys.take k with
 | nil => rfl
 | cons x r ih => rw [List.cons_append, List.cons_append, lexZ_eq, ih]
theorem lexZ_at {xs ys : List Int} {k : Nat} (h : ∀ j, j < k → xs[j]! = ys[j]!) (hx : k < xs.length) (hy : k < ys.length) (hc : Lib.compareInt xs[k]! ys[k]! ≠ 0) : lexZ xs ys = Lib.compareInt xs[k]! ys[k]! := by
 rw [lexZ_take h (by omega) (by omega), List.drop_eq_getElem_cons hx, List.drop_eq_getElem_cons hy]
 rw [getElem!_pos xs k hx, getElem!_pos ys k hy] at *
 unfold Lib.compareInt at *
 rcases Int.lt_trichotomy xs[k] ys[k] with g | g | g
 ·rw [lexZ_lt g, if_pos g]
 ·rw [g] at hc; simp at hc
 ·rw [lexZ_gt g, if_neg (by omega), if_pos g]
theorem lexZ_nil_r {xs : List Int} (h : xs ≠ []) : lexZ xs [] = 1 := by
 cases xs with
 | nil => exact absurd rfl h
 | cons => rfl
set_option maxRecDepth 100000 in
set_option maxHeartbeats 4000000 in
theorem compare_calls (b1 o1 c b2 o2 d : Nat) (xs ys : List Int) (w : World) (hbig1 : xs.length ≤ 9223372036854775807) (hbig2 : ys.length ≤ 9223372036854775807)
  (hc1 : ∀ j, j < xs.length → w.cell? ⟨b1, o1 + j, none⟩ = some (.int .i64 xs[j]!)) (hc2 : ∀ j, j < ys.length → w.cell? ⟨b2, o2 + j, none⟩ = some (.int .i64 ys[j]!)) :
  Calls Tryz.prog 64 #[.slice (some ⟨b1, o1, none⟩) xs.length c, .slice (some ⟨b2, o2, none⟩) ys.length d] w fun e w' => e = .returned (.int .i64 (lexZ xs ys)) ∧ ∃ q, w' = w.drewN q := by
 go_enter func64, ntmps64
 go_wp2
 go_loopg [11] xs.length (fun g s11 wr => ∃ k q : Nat, k ≤ xs.length ∧ xs.length - k ≤ g ∧ s11 = .int .i64 k ∧ wr = w.drewN q ∧ k ≤ ys.length ∧ Aside (∀ j, j < k → xs[j]! = ys[j]!))
 case atStart => exact ⟨0, 0, Nat.zero_le _, by omega, rfl, rfl, Nat.zero_le _, fun j hj => absurd hj (Nat.not_lt_zero _)⟩
 case round =>
  obtain ⟨k, q, hk, hg, rfl, rfl, hky, A⟩ := hrel
  by_cases hlt : k < xs.length
  ·have g1 : w.cell? ⟨b1, o1 + k, none⟩ = some (.int .i64 xs[k]!) := hc1 k hlt
   by_cases hly : k < ys.length
   ·have g2 : w.cell? ⟨b2, o2 + k, none⟩ = some (.int .i64 ys[k]!) := hc2 k hly
    have hat := fun hc => lexZ_at A.out hlt hly hc
    clear hc1 hc2
    generalize hxk : xs[k]! = x at g1 hat
    generalize hyk : ys[k]! = y at g2 hat
    have B : Aside (xs[k]! = x ∧ ys[k]! = y) := ⟨hxk, hyk⟩
    clear hxk hyk
    have hz : Lib.compareInt x y = 0 → x = y := fun h => by
     unfold Lib.compareInt at h
     rcases Int.lt_trichotomy x y with g | g | g
     ·rw [if_pos g] at h; simp at h
     ·exact g
     ·rw [if_neg (by omega), if_pos g] at h; simp at h
    have hcon := fun W => Tryz.cmp_Compare_int x y W
    generalize hR : Lib.compareInt x y = R at hcon hat hz
    by_cases hR0 : R = 0
    ·subst hR0
     have hxy : Aside (x = y) := hz rfl
     clear hat hz
     go_wp2_with (go_at_call 52; refine (hcon _).mono ?_; rintro e w' ⟨rfl, rfl⟩)
     go_roundg (xs.length - (k + 1))
     case measure => omega
     case rel =>
      refine ⟨k + 1, q, by omega, by omega, by go_num, rfl, by omega, (show Aside _ from fun j hj => ?_)⟩
      by_cases e : j = k
      ·subst e
       rw [B.out.1, B.out.2]; exact hxy.out
      ·exact A.out j (by omega)
    ·have hat : Aside (lexZ xs ys = R) := hat hR0
     clear hz
     go_wp2_with (go_at_call 52; refine (hcon _).mono ?_; rintro e w' ⟨rfl, rfl⟩)
     go_ret
     refine ⟨?_, q, rfl⟩
     rw [hat.out]
     rfl
   ·have hlx : lexZ xs ys = 1 := by
     rw [lexZ_take A.out hk hky, List.drop_eq_nil_of_le (by omega : ys.length ≤ k)]
     exact lexZ_nil_r (by rw [ne_eq, List.drop_eq_nil_iff]; omega)
    clear hc1 hc2
    go_wp2
    go_ret
    refine ⟨?_, q, rfl⟩
    rw [hlx]
    rfl
  ·have hk2 : k = xs.length := by omega
   have hlx : lexZ xs ys = if xs.length < ys.length then -1 else 0 := by
    rw [lexZ_take A.out hk hky, List.drop_eq_nil_of_le (by omega : xs.length ≤ k)]
    by_cases h : xs.length < ys.length
    ·rw [if_pos h]
     cases hd : ys.drop k with
     | nil => rw [List.drop_eq_nil_iff] at hd; omega
     | cons => rfl
    ·rw [if_neg h, List.drop_eq_nil_of_le (by omega)]; rfl
   clear hc1 hc2
   by_cases h : xs.length < ys.length
   ·go_wp2
    go_ret
    refine ⟨?_, q, rfl⟩
    rw [hlx, if_pos h]
    rfl
   ·go_wp2
    go_ret
    refine ⟨?_, q, rfl⟩
    rw [hlx, if_neg h]
    rfl
set_option maxRecDepth 100000 in
set_option maxHeartbeats 4000000 in
theorem compare_calls0 (p1 p2 : Option Addr) (c d : Nat) (ys : List Int) (w : World) (hbig2 : ys.length ≤ 9223372036854775807) :
  Calls Tryz.prog 64 #[.slice p1 0 c, .slice p2 ys.length d] w fun e w' => e = .returned (.int .i64 (lexZ [] ys)) ∧ ∃ q, w' = w.drewN q := by
 have hlx : lexZ [] ys = if 0 < ys.length then -1 else 0 := by cases ys <;> rfl
 go_enter func64, ntmps64
 go_wp2
 refine wp_loop_rounds 1 ?_
 rw [rounds_succ]
 by_cases h : 0 < ys.length
 ·go_wp2
  go_ret
  refine ⟨?_, 0, rfl⟩
  rw [hlx, if_pos h]
  rfl
 ·go_wp2
  go_ret
  refine ⟨?_, 0, rfl⟩
  rw [hlx, if_neg h]
  rfl
set_option maxRecDepth 100000 in
set_option maxHeartbeats 4000000 in
theorem compare_calls1 (b1 o1 c : Nat) (p2 : Option Addr) (d : Nat) (xs : List Int) (w : World) (hne : xs ≠ []) (hbig1 : xs.length ≤ 9223372036854775807)
  (hc1 : ∀ j, j < xs.length → w.cell? ⟨b1, o1 + j, none⟩ = some (.int .i64 xs[j]!)) :
  Calls Tryz.prog 64 #[.slice (some ⟨b1, o1, none⟩) xs.length c, .slice p2 0 d] w fun e w' => e = .returned (.int .i64 (lexZ xs [])) ∧ ∃ q, w' = w.drewN q := by
 have hpos : 0 < xs.length := List.length_pos_iff.2 hne
 have g1 : w.cell? ⟨b1, o1 + 0, none⟩ = some (.int .i64 xs[0]!) := hc1 0 hpos
 have g2 : w.cell? ⟨b1, o1, none⟩ = some (.int .i64 xs[0]!) := g1
 generalize xs[0]! = x at g1 g2
 clear hc1
 have hlx := lexZ_nil_r hne
 go_enter func64, ntmps64
 go_wp2
 refine wp_loop_rounds 1 ?_
 rw [rounds_succ]
 go_wp2
 go_ret
 refine ⟨?_, 0, rfl⟩
 rw [hlx]
 rfl
theorem compare_rd {w : World} {F : Nat → Prop} {xs ys : List Int} {u v : Value} (hx : Rd w F (.sl (iL xs)) u) (hy : Rd w F (.sl (iL ys)) v) :
  Calls Tryz.prog 64 #[u, v] w fun e w' => e = .returned (.int .i64 (lexZ xs ys)) ∧ ∃ q, w' = w.drewN q := by
 have key : ∀ {zs : List Int} {v : Value}, Rd w F (.sl (iL zs)) v → zs.length ≤ 9223372036854775807 ∧ ((zs = [] ∧ ∃ p c, v = .slice p 0 c) ∨ ∃ b o c, v = .slice (some ⟨b, o, none⟩) zs.length c ∧ zs ≠ [] ∧ ∀ j, j < zs.length → w.cell? ⟨b, o + j, none⟩ = some (.int .i64 zs[j]!)) := by
  intro zs v h
  rcases Rd.sl_inv h with ⟨h0, rfl⟩ | ⟨size, ad, cap, rfl, h1, h2, h3, h4, h5, h6⟩
  ·have : zs = [] := by simpa [iL] using h0
   subst this
   exact ⟨by simp, .inl ⟨rfl, _, _, rfl⟩⟩
  ·have hl : (iL zs).length = zs.length := iL_len zs
   rw [hl] at h1 ⊢
   refine ⟨by unfold maxLen at h2; omega, ?_⟩
   by_cases hne : zs = []
   ·subst hne
    exact .inl ⟨rfl, _, _, rfl⟩
   ·have hlp : 0 < zs.length := List.length_pos_iff.2 hne
    have hsize : size = 1 := by
     have := h4 (.int zs[0]) (by simp [iL])
     exact this.symm
    subst hsize
    have hcell : ∀ j, j < zs.length → w.cell? (ad.add j) = some (.int .i64 zs[j]!) := by
     intro j hj
     obtain ⟨u, q1, q2⟩ := h6 j (.int zs[j]) 0 (.int zs[j]) (by simp [iL, hj]) rfl
     rw [Nat.mul_one, Nat.add_zero] at q1
     rw [q1, (Rd.imm_inv q2).1, getElem!_pos zs j hj]
    have hsp : ad.spot = none := spot_none (by have := hcell 0 hlp; rwa [show ad.add 0 = ad from rfl] at this)
    obtain ⟨ab, ao, asp⟩ := ad
    simp only at hsp
    subst hsp
    exact .inr ⟨ab, ao, cap, rfl, hne, fun j hj => by have := hcell j hj; rwa [add_mk] at this⟩
 obtain ⟨lx, kx⟩ := key hx
 obtain ⟨ly, ky⟩ := key hy
 rcases kx with ⟨rfl, p1, c1, rfl⟩ | ⟨b1, o1, c1, rfl, nx, hc1⟩
 ·rcases ky with ⟨rfl, p2, c2, rfl⟩ | ⟨b2, o2, c2, rfl, ny, hc2⟩
  ·exact compare_calls0 p1 p2 c1 c2 [] w ly
  ·exact compare_calls0 p1 _ c1 c2 ys w ly
 ·rcases ky with ⟨rfl, p2, c2, rfl⟩ | ⟨b2, o2, c2, rfl, ny, hc2⟩
  ·exact compare_calls1 b1 o1 c1 p2 c2 xs w nx lx hc1
  ·exact compare_calls b1 o1 c1 b2 o2 c2 xs ys w lx ly hc1 hc2
def clR (l : List (List Int)) (i : Nat) : Nat := min i (l.length - 1)
def cfR (l : List (List Int)) (i j : Nat) : Int := lexZ (l.getD (clR l i) []) (l.getD (clR l j) [])
theorem swoR (l : List (List Int)) : SWO (ltOf (cfR l)) where
 irrefl x := by unfold ltOf cfR; rw [lexZ_self]; rfl
 trans x y z h1 h2 := by
  unfold ltOf cfR at *
  rw [decide_eq_true_eq] at *
  exact lexZ_slt h1 (by omega)
 ntrans x y z h1 h2 := by
  unfold ltOf cfR at *
  rw [decide_eq_false_iff_not] at *
  have a1 := lexZ_anti (l.getD (clR l x) []) (l.getD (clR l y) [])
  have a2 := lexZ_anti (l.getD (clR l y) []) (l.getD (clR l z) [])
  have a3 := lexZ_anti (l.getD (clR l x) []) (l.getD (clR l z) [])
  have := lexZ_tr (l.getD (clR l z) []) (l.getD (clR l y) []) (l.getD (clR l x) []) (by omega) (by omega)
  omega
def pdR (l : List (List Int)) : Array Nat := pdq (ltOf (cfR l)) (List.range l.length).toArray 0 l.length (Lib.bitLen l.length) true true
def srtR (l : List (List Int)) : List (List Int) := (pdR l).toList.map fun i => l.getD (clR l i) []
theorem range_getD (l : List (List Int)) : (List.range l.length).map (fun i => l.getD (clR l i) []) = l := by
 refine List.ext_getElem? fun i => ?_
 rw [List.getElem?_map]
 rcases Nat.lt_or_ge i l.length with h | h
 ·rw [List.getElem?_range h, Option.map_some, List.getElem?_eq_getElem h]
  rw [show clR l i = i by unfold clR; omega, List.getD_eq_getElem?_getD, List.getElem?_eq_getElem h]
  rfl
 ·rw [List.getElem?_eq_none h, List.getElem?_eq_none (by simpa using h)]
  rfl
theorem pdR_ok (l : List (List Int)) : (pdR l).size = l.length ∧ (pdR l).toList.Perm (List.range l.length) ∧ (srtR l).Perm l ∧ (srtR l).length = l.length ∧ (srtR l).Pairwise fun a b => lexZ a b ≤ 0 := by
 have h := pdq_sorts (ltOf (cfR l)) (swoR l) (List.range l.length).toArray 0 l.length (Lib.bitLen l.length) true true (Nat.zero_le _) (by simp) (Or.inl rfl)
 obtain ⟨⟨h1, -, h3⟩, h4⟩ := h
 have hs : (pdR l).size = l.length := by unfold pdR; rw [h1]; simp
 have hp : (pdR l).toList.Perm (List.range l.length) := by
  have e : ∀ (a : Array Nat), a.size = l.length → (a.extract 0 l.length).toList = a.toList := fun a ha => by simp [← ha]
  rw [e _ (by rw [h1]; simp), e _ (by simp)] at h3
  exact h3
 refine ⟨hs, hp, ?_, by unfold srtR; rw [List.length_map, Array.length_toList, hs], ?_⟩
 ·have := hp.map fun i => l.getD (clR l i) []
  rw [range_getD] at this
  exact this
 ·rw [List.pairwise_iff_getElem]
  intro i j hi hj hij
  have hi' : i < (pdR l).size := by unfold srtR at hi; simpa using hi
  have hj' : j < (pdR l).size := by unfold srtR at hj; simpa using hj
  have := h4 i j (Nat.zero_le _) hij (by omega)
  rw [show pdq (ltOf (cfR l)) (List.range l.length).toArray 0 l.length (Lib.bitLen l.length) true true = pdR l from rfl, getElem!_pos _ i hi', getElem!_pos _ j hj'] at this
  unfold ltOf cfR at this
  rw [decide_eq_false_iff_not] at this
  have a := lexZ_anti (l.getD (clR l (pdR l)[i]) []) (l.getD (clR l (pdR l)[j]) [])
  have e : ∀ k (hk : k < (srtR l).length) (hk' : k < (pdR l).size), (srtR l)[k] = l.getD (clR l (pdR l)[k]) [] := fun k hk hk' => by simp [srtR]
  rw [e i hi hi', e j hj hj']
  omega
theorem sortR_evS (l : List (List Int)) (hne : l ≠ []) (hsz : l.length ≤ 1000000) : EvS E 63 [.own 0, .d (.imm (.func (.func 64) #[] #[]))] [.row 46 1 (rL l)] (.tup []) [.row 46 1 (rL (srtR l))] := by
 intro w F σ vs hi hl hr
 match vs, hl with
 | [v0, v1], _ =>
  obtain ⟨b, c, n, e1, rfl⟩ := hr 0 _ _ rfl rfl
  obtain ⟨rfl, -⟩ := Rd.imm_inv (hr 1 _ v1 rfl rfl)
  obtain ⟨cs, g1, g2, g3, g4, g5, g6, g7, g8, g9, g10⟩ := hi.obs 0 _ _ rfl e1
  have hn : n = l.length := by rw [g3, rL_len]
  subst hn
  have hlp : 0 < l.length := List.length_pos_iff.2 hne
  have hcl : ∀ i, clR l i < l.length := fun i => by unfold clR; omega
  have hcsl : l.length ≤ cs.length := by rw [g2]; omega
  have hrg : ∀ j (h : j < l.length), ∃ v, cs[j]? = some v ∧ Rd w F (.sl (iL l[j])) v := fun j hj => by
   obtain ⟨v, q1, q2⟩ := g8 j (.sl (iL l[j])) 0 (.sl (iL l[j])) (by simp [rL, hj]) rfl
   rw [Nat.mul_one, Nat.add_zero] at q1
   exact ⟨v, q1, q2⟩
  obtain ⟨en, hen⟩ : ∃ en : Nat → Value, en = fun i => cs.getD (clR l i) (.int .i64 0) := ⟨_, rfl⟩
  have hrd : ∀ i, Rd w F (.sl (iL (l.getD (clR l i) []))) (en i) := fun i => by
   obtain ⟨v, q1, q2⟩ := hrg _ (hcl i)
   rw [hen]
   dsimp only
   rw [List.getD_eq_getElem?_getD, List.getD_eq_getElem?_getD, q1, List.getElem?_eq_getElem (hcl i)]
   exact q2
  have hH : Holds en w b 0 (List.range l.length).toArray := by
   intro j hj
   have hj' : j < l.length := by simpa using hj
   refine ⟨?_, by simp [World.frozen?, g1]⟩
   obtain ⟨v, q1, -⟩ := hrg j hj'
   have e3 : (List.range l.length).toArray[j]! = j := by rw [getElem!_pos _ j hj]; simp
   rw [e3, hen]
   dsimp only
   rw [show clR l j = j by unfold clR; omega, List.getD_eq_getElem?_getD, q1]
   simp only [World.cell?, g1, Nat.zero_add]
   simpa using q1
  have hgl : b < w.heap.size := (Array.getElem?_eq_some_iff.1 g1).1
  have eg : ∀ args w, (callFunc 64 args).run Tryz.prog w = .ok (.enter 64 args) w := enters_of func64 (by kernel_rfl) rfl
  have hgb0 : ∀ (m : Nat) (os : Array Obj) (dk : Array Nat), w.grownBy (sortWorld en w b 0 m dk os) (some b) := fun m os dk => by
   unfold sortWorld
   refine ⟨rfl, rfl, rfl, by simp, fun k hk hne => ?_⟩
   rw [heap_grow_old _ _ (by simpa using hk)]
   have : b ≠ k := fun e => hne (by rw [e])
   simp [putRow, mapBlock, Sort.ahead, Array.getElem?_modify, this]
  have hcmp : CmpReads Tryz.prog 64 #[] en (cfR l) b 0 (List.range l.length).toArray.size w := fun m os dk _ x y => by
   have hg := hgb0 m os dk
   have hk : ∀ k, F k → (sortWorld en w b 0 m dk os).heap[k]? = w.heap[k]? := fun k hk => hg.block k (hi.flt k hk) (fun e => by cases e; exact g10 hk)
   exact compare_rd ((hrd x).mono (fun _ h => h) hk) ((hrd y).mono (fun _ h => h) hk)
  have h1c : OneCell en := fun i => (hrd i).one rfl
  have hcon := Any.slices_SortFunc_eq Tryz.sortRow en h1c (cfR l) (swoR l) 64 #[] b 0 c (List.range l.length).toArray w eg hcmp.lays hH hgl (by simp; omega)
  change Calls Tryz.prog 63 _ _ _ at hcon
  simp only [List.size_toArray, List.length_range] at hcon
  obtain ⟨p0, p1, p2, p3, -⟩ := pdR_ok l
  refine hcon.mono ?_
  rintro e w' ⟨rfl, q, os, rfl⟩
  rw [show pdq (ltOf (cfR l)) (List.range l.length).toArray 0 l.length (Lib.bitLen l.length) true true = pdR l from rfl]
  have hgb := hgb0 q os (pdR l)
  have hhp : (sortWorld en w b 0 q (pdR l) os).heap[b]? = some (.cells (putCells en 0 (pdR l) cs.toArray) 46 (0, 0)) := by
   unfold sortWorld
   rw [heap_grow_old _ _ (by simpa using hgl)]
   simp [putRow, mapBlock, Sort.ahead, Array.getElem?_modify, g1, onCells]
  refine row_turned hi e1 hgb (putCells en 0 (pdR l) cs.toArray).toList (by simpa using hhp) (by simp [putCells, g2]) (by rw [rL_len, p3]) g4 g5 (fun x hx => ?_) (fun x hx c hc => ?_) fun i x j cd hx hc => ?_
  ·obtain ⟨u, -, rfl⟩ := List.mem_map.1 hx
   rfl
  ·obtain ⟨u, -, rfl⟩ := List.mem_map.1 hx
   rw [show (D.sl (iL u)).cells = [D.sl (iL u)] from rfl, List.mem_singleton] at hc
   subst hc
   rfl
  ·rw [rL, List.getElem?_map, Option.map_eq_some_iff] at hx
   obtain ⟨u, hu, rfl⟩ := hx
   rw [show (D.sl (iL u)).cells = [D.sl (iL u)] from rfl] at hc
   cases j with
   | zero =>
    simp at hc
    subst hc
    unfold srtR at hu
    rw [List.getElem?_map, Option.map_eq_some_iff] at hu
    obtain ⟨m, hm, rfl⟩ := hu
    refine ⟨en m, ?_, (hrd m).mono (fun _ h => h) fun k hk => hgb.block k (hi.flt k hk) (fun e => by cases e; exact g10 hk)⟩
    have hlt : i < (pdR l).size := by have := (List.getElem?_eq_some_iff.1 hm).1; simpa using this
    have hmi : (pdR l)[i] = m := by
     have := (List.getElem?_eq_some_iff.1 hm).2
     simpa using this
    rw [Nat.mul_one, Nat.add_zero, Array.getElem?_toList]
    have hcs : i < cs.length := by omega
    simp [putCells, hlt, hcs, hmi]
   | succ j => simp at hc
end Go.Proofs.YtenpjlghikohmaaGreatDoor
namespace Go.Proofs.YtenpjlghikohmaaGreatDoor
set_option maxRecDepth 4000
open Go Go.Abs Go.Val Go.RowKit Go.Proofs.Tryz
attribute [local irreducible] go SGo HasBody Ev ExtEv EvO EvS RGo PGo
theorem shape_form (a : AT) : shapeF a = (formF a && !(a.vs.any fun v => decide (v < 0))) := by
 obtain ⟨n, hn⟩ : ∃ n : Int, ∀ v ∈ a.vs, v < n := by
  by_cases h : a.vs = []
  ·exact ⟨0, fun v hv => by rw [h] at hv; cases hv⟩
  ·obtain ⟨m, -, hm⟩ := maxQ_of h
   exact ⟨m + 1, fun v hv => by have := hm v hv; omega⟩
 have h := form_shape n a
 have h2 : (a.vs.any fun v => decide (v ≥ n)) = false := by
  rw [List.any_eq_false]
  intro v hv
  have := hn v hv
  simp; omega
 unfold badF at h
 rw [rng_any, h2, Bool.or_false, Bool.not_false, Bool.and_true, Bool.not_not] at h
 cases hf : formF a <;> cases hs : shapeF a <;> cases ha : (a.vs.any fun v => decide (v < 0)) <;> rw [hf, hs, ha] at h <;> simp_all
def idsE (e : Ed) : List Int := [e.src, e.id, e.dst]
def eR (a : AT) : List Ed → List (List Int)
 | [] => []
 | e :: r => (bif htF e a.ty && okTu a.vs (idsE e) then [tupTu a.vs (idsE e)] else []) ++ eR a r
def nR (a : AT) : List Nd → List (List Int)
 | [] => []
 | n :: r => (bif holdF n a then [[n.id]] else []) ++ nR a r
def rowsR (g : Gr) (a : AT) : List (List Int) := bif a.k == 3 then eR a g.edges else nR a g.nodes
def okR (g : Gr) (a : AT) : Bool := chkG g == 0 && shapeF a && namF28 a
def relF (g : Gr) (a : AT) : List (List Int) := bif okR g a then sorZ (rowsR g a) else []
def ariR (g : Gr) (a : AT) : Int := bif okR g a then ((vrsF a.vs).length : Int) else 0
theorem ari_one {k : Int} {n : Nat} (h : n = ariN k) (h0 : ariN k ≠ 0) (c : (k == 3) = false) : n = 1 := by
 unfold ariN at *
 rw [c] at h h0
 cases c1 : k == 1 <;> cases c2 : k == 2 <;> cases c4 : k == 4 <;> rw [c1, c2, c4] at h h0 <;> simp_all
theorem tup1 (v n : Int) : tupTu [v] [n] = [n] ∧ okTu [v] [n] = true := by
 have h1 : valTu [v] [n] v = n := by unfold valTu fiTu; simp [List.findIdx?_cons]
 refine ⟨?_, ?_⟩
 ·show ([v].map (valTu [v] [n])) = [n]
  rw [List.map_singleton, h1]
 ·unfold okTu
  rw [show List.range [v].length = [0] from rfl]
  simp [h1]
theorem chk_len {g : Gr} (h : chkG g = 0) : g.nodes.length ≤ 2000 ∧ g.edges.length ≤ 4000 := by
 unfold chkG at h
 cases c : decide (g.nodes.length > 2000) || decide (g.edges.length > 4000) with
 | true => rw [c] at h; simp at h
 | false =>
  rw [Bool.or_eq_false_iff] at c
  have c1 := of_decide_eq_false c.1
  have c2 := of_decide_eq_false c.2
  omega
abbrev oAtR (a : AT) : AObj := .var 58 (.w (.d (encAT a)))
abbrev oRs (x : X) : AObj := .var 40 (.w x)
abbrev oRn : AObj := .var 40 (.cs [.nilS])
def rsV (k : Nat) : List D → AObj
 | [] => oRn
 | _ :: _ => oRs (.own k)
abbrev rwR (l : List D) : AObj := .row 46 1 l
theorem add0t_evS (a : AT) (ids : List Int) (hl : ids.length = a.vs.length) (hn : a.vs.length ≤ 8) (ho : okTu a.vs ids = true) : EvS E 59 [.d (.sl (iL ids)), .ptr 0 0, .ptr 1 0] [oAtR a, oRn] (.tup []) [oAtR a, oRs (.own 2), rwR [rowD (tupTu a.vs ids)]] := by
 have h := tuple_ev a ids hl hn
 unfold tupDu at h
 rw [ho, cond_true] at h
 refine yn func59 ntmps59 fun _ _ _ _=>?_
 repeat' (first | refine yz ?_ | refine yp b60 h ?_ | (refine qS rfl ⟨by simp, fun d hd => by (obtain rfl := List.mem_singleton.1 hd; rfl), by (show (0 + 1) * 24 ≤ 140737488355328; omega), by (show 0 + 1 ≤ 9223372036854775807; omega)⟩ ?_) | refine retS0 [0, 1, 2] rfl rfl rfl rfl | refine endS0 [0, 1, 2] rfl rfl rfl rfl | refine yx ?_ | (refine yy ?_ ?_ <;> intro _) | exact zD | exact zL)
theorem addf_evS (a : AT) (ids : List Int) (hl : ids.length = a.vs.length) (hn : a.vs.length ≤ 8) (ho : okTu a.vs ids = false) : EvS E 59 [.d (.sl (iL ids)), .ptr 0 0, .ptr 1 0] [oAtR a, oRn] (.tup []) [oAtR a, oRn] := by
 have h := tuple_ev a ids hl hn
 unfold tupDu at h
 rw [ho, cond_false] at h
 refine yn func59 ntmps59 fun _ _ _ _=>?_
 repeat' (first | refine yz ?_ | refine yp b60 h ?_ | refine retS0 [0, 1] rfl rfl rfl rfl | refine endS0 [0, 1] rfl rfl rfl rfl | refine yx ?_ | (refine yy ?_ ?_ <;> intro _) | exact zD | exact zL)
theorem add1t_evS (a : AT) (ids : List Int) (l : List D) (hl : ids.length = a.vs.length) (hn : a.vs.length ≤ 8) (ho : okTu a.vs ids = true) (hll : l.length ≤ 1000000) : EvS E 59 [.d (.sl (iL ids)), .ptr 0 0, .ptr 1 0] [oAtR a, oRs (.own 2), rwR l] (.tup []) [oAtR a, oRs (.own 3), .dead, rwR (l ++ [rowD (tupTu a.vs ids)])] := by
 have h := tuple_ev a ids hl hn
 unfold tupDu at h
 rw [ho, cond_true] at h
 refine yn func59 ntmps59 fun _ _ _ _=>?_
 repeat' (first | refine yz ?_ | refine yp b60 h ?_ | (refine qS rfl ⟨by simp, fun d hd => by (obtain rfl := List.mem_singleton.1 hd; rfl), by (show (l.length + 1) * 24 ≤ 140737488355328; omega), by (show l.length + 1 ≤ 9223372036854775807; omega)⟩ ?_) | refine retS0 [0, 1, 2, 3] rfl rfl rfl rfl | refine endS0 [0, 1, 2, 3] rfl rfl rfl rfl | refine yx ?_ | (refine yy ?_ ?_ <;> intro _) | exact zD | exact zL)
theorem addg_evS (a : AT) (ids : List Int) (l : List D) (hl : ids.length = a.vs.length) (hn : a.vs.length ≤ 8) (ho : okTu a.vs ids = false) : EvS E 59 [.d (.sl (iL ids)), .ptr 0 0, .ptr 1 0] [oAtR a, oRs (.own 2), rwR l] (.tup []) [oAtR a, oRs (.own 2), rwR l] := by
 have h := tuple_ev a ids hl hn
 unfold tupDu at h
 rw [ho, cond_false] at h
 refine yn func59 ntmps59 fun _ _ _ _=>?_
 repeat' (first | refine yz ?_ | refine yp b60 h ?_ | refine retS0 [0, 1, 2] rfl rfl rfl rfl | refine endS0 [0, 1, 2] rfl rfl rfl rfl | refine yx ?_ | (refine yy ?_ ?_ <;> intro _) | exact zD | exact zL)
structure SRe (R : List (List Int)) (n : Nat) (rest : Nat → List (List Int)) where
 i : Nat
 o : List (List Int)
 hi : i ≤ n
 ho : o.length ≤ i
 ok : R = o ++ rest i
set_option maxHeartbeats 8000000 in
theorem rel_ev (g : Gr) (a : AT) (hn : ∀ n ∈ g.nodes, narP n.props) : Ev E 23 [encGr g, encAT a] (.d (encRL (ariR g a) (relF g a))) := by
 have hg := gcheck_ev g
 have hs := shape_ev a
 have hm := anamed_ev a
 obtain ⟨R, hR⟩ : ∃ R, encRL (ariR g a) (relF g a) = R := ⟨_, rfl⟩
 rw [hR]
 cases hok : okR g a with
 | false =>
  have e1 : R = .agg [.int 0, .sl []] := by rw [← hR]; unfold ariR relF; rw [hok]; rfl
  rw [e1]
  unfold okR at hok
  clear hR e1 hn
  generalize chkG g = z at *
  generalize shapeF a = s at *
  generalize namF28 a = m at *
  obtain ⟨k, vs, nm, ty, ⟨vk, vn, vd, vS, vl⟩⟩ := a
  cases c1 : z != 0 with
  | true =>
   refine ye2 func23 ntmps23 fun _ _ _=>?_
   repeat' (first | refine yz ?_ | refine yp b41 hg ?_ | refine yx ?_ | (refine yy ?_ ?_ <;> intro _) | exact zD | exact zL)
  | false =>
   have c1' : (z == 0) = true := by simpa using c1
   rw [c1', Bool.true_and] at hok
   cases s with
   | false =>
    refine ye2 func23 ntmps23 fun _ _ _=>?_
    repeat' (first | refine yz ?_ | refine yp b41 hg ?_ | refine yp b57 hs ?_ | refine yx ?_ | (refine yy ?_ ?_ <;> intro _) | exact zD | exact zL)
   | true =>
    rw [Bool.true_and] at hok
    subst hok
    refine ye2 func23 ntmps23 fun _ _ _=>?_
    repeat' (first | refine yz ?_ | refine yp b41 hg ?_ | refine yp b57 hs ?_ | refine yp b58 hm ?_ | refine yx ?_ | (refine yy ?_ ?_ <;> intro _) | exact zD | exact zL)
 | true =>
  have h0 := hok
  unfold okR at h0
  rw [Bool.and_eq_true, Bool.and_eq_true] at h0
  obtain ⟨⟨h1, h2⟩, h3⟩ := h0
  rw [h2] at hs
  rw [h3] at hm
  have h1 : chkG g = 0 := by simpa using h1
  rw [h1] at hg
  obtain ⟨s1, s2, s3⟩ := shape_arity h2
  have hlE : (g.edges.map encEd).length = g.edges.length := by simp
  have hlN : (g.nodes.map encNd).length = g.nodes.length := by simp
  have hbE := chk_len h1
  have hvl := vrs_len a.vs
  cases c3 : a.k == 3 with
  | true =>
   have hk3 : a.k = 3 := by simpa using c3
   have hv3 : a.vs.length = 3 := by rw [s1, hk3]; rfl
   have hRe : R = .agg [.int (((vrsF a.vs).map D.int).length : Int), .sl (rL (sorZ (eR a g.edges)))] := by
    rw [← hR]; unfold ariR relF encRL rowsR; rw [hok, c3, List.length_map]; rfl
   have h0t := fun ids h1 h2 => add0t_evS a ids h1 (by omega) h2
   have h0f := fun ids h1 h2 => addf_evS a ids h1 (by omega) h2
   have h1t := fun ids l h1 h2 h3 => add1t_evS a ids l h1 (by omega) h2 h3
   have h1f := fun ids l h1 h2 => addg_evS a ids l h1 (by omega) h2
   have hHT := fun e => hasType_ev e a.ty
   have hAV := avars_ev a (by omega)
   have hso := fun l h1 h2 => sortR_evS l h1 h2
   have hs0 := sortR0_evS 64
   have hco := fun l h => compactR_evS l h
   have hc0 := compactR0_ev 66
   rw [hRe]
   clear hR hRe
   obtain ⟨k, vs, nm, ty, ⟨vk, vn, vd, vS, vl⟩⟩ := a
   dsimp only at *
   refine ye2 func23 ntmps23 fun _ _ _=>?_
   repeat' (first | refine yz ?_ | refine yp b41 hg ?_ | refine yp b57 hs ?_ | refine yp b58 hm ?_ | refine go_makeFunc rfl rfl rfl rfl rfl ?_ | refine yx ?_ | (refine yy ?_ ?_ <;> intro _) | exact zD | exact zL)
   refine go_loop_ (α := SRe (eR ⟨k, vs, nm, ty, .mk vk vn vd vS vl⟩ g.edges) g.edges.length (fun i => eR ⟨k, vs, nm, ty, .mk vk vn vd vS vl⟩ (g.edges.drop i))) (fun p => ⟨[(2, .ptr 0 0), (3, .ptr 1 0), (4, .ptr 2 0), (5, .ptr 3 0), (6, .clo 59 [.ptr 1 0, .ptr 3 0]), (30, .d (.sl (g.edges.map encEd))), (31, .d (.int (g.edges.map encEd).length)), (32, .d (.int p.i))], [.var 38 (.w (.d (encGr g))), oAtR ⟨k, vs, nm, ty, .mk vk vn vd vS vl⟩, .var 63 (.cs [.d (.int 0), .nilS]), rsV 4 (rL p.o)] ++ rowO 46 1 (rL p.o)⟩) (fun p => g.edges.length - p.i) ⟨0, [], by omega, by simp, rfl⟩ (zle 4) ?_
   rintro ⟨i, o, hi, ho, ok⟩
   dsimp only
   have hol : (rL o).length ≤ 1000000 := by rw [rL_len]; omega
   rcases Nat.lt_or_ge i g.edges.length with hlt | hge
   ·have g1 : decide ((i : Int) < ((g.edges.map encEd).length : Int)) = true := by rw [hlE]; simpa using hlt
    have hx0 := List.getElem?_eq_getElem hlt
    generalize g.edges[i] = x at hx0
    have hx : (g.edges.map encEd)[((i : Nat) : Int).toNat]? = some (encEd x) := map_at (f := encEd) hx0
    have hht := hHT x
    have hids : [x.src, x.id, x.dst].length = vs.length := by rw [hv3]; rfl
    rw [drop_at hx0, eR] at ok
    dsimp only at ok
    rw [show idsE x = [x.src, x.id, x.dst] from rfl] at ok
    have happ := rL_app o (tupTu vs [x.src, x.id, x.dst])
    cases c1 : htF x ty with
    | true =>
     rw [c1] at hht ok
     rw [Bool.true_and] at ok
     cases c2 : okTu vs [x.src, x.id, x.dst] with
     | true =>
      rw [c2, cond_true, ← List.append_assoc] at ok
      have a0 := h0t _ hids c2
      have a1 := fun l => h1t _ l hids c2
      obtain ⟨x1, x2, x3, x4, x5⟩ := x
      generalize hq : rL o = oo at *
      match oo, hol with
      | [], hol =>
       dsimp only [rsV, rowO]
       repeat' (first | refine yz ?_ | refine yi (encEd ⟨x1, x2, x3, x4, x5⟩) hx ?_ | refine yp b61 hht ?_ | refine go_callS [1, 3] rfl rfl rfl rfl (FnX.clo _ _) b59 (a0) rfl rfl rfl rfl rfl ?_ | refine yx ?_ | (refine yy ?_ ?_ <;> intro _) | exact zD | exact zL)
       refine go_stop ?_
       refine ⟨⟨i + 1, o ++ [tupTu vs [x2, x1, x3]], by omega, by simp; omega, ok⟩, by dsimp only; omega, ?_⟩
       dsimp only
       rw [happ]
       exact (zren [0, 1, 2, 3, 5])
      | o0 :: or, hol =>
       have a1 := a1 (o0 :: or) hol
       dsimp only [rsV, rowO]
       repeat' (first | refine yz ?_ | refine yi (encEd ⟨x1, x2, x3, x4, x5⟩) hx ?_ | refine yp b61 hht ?_ | refine go_callS [1, 3, 4] rfl rfl rfl rfl (FnX.clo _ _) b59 (a1) rfl rfl rfl rfl rfl ?_ | refine yx ?_ | (refine yy ?_ ?_ <;> intro _) | exact zD | exact zL)
       refine go_stop ?_
       refine ⟨⟨i + 1, o ++ [tupTu vs [x2, x1, x3]], by omega, by simp; omega, ok⟩, by dsimp only; omega, ?_⟩
       dsimp only
       rw [happ]
       exact (zren [0, 1, 2, 3, 6])
     | false =>
      rw [c2, cond_false, List.nil_append] at ok
      have a0 := h0f _ hids c2
      have a1 := fun l => h1f _ l hids c2
      obtain ⟨x1, x2, x3, x4, x5⟩ := x
      generalize hq : rL o = oo at *
      match oo, hol with
      | [], hol =>
       dsimp only [rsV, rowO]
       repeat' (first | refine yz ?_ | refine yi (encEd ⟨x1, x2, x3, x4, x5⟩) hx ?_ | refine yp b61 hht ?_ | refine go_callS [1, 3] rfl rfl rfl rfl (FnX.clo _ _) b59 (a0) rfl rfl rfl rfl rfl ?_ | refine yx ?_ | (refine yy ?_ ?_ <;> intro _) | exact zD | exact zL)
       refine go_stop ?_
       refine ⟨⟨i + 1, o, by omega, by omega, ok⟩, by dsimp only; omega, ?_⟩
       dsimp only
       rw [hq]
       exact (zle 4)
      | o0 :: or, hol =>
       have a1 := a1 (o0 :: or)
       dsimp only [rsV, rowO]
       repeat' (first | refine yz ?_ | refine yi (encEd ⟨x1, x2, x3, x4, x5⟩) hx ?_ | refine yp b61 hht ?_ | refine go_callS [1, 3, 4] rfl rfl rfl rfl (FnX.clo _ _) b59 (a1) rfl rfl rfl rfl rfl ?_ | refine yx ?_ | (refine yy ?_ ?_ <;> intro _) | exact zD | exact zL)
       refine go_stop ?_
       refine ⟨⟨i + 1, o, by omega, by omega, ok⟩, by dsimp only; omega, ?_⟩
       dsimp only
       rw [hq]
       exact (zle 5)
    | false =>
     rw [c1] at hht ok
     rw [Bool.false_and, cond_false, List.nil_append] at ok
     generalize hq : rL o = oo at *
     match oo, hol with
     | [], hol =>
      dsimp only [rsV, rowO]
      repeat' (first | refine yz ?_ | refine yi (encEd x) hx ?_ | refine yp b61 hht ?_ | refine yx ?_ | (refine yy ?_ ?_ <;> intro _) | exact zD | exact zL)
      refine go_stop ?_
      refine ⟨⟨i + 1, o, by omega, by omega, ok⟩, by dsimp only; omega, ?_⟩
      dsimp only
      rw [hq]
      exact (zle 4)
     | o0 :: or, hol =>
      dsimp only [rsV, rowO]
      repeat' (first | refine yz ?_ | refine yi (encEd x) hx ?_ | refine yp b61 hht ?_ | refine yx ?_ | (refine yy ?_ ?_ <;> intro _) | exact zD | exact zL)
      refine go_stop ?_
      refine ⟨⟨i + 1, o, by omega, by omega, ok⟩, by dsimp only; omega, ?_⟩
      dsimp only
      rw [hq]
      exact (zle 5)
   ·have g1 : decide ((i : Int) < ((g.edges.map encEd).length : Int)) = false := by rw [hlE]; simp; omega
    rw [List.drop_eq_nil_of_le hge] at ok
    rw [show eR ⟨k, vs, nm, ty, .mk vk vn vd vS vl⟩ [] = [] from rfl, List.append_nil] at ok
    rw [ok]
    cases o with
    | nil =>
     have e0 : sorZ ([] : List (List Int)) = [] := sorZ_short (by simp)
     rw [e0]
     dsimp only [rsV, rowO, rL, List.map]
     repeat' (first | refine yq 19 [6] ?_ | refine yf 19 0 6 ?_ | refine yw ?_ | refine rgN ?_ | refine yv ?_ | refine yz ?_ | refine yc [] b63 (hs0) ?_ | refine yp b53 hAV ?_ | refine yp b65 hc0 ?_ | refine yx ?_ | (refine yy ?_ ?_ <;> intro _) | exact zD | exact zL)
    | cons o0 or =>
     obtain ⟨p0, p1, p2, p3, p4⟩ := pdR_ok (o0 :: or)
     have hso := hso (o0 :: or) (by simp) (by have := rL_len (o0 :: or); omega)
     have hco := hco (srtR (o0 :: or)) (by rw [p3]; have := rL_len (o0 :: or); omega)
     rw [uniF_sorZ p2 p4] at hco
     rw [show (rL (o0 :: or)) = rowD o0 :: rL or from rfl] at hso ⊢
     generalize hS : srtR (o0 :: or) = S at *
     dsimp only [rsV, rowO]
     repeat' (first | refine yu 19 [4,6] [2,4] ?_ | refine yk 19 0 3 ?_ | refine yf 19 3 1 ?_ | refine yw ?_ | refine yf 19 5 1 ?_ | refine rgN ?_ | refine yv ?_ | refine yz ?_ | refine yc [4] b63 (hso) ?_ | refine yp b53 hAV ?_ | refine rgCallS [4] (id := 19) (i := 4) rfl rfl rfl rfl rfl (FnX.plain _) b65 (hco) rfl rfl rfl rfl rfl (by repeat (first | exact trivial | refine ⟨⟨rfl, rfl⟩, ?_⟩ | refine ⟨trivial, ?_⟩)) ?_ | refine yx ?_ | (refine yy ?_ ?_ <;> intro _) | exact zD | exact zL)
  | false =>
   have hv1 : a.vs.length = 1 := ari_one s1 s2 c3
   have hRe : R = .agg [.int (((vrsF a.vs).map D.int).length : Int), .sl (rL (sorZ (nR a g.nodes)))] := by
    rw [← hR]; unfold ariR relF encRL rowsR; rw [hok, c3, List.length_map]; rfl
   have h0t := fun ids h1 h2 => add0t_evS a ids h1 (by omega) h2
   have h0f := fun ids h1 h2 => addf_evS a ids h1 (by omega) h2
   have h1t := fun ids l h1 h2 h3 => add1t_evS a ids l h1 (by omega) h2 h3
   have h1f := fun ids l h1 h2 => addg_evS a ids l h1 (by omega) h2
   have hHT := fun n hnm => holds_ev n a (hn n hnm)
   have hAV := avars_ev a (by omega)
   have hso := fun l h1 h2 => sortR_evS l h1 h2
   have hs0 := sortR0_evS 64
   have hco := fun l h => compactR_evS l h
   have hc0 := compactR0_ev 66
   rw [hRe]
   clear hR hRe
   obtain ⟨k, vs, nm, ty, ⟨vk, vn, vd, vS, vl⟩⟩ := a
   dsimp only at *
   refine ye2 func23 ntmps23 fun _ _ _=>?_
   repeat' (first | refine yz ?_ | refine yp b41 hg ?_ | refine yp b57 hs ?_ | refine yp b58 hm ?_ | refine go_makeFunc rfl rfl rfl rfl rfl ?_ | refine yx ?_ | (refine yy ?_ ?_ <;> intro _) | exact zD | exact zL)
   refine go_loop_ (α := SRe (nR ⟨k, vs, nm, ty, .mk vk vn vd vS vl⟩ g.nodes) g.nodes.length (fun i => nR ⟨k, vs, nm, ty, .mk vk vn vd vS vl⟩ (g.nodes.drop i))) (fun p => ⟨[(2, .ptr 0 0), (3, .ptr 1 0), (4, .ptr 2 0), (5, .ptr 3 0), (6, .clo 59 [.ptr 1 0, .ptr 3 0]), (51, .d (.sl (g.nodes.map encNd))), (52, .d (.int (g.nodes.map encNd).length)), (53, .d (.int p.i))], [.var 38 (.w (.d (encGr g))), oAtR ⟨k, vs, nm, ty, .mk vk vn vd vS vl⟩, .var 63 (.cs [.d (.int 0), .nilS]), rsV 4 (rL p.o)] ++ rowO 46 1 (rL p.o)⟩) (fun p => g.nodes.length - p.i) ⟨0, [], by omega, by simp, rfl⟩ (zle 4) ?_
   rintro ⟨i, o, hi, ho, ok⟩
   dsimp only
   have hol : (rL o).length ≤ 1000000 := by rw [rL_len]; omega
   rcases Nat.lt_or_ge i g.nodes.length with hlt | hge
   ·have g1 : decide ((i : Int) < ((g.nodes.map encNd).length : Int)) = true := by rw [hlN]; simpa using hlt
    have hx0 := List.getElem?_eq_getElem hlt
    generalize g.nodes[i] = x at hx0
    have hx : (g.nodes.map encNd)[((i : Nat) : Int).toNat]? = some (encNd x) := map_at (f := encNd) hx0
    have hht := hHT x (List.mem_of_getElem? hx0)
    have hids : [x.id].length = vs.length := by rw [hv1]; rfl
    obtain ⟨v0, hv0⟩ : ∃ v0, vs = [v0] := List.length_eq_one_iff.1 hv1
    have c2 : okTu vs [x.id] = true := by rw [hv0]; exact (tup1 v0 x.id).2
    have ht1 : tupTu vs [x.id] = [x.id] := by rw [hv0]; exact (tup1 v0 x.id).1
    rw [drop_at hx0, nR, ← ht1] at ok
    have happ := rL_app o (tupTu vs [x.id])
    cases c1 : holdF x ⟨k, vs, nm, ty, .mk vk vn vd vS vl⟩ with
    | true =>
     rw [c1] at hht ok
     rw [cond_true, ← List.append_assoc] at ok
     have a0 := h0t _ hids c2
     have a1 := fun l => h1t _ l hids c2
     obtain ⟨x1, x2, x3⟩ := x
     generalize hq : rL o = oo at *
     match oo, hol with
     | [], hol =>
      dsimp only [rsV, rowO]
      repeat' (first | refine yz ?_ | refine yi (encNd ⟨x1, x2, x3⟩) hx ?_ | refine yp b62 hht ?_ | refine go_callS [1, 3] rfl rfl rfl rfl (FnX.clo _ _) b59 (a0) rfl rfl rfl rfl rfl ?_ | refine yx ?_ | (refine yy ?_ ?_ <;> intro _) | exact zD | exact zL)
      refine go_stop ?_
      refine ⟨⟨i + 1, o ++ [tupTu vs [x1]], by omega, by simp; omega, ok⟩, by dsimp only; omega, ?_⟩
      dsimp only
      rw [happ]
      exact (zren [0, 1, 2, 3, 5])
     | o0 :: or, hol =>
      have a1 := a1 (o0 :: or) hol
      dsimp only [rsV, rowO]
      repeat' (first | refine yz ?_ | refine yi (encNd ⟨x1, x2, x3⟩) hx ?_ | refine yp b62 hht ?_ | refine go_callS [1, 3, 4] rfl rfl rfl rfl (FnX.clo _ _) b59 (a1) rfl rfl rfl rfl rfl ?_ | refine yx ?_ | (refine yy ?_ ?_ <;> intro _) | exact zD | exact zL)
      refine go_stop ?_
      refine ⟨⟨i + 1, o ++ [tupTu vs [x1]], by omega, by simp; omega, ok⟩, by dsimp only; omega, ?_⟩
      dsimp only
      rw [happ]
      exact (zren [0, 1, 2, 3, 6])
    | false =>
     rw [c1] at hht ok
     rw [cond_false, List.nil_append] at ok
     generalize hq : rL o = oo at *
     match oo, hol with
     | [], hol =>
      dsimp only [rsV, rowO]
      repeat' (first | refine yz ?_ | refine yi (encNd x) hx ?_ | refine yp b62 hht ?_ | refine yx ?_ | (refine yy ?_ ?_ <;> intro _) | exact zD | exact zL)
      refine go_stop ?_
      refine ⟨⟨i + 1, o, by omega, by omega, ok⟩, by dsimp only; omega, ?_⟩
      dsimp only
      rw [hq]
      exact (zle 4)
     | o0 :: or, hol =>
      dsimp only [rsV, rowO]
      repeat' (first | refine yz ?_ | refine yi (encNd x) hx ?_ | refine yp b62 hht ?_ | refine yx ?_ | (refine yy ?_ ?_ <;> intro _) | exact zD | exact zL)
      refine go_stop ?_
      refine ⟨⟨i + 1, o, by omega, by omega, ok⟩, by dsimp only; omega, ?_⟩
      dsimp only
      rw [hq]
      exact (zle 5)
   ·have g1 : decide ((i : Int) < ((g.nodes.map encNd).length : Int)) = false := by rw [hlN]; simp; omega
    rw [List.drop_eq_nil_of_le hge] at ok
    rw [show nR ⟨k, vs, nm, ty, .mk vk vn vd vS vl⟩ [] = [] from rfl, List.append_nil] at ok
    rw [ok]
    cases o with
    | nil =>
     have e0 : sorZ ([] : List (List Int)) = [] := sorZ_short (by simp)
     rw [e0]
     dsimp only [rsV, rowO, rL, List.map]
     repeat' (first | refine yq 19 [6] ?_ | refine yf 19 0 6 ?_ | refine yw ?_ | refine rgN ?_ | refine yv ?_ | refine yz ?_ | refine yc [] b63 (hs0) ?_ | refine yp b53 hAV ?_ | refine yp b65 hc0 ?_ | refine yx ?_ | (refine yy ?_ ?_ <;> intro _) | exact zD | exact zL)
    | cons o0 or =>
     obtain ⟨p0, p1, p2, p3, p4⟩ := pdR_ok (o0 :: or)
     have hso := hso (o0 :: or) (by simp) (by have := rL_len (o0 :: or); omega)
     have hco := hco (srtR (o0 :: or)) (by rw [p3]; have := rL_len (o0 :: or); omega)
     rw [uniF_sorZ p2 p4] at hco
     rw [show (rL (o0 :: or)) = rowD o0 :: rL or from rfl] at hso ⊢
     generalize hS : srtR (o0 :: or) = S at *
     dsimp only [rsV, rowO]
     repeat' (first | refine yu 19 [4,6] [2,4] ?_ | refine yk 19 0 3 ?_ | refine yf 19 3 1 ?_ | refine yw ?_ | refine yf 19 5 1 ?_ | refine rgN ?_ | refine yv ?_ | refine yz ?_ | refine yc [4] b63 (hso) ?_ | refine yp b53 hAV ?_ | refine rgCallS [4] (id := 19) (i := 4) rfl rfl rfl rfl rfl (FnX.plain _) b65 (hco) rfl rfl rfl rfl rfl (by repeat (first | exact trivial | refine ⟨⟨rfl, rfl⟩, ?_⟩ | refine ⟨trivial, ?_⟩)) ?_ | refine yx ?_ | (refine yy ?_ ?_ <;> intro _) | exact zD | exact zL)
theorem okEd_s {p : Option Int} {g : Gr} {e : Ed} (h : okEd p g e = 0) : 1 ≤ e.id ∧ hasI g.nodes e.src = true ∧ hasI g.nodes e.dst = true := by
 have rest : (bif decide (e.id < 1) || decide (e.id ≥ g.ne) then (1 : Int) else bif !hasI g.nodes e.src || !hasI g.nodes e.dst then 10 else bif !nameF e.ty then 6 else partF [] e.props) = 0 → 1 ≤ e.id ∧ hasI g.nodes e.src = true ∧ hasI g.nodes e.dst = true := fun h => by
  cases hd : decide (e.id < 1) with
  | true => rw [hd] at h; simp at h
  | false =>
   have hd' := of_decide_eq_false hd
   rw [hd, Bool.false_or] at h
   cases h2 : decide (e.id ≥ g.ne) with
   | true => rw [h2] at h; simp at h
   | false =>
    rw [h2, cond_false] at h
    cases h3 : hasI g.nodes e.src with
    | false => rw [h3] at h; simp at h
    | true =>
     cases h4 : hasI g.nodes e.dst with
     | false => rw [h3, h4] at h; simp at h
     | true => exact ⟨by omega, rfl, rfl⟩
 cases p with
 | none => exact rest h
 | some p =>
  have h' : (bif decide (e.id ≤ p) then (26 : Int) else bif decide (e.id < 1) || decide (e.id ≥ g.ne) then (1 : Int) else bif !hasI g.nodes e.src || !hasI g.nodes e.dst then 10 else bif !nameF e.ty then 6 else partF [] e.props) = 0 := h
  cases hc : decide (e.id ≤ p) with
  | true => rw [hc] at h'; simp at h'
  | false => rw [hc, cond_false] at h'; exact rest h'
theorem edgesC_s {g : Gr} : ∀ {l : List Ed} {p : Option Int}, edgesC g p l = 0 → ∀ e ∈ l, 1 ≤ e.id ∧ hasI g.nodes e.src = true ∧ hasI g.nodes e.dst = true
 | [], _, _, e, h => by cases h
 | x :: r, p, h, e, he => by
  rw [edgesC] at h
  cases hc : okEd p g x != 0 with
  | true =>
   rw [hc, cond_true] at h
   rw [h] at hc
   simp at hc
  | false =>
   rw [hc, cond_false] at h
   rcases List.mem_cons.1 he with q | q
   ·rw [q]; exact okEd_s (by simpa using hc)
   ·exact edgesC_s h e q
theorem hasI_pos {l : List Nd} (hs : (l.map Nd.id).Pairwise (· < ·)) (hp : ∀ n ∈ l, 1 ≤ n.id) {x : Int} (h : hasI l x = true) : 1 ≤ x := by
 rw [hasI_find hs] at h
 unfold findN at h
 rw [List.find?_isSome] at h
 obtain ⟨n, hn, hx⟩ := h
 have : n.id = x := by simpa using hx
 have := hp n hn
 omega
theorem edg_pos {g : Gr} (h : chkG g = 0) : ∀ e ∈ g.edges, 1 ≤ e.src ∧ 1 ≤ e.id ∧ 1 ≤ e.dst := by
 unfold chkG at h
 cases c1 : decide (g.nodes.length > 2000) || decide (g.edges.length > 4000) with
 | true => rw [c1] at h; simp at h
 | false =>
 rw [c1, cond_false] at h
 cases c2 : decide (g.nn < 1) || decide (g.nn > 1000001) || (decide (g.ne < 1) || decide (g.ne > 1000001)) with
 | true => rw [c2] at h; simp at h
 | false =>
 rw [c2, cond_false] at h
 cases c3 : nodesC g.nn none g.nodes != 0 with
 | true =>
  rw [c3, cond_true] at h
  rw [h] at c3
  simp at c3
 | false =>
 rw [c3, cond_false] at h
 obtain ⟨n1, -, n3⟩ := nodesC_s (l := g.nodes) (p := none) (by simpa using c3)
 intro e he
 obtain ⟨e1, e2, e3⟩ := edgesC_s h e he
 exact ⟨hasI_pos n1 n3 e2, e1, hasI_pos n1 n3 e3⟩
theorem eR_row {a : AT} : ∀ {l : List Ed} {r : List Int}, r ∈ eR a l → r.length ≤ a.vs.length
 | [], r, h => by simp [eR] at h
 | e :: l, r, h => by
  rw [eR] at h
  rcases List.mem_append.1 h with h | h
  ·cases hc : htF e a.ty && okTu a.vs (idsE e) with
   | false => rw [hc] at h; cases h
   | true =>
    rw [hc, cond_true, List.mem_singleton] at h
    rw [h, tupTu, List.length_map]
    exact vrs_len a.vs
  ·exact eR_row h
theorem nR_row {a : AT} : ∀ {l : List Nd} {r : List Int}, r ∈ nR a l → r.length ≤ 1
 | [], r, h => by simp [nR] at h
 | n :: l, r, h => by
  rw [nR] at h
  rcases List.mem_append.1 h with h | h
  ·cases hc : holdF n a with
   | false => rw [hc] at h; cases h
   | true =>
    rw [hc, cond_true, List.mem_singleton] at h
    rw [h]; simp
  ·exact nR_row h
structure SNg (vs : List Int) where
 i : Nat
 hi : i ≤ vs.length
 ok : ∀ j, j < i → ∀ x, vs[j]? = some x → ¬ x < 0
abbrev oGrQ (g : Gr) : AObj := .var 38 (.w (.d (encGr g)))
abbrev oRl : AObj := .var 63 (.cs [.d (.int 0), .nilS])
set_option maxHeartbeats 8000000 in
theorem rrel_ev (g : Gr) (a : AT) : Ev E 24 [encGr g, encAT a] (.d (encRL (ariR g a) (relF g a))) := Ev.fit fun hfit => by
 have hvmx := fit_map (f := D.int) ((hfit (encAT a) (by simp)).aggs (.sl (a.vs.map D.int)) (by simp [encAT, intsD]))
 have hvm := hvmx.1
 have hg := rgcheck_ev g
 have hs := formed_ev a
 have hm := rnamed_ev a
 obtain ⟨R, hR⟩ : ∃ R, encRL (ariR g a) (relF g a) = R := ⟨_, rfl⟩
 rw [hR]
 have hF : okR g a = false → R = .agg [.int 0, .sl []] := fun hok => by rw [← hR]; unfold ariR relF; rw [hok]; rfl
 have hT : okR g a = true → R = .agg [.int (((vrsF a.vs).map D.int).length : Int), .sl (rL (sorZ (rowsR g a)))] := fun hok => by
  rw [← hR]; unfold ariR relF encRL; rw [hok, List.length_map]; rfl
 clear hR
 have hpos := edg_pos (g := g)
 have hbE := chk_len (g := g)
 have hsf := shape_form a
 unfold okR at hF hT
 cases c1 : chkG g != 0 with
 | true =>
  have c1' : (chkG g == 0) = false := by simpa using c1
  rw [hF (by rw [c1']; rfl)]
  clear hF hT hpos hbE
  generalize chkG g = z at *
  refine ye2 func24 ntmps24 fun _ _ _=>?_
  repeat' (first | refine yz ?_ | refine yp b67 hg ?_ | refine yx ?_ | (refine yy ?_ ?_ <;> intro _) | exact zD | exact zL)
 | false =>
 have c1' : (chkG g == 0) = true := by simpa using c1
 have hz : chkG g = 0 := by simpa using c1
 rw [c1', Bool.true_and] at hF hT
 rw [hz] at hg
 replace hpos := hpos hz
 replace hbE := hbE hz
 clear c1 c1' hz
 cases c2 : formF a with
 | false =>
  rw [c2, Bool.false_and] at hsf
  rw [c2] at hs
  rw [hF (by rw [hsf]; rfl)]
  clear hF hT
  obtain ⟨k, vs, nm, ty, ⟨vk, vn, vd, vS, vl⟩⟩ := a
  refine ye2 func24 ntmps24 fun _ _ _=>?_
  repeat' (first | refine yz ?_ | refine yp b67 hg ?_ | refine yp b68 hs ?_ | refine yx ?_ | (refine yy ?_ ?_ <;> intro _) | exact zD | exact zL)
 | true =>
 rw [c2, Bool.true_and] at hsf
 rw [c2] at hs
 cases c3 : namF28 a with
 | false =>
  rw [c3] at hm hF
  rw [hF (by rw [Bool.and_false])]
  clear hF hT
  obtain ⟨k, vs, nm, ty, ⟨vk, vn, vd, vS, vl⟩⟩ := a
  refine ye2 func24 ntmps24 fun _ _ _=>?_
  repeat' (first | refine yz ?_ | refine yp b67 hg ?_ | refine yp b68 hs ?_ | refine yp b69 hm ?_ | refine yx ?_ | (refine yy ?_ ?_ <;> intro _) | exact zD | exact zL)
 | true =>
 rw [c3] at hm
 rw [c3, Bool.and_true, hsf] at hF hT
 have hshp : (a.vs.any fun v => decide (v < 0)) = false → shapeF a = true := fun h => by rw [hsf, h]; rfl
 obtain ⟨k, vs, nm, ty, ⟨vk, vn, vd, vS, vl⟩⟩ := a
 dsimp only at *
 have hvl : (iL vs).length = vs.length := iL_len vs
 refine ye2 func24 ntmps24 fun _ _ _=>?_
 repeat' (first | refine yz ?_ | refine yp b67 hg ?_ | refine yp b68 hs ?_ | refine yp b69 hm ?_ | refine yx ?_ | (refine yy ?_ ?_ <;> intro _) | exact zD | exact zL)
 refine go_loop_ (α := SNg vs) (fun p => ⟨[(2, .ptr 0 0), (3, .ptr 1 0), (4, .ptr 2 0), (5, .d (.int p.i))], [oGrQ g, oAtR ⟨k, vs, nm, ty, .mk vk vn vd vS vl⟩, oRl]⟩) (fun p => vs.length - p.i) ⟨0, by omega, fun j hj => by omega⟩ (zle 3) ?_
 rintro ⟨i, hi, hno⟩
 dsimp only
 rcases Nat.lt_or_ge i vs.length with hlt | hge
 ·have g1 : decide ((i : Int) < ((iL vs).length : Int)) = true := by rw [hvl]; simpa using hlt
  have hx0 := List.getElem?_eq_getElem hlt
  generalize vs[i] = x at hx0
  have hx := iL_get hx0
  cases c4 : decide (x < 0) with
  | true =>
   rw [hF (by rw [List.any_eq_true.2 ⟨x, List.mem_of_getElem? hx0, c4⟩]; rfl)]
   repeat' (first | refine yz ?_ | refine yi (.int x) hx ?_ | refine yx ?_ | (refine yy ?_ ?_ <;> intro _) | exact zD | exact zL)
  | false =>
   repeat' (first | refine yz ?_ | refine yi (.int x) hx ?_ | refine yx ?_ | (refine yy ?_ ?_ <;> intro _) | exact zD | exact zL)
   refine go_stop ?_
   refine ⟨⟨i + 1, by omega, fun j hj y hy => ?_⟩, by dsimp only; omega, (zle 3)⟩
   rcases Nat.lt_or_ge j i with h | h
   ·exact hno j h y hy
   ·rw [show j = i by omega, hx0] at hy
    cases hy
    exact of_decide_eq_false c4
 ·have g1 : decide ((i : Int) < ((iL vs).length : Int)) = false := by rw [hvl]; simp; omega
  have hneg : (vs.any fun v => decide (v < 0)) = false := by
   rw [List.any_eq_false]
   intro v hv
   obtain ⟨j, hj⟩ := List.getElem?_of_mem hv
   have hjl := (List.getElem?_eq_some_iff.1 hj).1
   simpa using hno j (by omega) v hj
  rw [hT (by rw [hneg]; rfl)]
  obtain ⟨s1, s2, s3⟩ := shape_arity (hshp hneg)
  dsimp only at s1 s2 s3
  clear hF hT hneg hno
  have hAV := rvars_ev ⟨k, vs, nm, ty, .mk vk vn vd vS vl⟩ (show vs.length ≤ 1000000 from by have := ari_le k; omega)
  have hlE : (g.edges.map encEd).length = g.edges.length := by simp
  have hlN : (g.nodes.map encNd).length = g.nodes.length := by simp
  unfold rowsR
  dsimp only
  cases c5 : k == 3 with
  | true =>
   have hk3 : k = 3 := by simpa using c5
   have hv3 : vs.length = 3 := by rw [s1, hk3]; rfl
   rw [cond_true]
   repeat' (first | refine yz ?_ | refine yx ?_ | (refine yy ?_ ?_ <;> intro _) | exact zD | exact zL)
   refine go_loop_ (α := SRe (eR ⟨k, vs, nm, ty, .mk vk vn vd vS vl⟩ g.edges) g.edges.length (fun i => eR ⟨k, vs, nm, ty, .mk vk vn vd vS vl⟩ (g.edges.drop i))) (fun p => ⟨[(6, rowK 3 (rL p.o)), (2, .ptr 0 0), (3, .ptr 1 0), (4, .ptr 2 0), (7, .d (.int p.i))], [oGrQ g, oAtR ⟨k, vs, nm, ty, .mk vk vn vd vS vl⟩, oRl] ++ rowO 46 1 (rL p.o)⟩) (fun p => g.edges.length - p.i) ⟨0, [], by omega, by simp, rfl⟩ (zle 3) ?_
   rintro ⟨i, o, hi, ho, ok⟩
   dsimp only
   have hol : (rL o).length ≤ 1000000 := by rw [rL_len]; omega
   rcases Nat.lt_or_ge i g.edges.length with hlt | hge
   ·have g2 : decide ((i : Int) < ((g.edges.map encEd).length : Int)) = true := by rw [hlE]; simpa using hlt
    have hx0 := List.getElem?_eq_getElem hlt
    generalize g.edges[i] = x at hx0
    have hx : (g.edges.map encEd)[((i : Nat) : Int).toNat]? = some (encEd x) := map_at (f := encEd) hx0
    have hht := rhasType_ev x ty
    obtain ⟨q1, q2, q3⟩ := hpos x (List.mem_of_getElem? hx0)
    have htu := rtuple_ev ⟨k, vs, nm, ty, .mk vk vn vd vS vl⟩ x hv3 q1 q2 q3
    rw [drop_at hx0, eR] at ok
    dsimp only at ok htu
    rw [show idsE x = [x.src, x.id, x.dst] from rfl] at ok
    have happ := rL_app o (tupTu vs [x.src, x.id, x.dst])
    unfold tupDu at htu
    generalize tupTu vs [x.src, x.id, x.dst] = tp at *
    cases c2 : okTu vs [x.src, x.id, x.dst] with
    | true =>
     rw [c2, cond_true] at htu
     rw [c2, Bool.and_true] at ok
     cases c3 : htF x ty with
     | true =>
      rw [c3] at hht
      rw [c3, cond_true, ← List.append_assoc] at ok
      generalize hq : rL o = oo at *
      match oo, hol with
      | [], hol =>
       dsimp only [rowK, rowO]
       repeat' (first | refine yz ?_ | refine yi (encEd x) hx ?_ | refine yp b70 htu ?_ | refine yp b71 hht ?_ | (refine qS rfl ⟨by simp, fun d hd => by (obtain rfl := List.mem_singleton.1 hd; rfl), by (show (0 + 1) * 24 ≤ 140737488355328; omega), by (show 0 + 1 ≤ 9223372036854775807; omega)⟩ ?_) | refine yx ?_ | (refine yy ?_ ?_ <;> intro _) | exact zD | exact zL)
       refine go_stop ?_
       refine ⟨⟨i + 1, o ++ [tp], by omega, by simp; omega, ok⟩, by dsimp only; omega, ?_⟩
       dsimp only
       rw [happ]
       exact (zren [0, 1, 2, 3])
      | o0 :: or, hol =>
       dsimp only [rowK, rowO]
       repeat' (first | refine yz ?_ | refine yi (encEd x) hx ?_ | refine yp b70 htu ?_ | refine yp b71 hht ?_ | (refine qS rfl ⟨by simp, fun d hd => by (obtain rfl := List.mem_singleton.1 hd; rfl), by (show ((o0 :: or : List D).length + 1) * 24 ≤ 140737488355328; omega), by (show (o0 :: or : List D).length + 1 ≤ 9223372036854775807; omega)⟩ ?_) | refine yx ?_ | (refine yy ?_ ?_ <;> intro _) | exact zD | exact zL)
       refine go_stop ?_
       refine ⟨⟨i + 1, o ++ [tp], by omega, by simp; omega, ok⟩, by dsimp only; omega, ?_⟩
       dsimp only
       rw [happ]
       exact (zren [0, 1, 2, 4])
     | false =>
      rw [c3] at hht
      rw [c3, cond_false, List.nil_append] at ok
      generalize hq : rL o = oo at *
      match oo, hol with
      | [], hol =>
       dsimp only [rowK, rowO]
       repeat' (first | refine yz ?_ | refine yi (encEd x) hx ?_ | refine yp b70 htu ?_ | refine yp b71 hht ?_ | refine yx ?_ | (refine yy ?_ ?_ <;> intro _) | exact zD | exact zL)
       refine go_stop ?_
       refine ⟨⟨i + 1, o, by omega, by omega, ok⟩, by dsimp only; omega, ?_⟩
       dsimp only
       rw [hq]
       exact (zle 3)
      | o0 :: or, hol =>
       dsimp only [rowK, rowO]
       repeat' (first | refine yz ?_ | refine yi (encEd x) hx ?_ | refine yp b70 htu ?_ | refine yp b71 hht ?_ | refine yx ?_ | (refine yy ?_ ?_ <;> intro _) | exact zD | exact zL)
       refine go_stop ?_
       refine ⟨⟨i + 1, o, by omega, by omega, ok⟩, by dsimp only; omega, ?_⟩
       dsimp only
       rw [hq]
       exact (zle 4)
    | false =>
     rw [c2, cond_false] at htu
     rw [c2, Bool.and_false, cond_false, List.nil_append] at ok
     generalize hq : rL o = oo at *
     match oo, hol with
     | [], hol =>
      dsimp only [rowK, rowO]
      repeat' (first | refine yz ?_ | refine yi (encEd x) hx ?_ | refine yp b70 htu ?_ | refine yx ?_ | (refine yy ?_ ?_ <;> intro _) | exact zD | exact zL)
      refine go_stop ?_
      refine ⟨⟨i + 1, o, by omega, by omega, ok⟩, by dsimp only; omega, ?_⟩
      dsimp only
      rw [hq]
      exact (zle 3)
     | o0 :: or, hol =>
      dsimp only [rowK, rowO]
      repeat' (first | refine yz ?_ | refine yi (encEd x) hx ?_ | refine yp b70 htu ?_ | refine yx ?_ | (refine yy ?_ ?_ <;> intro _) | exact zD | exact zL)
      refine go_stop ?_
      refine ⟨⟨i + 1, o, by omega, by omega, ok⟩, by dsimp only; omega, ?_⟩
      dsimp only
      rw [hq]
      exact (zle 4)
   ·have g2 : decide ((i : Int) < ((g.edges.map encEd).length : Int)) = false := by rw [hlE]; simp; omega
    rw [List.drop_eq_nil_of_le hge] at ok
    rw [show eR ⟨k, vs, nm, ty, .mk vk vn vd vS vl⟩ [] = [] from rfl, List.append_nil] at ok
    have hrow : ∀ r ∈ o, r.length ≤ 1000000 := fun r hr => by
     have hr2 : r ∈ eR ⟨k, vs, nm, ty, .mk vk vn vd vS vl⟩ g.edges := by rw [ok]; exact hr
     have := eR_row hr2; dsimp only at this; omega
    rw [ok]
    have hso := sortedL_ev o.length o (Nat.le_refl _) (by omega) hrow
    generalize hq : rL o = oo at *
    generalize rL (sorZ o) = S at *
    match oo with
    | [] =>
     dsimp only [rowK, rowO]
     repeat' (first | refine yz ?_ | refine yp b73 hAV ?_ | refine yp b28 hso ?_ | refine yx ?_ | (refine yy ?_ ?_ <;> intro _) | exact zD | exact zL)
    | o0 :: or =>
     dsimp only [rowK, rowO]
     refine go_frz 3 rfl ?_
     repeat' (first | refine yz ?_ | refine yp b73 hAV ?_ | refine yp b28 hso ?_ | refine yx ?_ | (refine yy ?_ ?_ <;> intro _) | exact zD | exact zL)
  | false =>
   have hv1 : vs.length = 1 := ari_one s1 s2 c5
   rw [cond_false]
   repeat' (first | refine yz ?_ | refine yx ?_ | (refine yy ?_ ?_ <;> intro _) | exact zD | exact zL)
   refine go_loop_ (α := SRe (nR ⟨k, vs, nm, ty, .mk vk vn vd vS vl⟩ g.nodes) g.nodes.length (fun i => nR ⟨k, vs, nm, ty, .mk vk vn vd vS vl⟩ (g.nodes.drop i))) (fun p => ⟨[(6, rowK 3 (rL p.o)), (2, .ptr 0 0), (3, .ptr 1 0), (4, .ptr 2 0), (10, .d (.int p.i))], [oGrQ g, oAtR ⟨k, vs, nm, ty, .mk vk vn vd vS vl⟩, oRl] ++ rowO 46 1 (rL p.o)⟩) (fun p => g.nodes.length - p.i) ⟨0, [], by omega, by simp, rfl⟩ (zle 3) ?_
   rintro ⟨i, o, hi, ho, ok⟩
   dsimp only
   have hol : (rL o).length ≤ 1000000 := by rw [rL_len]; omega
   rcases Nat.lt_or_ge i g.nodes.length with hlt | hge
   ·have g2 : decide ((i : Int) < ((g.nodes.map encNd).length : Int)) = true := by rw [hlN]; simpa using hlt
    have hx0 := List.getElem?_eq_getElem hlt
    generalize g.nodes[i] = x at hx0
    have hx : (g.nodes.map encNd)[((i : Nat) : Int).toNat]? = some (encNd x) := map_at (f := encNd) hx0
    have hht := rholds_ev x ⟨k, vs, nm, ty, .mk vk vn vd vS vl⟩
    rw [drop_at hx0, nR] at ok
    have happ := rL_app o [x.id]
    cases c3 : holdF x ⟨k, vs, nm, ty, .mk vk vn vd vS vl⟩ with
    | true =>
     rw [c3] at hht
     rw [c3, cond_true, ← List.append_assoc] at ok
     obtain ⟨x1, x2, x3⟩ := x
     generalize hq : rL o = oo at *
     match oo, hol with
     | [], hol =>
      dsimp only [rowK, rowO]
      repeat' (first | refine yz ?_ | refine yi (encNd ⟨x1, x2, x3⟩) hx ?_ | refine yp b72 hht ?_ | (refine qS rfl ⟨by simp, fun d hd => by (obtain rfl := List.mem_singleton.1 hd; rfl), by (show (0 + 1) * 24 ≤ 140737488355328; omega), by (show 0 + 1 ≤ 9223372036854775807; omega)⟩ ?_) | refine yx ?_ | (refine yy ?_ ?_ <;> intro _) | exact zD | exact zL)
      refine go_stop ?_
      refine ⟨⟨i + 1, o ++ [[x1]], by omega, by simp; omega, ok⟩, by dsimp only; omega, ?_⟩
      dsimp only
      rw [happ]
      exact (zren [0, 1, 2, 3])
     | o0 :: or, hol =>
      dsimp only [rowK, rowO]
      repeat' (first | refine yz ?_ | refine yi (encNd ⟨x1, x2, x3⟩) hx ?_ | refine yp b72 hht ?_ | (refine qS rfl ⟨by simp, fun d hd => by (obtain rfl := List.mem_singleton.1 hd; rfl), by (show ((o0 :: or : List D).length + 1) * 24 ≤ 140737488355328; omega), by (show (o0 :: or : List D).length + 1 ≤ 9223372036854775807; omega)⟩ ?_) | refine yx ?_ | (refine yy ?_ ?_ <;> intro _) | exact zD | exact zL)
      refine go_stop ?_
      refine ⟨⟨i + 1, o ++ [[x1]], by omega, by simp; omega, ok⟩, by dsimp only; omega, ?_⟩
      dsimp only
      rw [happ]
      exact (zren [0, 1, 2, 4])
    | false =>
     rw [c3] at hht
     rw [c3, cond_false, List.nil_append] at ok
     generalize hq : rL o = oo at *
     match oo, hol with
     | [], hol =>
      dsimp only [rowK, rowO]
      repeat' (first | refine yz ?_ | refine yi (encNd x) hx ?_ | refine yp b72 hht ?_ | refine yx ?_ | (refine yy ?_ ?_ <;> intro _) | exact zD | exact zL)
      refine go_stop ?_
      refine ⟨⟨i + 1, o, by omega, by omega, ok⟩, by dsimp only; omega, ?_⟩
      dsimp only
      rw [hq]
      exact (zle 3)
     | o0 :: or, hol =>
      dsimp only [rowK, rowO]
      repeat' (first | refine yz ?_ | refine yi (encNd x) hx ?_ | refine yp b72 hht ?_ | refine yx ?_ | (refine yy ?_ ?_ <;> intro _) | exact zD | exact zL)
      refine go_stop ?_
      refine ⟨⟨i + 1, o, by omega, by omega, ok⟩, by dsimp only; omega, ?_⟩
      dsimp only
      rw [hq]
      exact (zle 4)
   ·have g2 : decide ((i : Int) < ((g.nodes.map encNd).length : Int)) = false := by rw [hlN]; simp; omega
    rw [List.drop_eq_nil_of_le hge] at ok
    rw [show nR ⟨k, vs, nm, ty, .mk vk vn vd vS vl⟩ [] = [] from rfl, List.append_nil] at ok
    have hrow : ∀ r ∈ o, r.length ≤ 1000000 := fun r hr => by
     have hr2 : r ∈ nR ⟨k, vs, nm, ty, .mk vk vn vd vS vl⟩ g.nodes := by rw [ok]; exact hr
     have := nR_row hr2; omega
    rw [ok]
    have hso := sortedL_ev o.length o (Nat.le_refl _) (by omega) hrow
    generalize hq : rL o = oo at *
    generalize rL (sorZ o) = S at *
    match oo with
    | [] =>
     dsimp only [rowK, rowO]
     repeat' (first | refine yz ?_ | refine yp b73 hAV ?_ | refine yp b28 hso ?_ | refine yx ?_ | (refine yy ?_ ?_ <;> intro _) | exact zD | exact zL)
    | o0 :: or =>
     dsimp only [rowK, rowO]
     refine go_frz 3 rfl ?_
     repeat' (first | refine yz ?_ | refine yp b73 hAV ?_ | refine yp b28 hso ?_ | refine yx ?_ | (refine yy ?_ ?_ <;> intro _) | exact zD | exact zL)
set_option maxHeartbeats 2000000 in
theorem law_rels (hal : Ev E 8 [] (.d (.bool true))) (g : Gr) (a : AT) : Ev E 5 [encGr g, encAT a] (.d (.bool true)) := by
 have h1 := smallG_ev g 24 30
 have h2 := lat_ev a
 cases c1 : smG g 24 30 with
 | false =>
  rw [c1] at h1
  refine ye2 func5 ntmps5 fun _ _ _=>?_
  repeat' (first | refine yz ?_ | refine yp b20 h1 ?_ | refine yp b8 hal ?_ | refine yx ?_ | (refine yy ?_ ?_ <;> intro _) | exact zD | exact zL)
 | true =>
  rw [c1] at h1
  cases c2 : latB a with
  | false =>
   rw [c2] at h2
   clear c2
   obtain ⟨k, vs, nm, ty, ⟨vk, vn, vd, vS, vl⟩⟩ := a
   refine ye2 func5 ntmps5 fun _ _ _=>?_
   repeat' (first | refine yz ?_ | refine yp b20 h1 ?_ | refine yp b21 h2 ?_ | refine yp b8 hal ?_ | refine yx ?_ | (refine yy ?_ ?_ <;> intro _) | exact zD | exact zL)
  | true =>
   rw [c2] at h2
   obtain ⟨⟨q1, -⟩, -, -⟩ := smG_ok c1
   have h3 := rel_ev g a fun n hn => (q1 n hn).2
   have h4 := rrel_ev g a
   have h5 := sameRel_self (ariR g a) (relF g a)
   generalize encRL (ariR g a) (relF g a) = R at *
   clear c1 c2 q1
   obtain ⟨k, vs, nm, ty, ⟨vk, vn, vd, vS, vl⟩⟩ := a
   refine ye2 func5 ntmps5 fun _ _ _=>?_
   repeat' (first | refine yz ?_ | refine yp b20 h1 ?_ | refine yp b21 h2 ?_ | refine yp b8 hal ?_ | refine yp b23 h3 ?_ | refine yp b24 h4 ?_ | refine yp b22 h5 ?_ | refine yx ?_ | (refine yy ?_ ?_ <;> intro _) | exact zD | exact zL)
end Go.Proofs.YtenpjlghikohmaaGreatDoor
