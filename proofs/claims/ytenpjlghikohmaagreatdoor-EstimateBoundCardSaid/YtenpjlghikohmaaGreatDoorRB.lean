/- Rows of integers compared by the specification and by the library; rows without their repeats; relations compared with themselves; The specification's merge and its sort of rows; The library's comparison of rows of integers, its sort in place of such rows, its removal of repeats among them, as the engine's contracts; The relation of an atom, by the program; The relation of an atom, by the specification: the program's; The law AtomsRels, given that the chapter's example holds. Conditions: each part's own, as it says. -/
import Derived.Test.YtenpjlghikohmaaGreatDoorWA
import Derived.Test.YtenpjlghikohmaaGreatDoorZA
import Derived.Test.YtenpjlghikohmaaGreatDoorLB
import Derived.Test.YtenpjlghikohmaaGreatDoorGC
import Derived.Test.YtenpjlghikohmaaGreatDoorRA
import Derived.Test.YtenpjlghikohmaaGreatDoorLD
import Derived.Test.YtenpjlghikohmaaGreatDoorGG
set_option linter.unusedVariables false
set_option linter.unusedSimpArgs false
namespace Go.Proofs.YtenpjlghikohmaaGreatDoor
set_option maxRecDepth 4000
open Go Go.Abs Go.Val Go.RowKit Go.Proofs.Tryz
attribute [local irreducible] go SGo HasBody Ev ExtEv EvO EvS PGo RGo
abbrev rowD (r : List Int) : D := .sl (iL r)
def rL (l : List (List Int)) : List D := l.map rowD
theorem rL_len (l : List (List Int)) : (rL l).length = l.length := by simp [rL]
theorem rL_get {l : List (List Int)} {i : Nat} {x : List Int} (h : l[i]? = some x) : (rL l)[((i : Nat) : Int).toNat]? = some (.sl (iL x)) := by
 rw [Int.toNat_natCast, rL, List.getElem?_map, h]
 rfl
def encRL (n : Int) (l : List (List Int)) : D := .agg [.int n, .sl (rL l)]
structure SEz (a b : List Int) where
 i : Nat
 hi : i ≤ a.length
 ok : lexZ a b = lexZ (a.drop i) (b.drop i)
theorem equalL_ev (a b : List Int) : Ev E 66 [.sl (iL a), .sl (iL b)] (.d (.bool (lexZ b a == 0))) := Ev.fit fun hfit => by
 have m1 := (fit_map (hfit (.sl (iL a)) (by simp))).1
 have la := iL_len a
 have lb := iL_len b
 have e : (lexZ b a == 0) = (lexZ a b == 0) := by
  rw [lexZ_anti a b]
  cases h : lexZ a b == 0 with
  | true => rw [beq_iff_eq] at h ⊢; omega
  | false => rw [beq_eq_false_iff_ne] at h ⊢; omega
 rw [e]
 by_cases hl : a.length = b.length
 ·have g0 : (((iL a).length : Int) != ((iL b).length : Int)) = false := by rw [la, lb, hl]; simp
  refine ye2 func66 ntmps66 fun _ _ _=>?_
  repeat' (refine yz ?_)
  refine go_loop_ (α := SEz a b) (fun p => ⟨[(0, .d (.sl (iL a))), (1, .d (.sl (iL b))), (12, .d (.int (iL a).length)), (13, .d (.int p.i))], []⟩) (fun p => a.length - p.i) ⟨0, by omega, rfl⟩ (zle 0) ?_
  rintro ⟨i, hi, ok⟩
  dsimp only
  rcases Nat.lt_or_ge i a.length with hlt | hge
  ·have g1 : decide ((i : Int) < ((iL a).length : Int)) = true := by rw [la]; simpa using hlt
   have hx0 := List.getElem?_eq_getElem hlt
   have hy0 := List.getElem?_eq_getElem (show i < b.length by omega)
   generalize a[i] = x at hx0
   generalize b[i]'(by omega) = y at hy0
   have hx := iL_get hx0
   have hy := iL_get hy0
   rw [drop_at hx0, drop_at hy0] at ok
   cases c1 : x != y with
   | true =>
    have : (lexZ a b == 0) = false := by
     rw [ok, beq_eq_false_iff_ne]
     intro h0
     have := lexZ_zero _ _ h0
     simp at this
     simp [this.1] at c1
    rw [this]
    repeat' (first | refine yz ?_ | refine yi (.int x) hx ?_ | refine yi (.int y) hy ?_ | exact zD)
   | false =>
    have hxy : x = y := by simpa using c1
    rw [hxy, lexZ_eq] at ok
    repeat' (first | refine yz ?_ | refine yi (.int x) hx ?_ | refine yi (.int y) hy ?_)
    refine go_stop ?_
    exact ⟨⟨i + 1, by omega, ok⟩, by dsimp only; omega, (zle 0)⟩
  ·have g1 : decide ((i : Int) < ((iL a).length : Int)) = false := by rw [la]; simp; omega
   have : (lexZ a b == 0) = true := by
    rw [ok, List.drop_eq_nil_of_le (by omega), List.drop_eq_nil_of_le (by omega)]
    rfl
   rw [this]
   repeat' (first | refine yz ?_ | exact zD)
 ·have g0 : (((iL a).length : Int) != ((iL b).length : Int)) = true := by rw [la, lb]; simp; omega
  have : (lexZ a b == 0) = false := by
   rw [beq_eq_false_iff_ne]
   intro h0
   exact hl (congrArg List.length (lexZ_zero _ _ h0))
  rw [this]
  refine ye2 func66 ntmps66 fun _ _ _=>?_
  repeat' (first | refine yz ?_ | exact zD)
theorem blenR_ev : Ev E 155 [.imm (.int .u64 0)] (.d (.int 0)) := by
 refine of_lib1 (by decide) fun w F _ _ => ?_
 refine (Tryz.bits_Len 0 w (by omega) (by omega)).mono ?_
 rintro e w' ⟨rfl, rfl⟩
 exact ⟨rfl, Below.refl _ _⟩
theorem insR0_ev (fn : FuncId) : EvS E 240 [.d (.sl []), .d (.int 0), .d (.int 0), .d (.imm (.func (.func fn) #[] #[]))] [] (.tup []) [] := by
 refine yn func240 ntmps240 fun _ _ _ _=>?_
 repeat' (refine yz ?_)
 refine go_loop_ (α := Unit) (fun _ => ⟨[(2, .d (.int 0)), (8, .d (.int 1))], []⟩) (fun _ => 0) () (zle 0) ?_
 rintro -
 have g : decide ((1 : Int) < 0) = false := rfl
 repeat' (first | refine yz ?_ | refine yo [])
theorem pdqR0_ev (fn : FuncId) : EvS E 154 [.d (.sl []), .d (.int 0), .d (.int 0), .d (.int 0), .d (.imm (.func (.func fn) #[] #[]))] [] (.tup []) [] := by
 have q := insR0_ev fn
 refine yn func154 ntmps154 fun _ _ _ _=>?_
 repeat' (refine yz ?_)
 refine go_loop_ (α := Unit) (fun _ => ⟨[(0, .d (.sl [])), (1, .d (.int 0)), (2, .d (.int 0)), (3, .d (.int 0)), (4, .d (.imm (.func (.func fn) #[] #[])))], []⟩) (fun _ => 0) () (zle 0) ?_
 rintro -
 have g : decide ((0 : Int) ≤ 12) = true := rfl
 repeat' (first | refine yz ?_ | refine yc [] b240 (q) ?_ | refine retS0 [] rfl rfl rfl rfl)
theorem sortR0_evS (fn : FuncId) : EvS E 63 [.d (.sl []), .d (.imm (.func (.func fn) #[] #[]))] [] (.tup []) [] := by
 have q := pdqR0_ev fn
 have h := blenR_ev
 have hz : (([] : List D).length : Int) = 0 := rfl
 refine yn func63 ntmps63 fun _ _ _ _=>?_
 repeat' (first | refine yz ?_ | refine yp b155 h ?_ | refine yc [] b154 (q) ?_ | refine yo [])
theorem subR (a b : List D) : subD (.sl a) 0 (.sl b) = .sl b := by rfl
theorem compactR0_ev (fn : FuncId) : Ev E 65 [.sl [], .imm (.func (.func fn) #[] #[])] (.d (.sl [])) := by
 have g : decide ((0 : Int) < 2) = true := rfl
 refine ye2 func65 ntmps65 fun _ _ _=>?_
 repeat' (first | refine yz ?_ | exact zD)
set_option maxHeartbeats 2000000 in
theorem compactR_evS (l : List (List Int)) (hm : l.length ≤ 1152921504606846976) :
  EvS E 65 [.own 0, .d (.imm (.func (.func 66) #[] #[]))] [.row 46 1 (l.map rowD)] (.d (.sl ((uniF lexZ l).map rowD))) [.dead] := by
 have hL : (l.map rowD).length = l.length := by simp
 have hbb := b66
 by_cases hs : l.length < 2
 ·have g0 := yT (((l.map rowD).length : Int) < 2) (by omega)
  rw [uniF_short hs]
  refine yd func65 ntmps65 fun _ _ _ _=>?_
  repeat' (refine yz ?_)
  refine go_frz 0 rfl ?_
  repeat' (first | refine yr [0] ?_ | exact zD)
 ·have g0 := yF (((l.map rowD).length : Int) < 2) (by omega)
  refine yd func65 ntmps65 fun _ _ _ _=>?_
  repeat' (refine yz ?_)
  refine go_loop_ (α := CpT lexZ l) (fun p => ⟨[(0, .own 0), (1, .d (.imm (.func (.func 66) #[] #[]))), (5, .d (.int p.k))], [.row 46 1 (l.map rowD)]⟩) (fun p => l.length - p.k) (CpT.start (by omega)) (zle 1) ?_
  rintro p
  have h1 := p.h1
  have hk := p.hk
  obtain ⟨k, hkp⟩ : ∃ k, p.k = k := ⟨_, rfl⟩
  rw [hkp] at h1 hk
  rw [hkp]
  rcases Nat.lt_or_ge k l.length with hlt | hge
  ·have g1 := yT ((k : Int) < ((l.map rowD).length : Int)) (by omega)
   have x1 := row_get (en := rowD) (l := l) (i := (k : Int)) (p := k) hlt rfl
   have x2 := row_get (en := rowD) (l := l) (i := (k : Int) - 1) (p := k - 1) (by omega) (by omega)
   have q := equalL_ev (atS l k) (atS l (k - 1))
   cases hc : lexZ (atS l (k - 1)) (atS l k) == 0 with
   | false =>
    rw [hc] at q
    repeat' (first | refine yl x1 ?_ | refine yl x2 ?_ | refine yz ?_ | refine yp hbb q ?_)
    refine go_stop ?_
    refine ⟨p.next (by rw [hkp]; exact hlt) (by rw [hkp]; simpa using hc), by show l.length - (p.k + 1) < l.length - k; omega, ?_⟩
    show Le _ _ ⟨[(0, .own 0), (1, .d (.imm (.func (.func 66) #[] #[]))), (5, .d (.int ((p.k + 1 : Nat) : Int)))], _⟩
    rw [hkp]
    exact (zle 1)
   | true =>
    rw [hc] at q
    have hc0 : lexZ (atS l (k - 1)) (atS l k) = 0 := by simpa using hc
    have e0 : ∃ p0 : CqT lexZ l k, p0.k = k ∧ p0.k2 = 1 ∧ p0.l1 = l := by
     have h3 := CqT.start p (by rw [hkp]; exact hlt) (by rw [hkp]; exact hc0)
     subst hkp
     exact ⟨CqT.start p hlt hc0, rfl, rfl, rfl⟩
    obtain ⟨p0, e1, e2, e3⟩ := e0
    repeat' (first | refine yl x1 ?_ | refine yl x2 ?_ | refine yz ?_ | refine yp hbb q ?_ | refine go_sliceOwn rfl rfl rfl rfl rfl rfl rfl rfl rfl (by constructor <;> first | omega | (simp; omega) | decide) ?_)
    refine go_loop_ (α := CqT lexZ l k) (fun p => ⟨[(0, .own 0), (1, .d (.imm (.func (.func 66) #[] #[]))), (5, .d (.int p.k)), (6, .sub 0 k (l.length - k) 1), (7, .d (.int p.k2))], [.row 46 1 (p.l1.map rowD)]⟩) (fun p => l.length - p.k2) p0 (by
     rw [e1, e2, e3, ← hL]
     exact (zle 1)) ?_
    clear e1 e2 e3 p0
    rintro p2
    have hk2 := p2.hk2
    have hb := p2.hb
    have hkk := p2.hkk
    have hl1 := p2.hl
    have ha := p2.ha
    obtain ⟨k2, hk2p⟩ : ∃ k2, p2.k2 = k2 := ⟨_, rfl⟩
    obtain ⟨kk, hkkp⟩ : ∃ kk, p2.k = kk := ⟨_, rfl⟩
    obtain ⟨l1, hl1p⟩ : ∃ l1, p2.l1 = l1 := ⟨_, rfl⟩
    rw [hk2p] at hk2 hb hkk ha
    rw [hkkp] at hkk
    rw [hl1p] at hl1 ha
    rw [hk2p, hkkp, hl1p]
    have hL1 : (l1.map rowD).length = l.length := by simp [hl1]
    rcases Nat.lt_or_ge k2 (l.length - k) with hlt2 | hge2
    ·have g3 := yT ((k2 : Int) < ((l.length - k : Nat) : Int)) (by omega)
     have y1 : (l1.map rowD)[k + (k2 : Int).toNat]? = some (rowD (atS l (k + k2))) := by
      rw [Int.toNat_natCast, List.getElem?_map, atS_get (by omega), ha _ (by omega)]; rfl
     have y2 : (l1.map rowD)[k + ((k2 : Int) - 1).toNat]? = some (rowD (atS l (k + k2 - 1))) := by
      rw [show k + ((k2 : Int) - 1).toNat = k + k2 - 1 by omega, List.getElem?_map, atS_get (by omega), ha _ (by omega)]; rfl
     have y3 := row_get (en := rowD) (l := l1) (i := (kk : Int)) (p := kk) (by omega) rfl
     have q2 := equalL_ev (atS l (k + k2)) (atS l (k + k2 - 1))
     cases hd : lexZ (atS l (k + k2 - 1)) (atS l (k + k2)) == 0 with
     | false =>
      rw [hd] at q2
      have hset : (l1.map rowD).set (kk : Int).toNat (subD (rowD (atS l1 kk)) 0 (rowD (atS l (k + k2)))) = (l1.set kk (atS l (k + k2))).map rowD := by
       rw [subR, Int.toNat_natCast, List.map_set]
      repeat' (first | refine yl y1 ?_ | refine yl y2 ?_ | refine qZ _ rfl rfl rfl rfl rfl rfl y3 rfl rfl rfl ?_ | refine yz ?_ | refine yp hbb q2 ?_ | refine go_indexSub rfl rfl rfl rfl rfl rfl rfl (by constructor <;> first | omega | (simp; omega) | decide) ?_)
      refine go_stop ?_
      refine ⟨p2.keep (by rw [hk2p]; omega) (by rw [hk2p]; simpa using hd), by show l.length - (p2.k2 + 1) < l.length - k2; omega, ?_⟩
      show Le _ ⟨_, [.row 46 1 ((l1.map rowD).set (kk : Int).toNat (subD (rowD (atS l1 kk)) 0 (rowD (atS l (k + k2)))))]⟩ ⟨[(0, .own 0), (1, .d (.imm (.func (.func 66) #[] #[]))), (5, .d (.int ((p2.k + 1 : Nat) : Int))), (6, .sub 0 k (l.length - k) 1), (7, .d (.int ((p2.k2 + 1 : Nat) : Int)))], [.row 46 1 ((p2.l1.set p2.k (atS l (k + p2.k2))).map rowD)]⟩
      rw [hset, hk2p, hkkp, hl1p]
      exact (zle 1)
     | true =>
      rw [hd] at q2
      repeat' (first | refine yl y1 ?_ | refine yl y2 ?_ | refine yz ?_ | refine yp hbb q2 ?_ | refine go_indexSub rfl rfl rfl rfl rfl rfl rfl (by constructor <;> first | omega | (simp; omega) | decide) ?_)
      refine go_stop ?_
      refine ⟨p2.drop (by rw [hk2p]; omega) (by rw [hk2p]; simpa using hd), by show l.length - (p2.k2 + 1) < l.length - k2; omega, ?_⟩
      show Le _ _ ⟨[(0, .own 0), (1, .d (.imm (.func (.func 66) #[] #[]))), (5, .d (.int ((p2.k : Nat) : Int))), (6, .sub 0 k (l.length - k) 1), (7, .d (.int ((p2.k2 + 1 : Nat) : Int)))], [.row 46 1 (p2.l1.map rowD)]⟩
      rw [hk2p, hkkp, hl1p]
      exact (zle 1)
    ·have g3 := yF ((k2 : Int) < ((l.length - k : Nat) : Int)) (by omega)
     have hdone := p2.done (by rw [hk2p]; omega)
     rw [hkkp, hl1p] at hdone
     rw [hdone]
     repeat' (first | refine go_clear rfl rfl rfl rfl rfl rfl rfl rfl rfl (by omega) (go_frzS 0 rfl ?_) | refine yz ?_ | refine go_sliceOwn rfl rfl rfl rfl rfl rfl rfl rfl rfl (by constructor <;> first | omega | (simp; omega) | decide) ?_)
     refine qS rfl ?_ ?_
     ·refine ⟨⟨by omega, ?_⟩, ?_⟩
      ·simp only [List.length_append, List.length_take, List.length_map, hl1]
       omega
      ·refine ⟨_, rfl, fun d hd => ?_⟩
       rcases List.mem_append.1 hd with hd | hd
       ·rcases List.mem_append.1 hd with hd | hd
        ·obtain ⟨v, -, rfl⟩ := List.mem_map.1 (List.mem_of_mem_take hd)
         rfl
        ·rw [List.eq_of_mem_replicate hd]; rfl
       ·obtain ⟨v, -, rfl⟩ := List.mem_map.1 (List.mem_of_mem_drop hd)
        rfl
     repeat' (first | refine yz ?_ | refine yr [0] ?_)
     refine congrArg D.sl ?_
     rw [Int.toNat_natCast, List.append_assoc, List.take_append_of_le_length (by simp; omega), List.take_take, Nat.min_self, ← List.map_take]
  ·have g1 := yF ((k : Int) < ((l.map rowD).length : Int)) (by omega)
   rw [p.done (by rw [hkp]; exact hge)]
   repeat' (refine yz ?_)
   refine go_frz 0 rfl ?_
   repeat' (first | refine yr [0] ?_ | exact zD)
theorem rL_app (a : List (List Int)) (x : List Int) : rL (a ++ [x]) = rL a ++ [.sl (iL x)] := by simp [rL]
end Go.Proofs.YtenpjlghikohmaaGreatDoor
namespace Go.Proofs.YtenpjlghikohmaaGreatDoor
set_option maxRecDepth 4000
open Go Go.Abs Go.Val Go.RowKit Go.Sort Go.Proofs Go.Proofs.Tryz
attribute [local go_sem] Oper.semAt_some
theorem lexZ_take {xs ys : List Int} {k : Nat} (h : ∀ j, j < k → xs[j]! = ys[j]!) (hx : k ≤ xs.length) (hy : k ≤ ys.length) : lexZ xs ys = lexZ (xs.drop k) (ys.drop k) := by
 have e : xs.take k = ys.take k := by
  refine List.ext_getElem? fun j => ?_
  rcases Nat.lt_or_ge j k with hj | hj
  ·have := h j hj
   rw [List.getElem?_take_of_lt hj, List.getElem?_take_of_lt hj, List.getElem?_eq_getElem (by omega), List.getElem?_eq_getElem (by omega)]
   rw [getElem!_pos xs j (by omega), getElem!_pos ys j (by omega)] at this
   rw [this]
  ·rw [List.getElem?_eq_none (by rw [List.length_take]; omega), List.getElem?_eq_none (by rw [List.length_take]; omega)]
 conv => lhs; rw [← List.take_append_drop k xs, ← List.take_append_drop k ys, e]
 induction ys.take k with
 | nil => rfl
 | cons x r ih => rw [List.cons_append, List.cons_append, lexZ_eq, ih]
theorem lexZ_at {xs ys : List Int} {k : Nat} (h : ∀ j, j < k → xs[j]! = ys[j]!) (hx : k < xs.length) (hy : k < ys.length) (hc : Lib.compareInt xs[k]! ys[k]! ≠ 0) : lexZ xs ys = Lib.compareInt xs[k]! ys[k]! := by
 rw [lexZ_take h (by omega) (by omega), List.drop_eq_getElem_cons hx, List.drop_eq_getElem_cons hy]
 rw [getElem!_pos xs k hx, getElem!_pos ys k hy] at *
 unfold Lib.compareInt at *
 rcases Int.lt_trichotomy xs[k] ys[k] with g | g | g
 ·rw [lexZ_lt g, if_pos g]
 ·rw [g] at hc; simp at hc
 ·rw [lexZ_gt g, if_neg (by omega), if_pos g]
theorem lexZ_nil_r {xs : List Int} (h : xs ≠ []) : lexZ xs [] = 1 := by
 cases xs with
 | nil => exact absurd rfl h
 | cons => rfl
set_option maxRecDepth 100000 in
set_option maxHeartbeats 4000000 in
theorem compare_calls (b1 o1 c b2 o2 d : Nat) (xs ys : List Int) (w : World) (hbig1 : xs.length ≤ 9223372036854775807) (hbig2 : ys.length ≤ 9223372036854775807)
  (hc1 : ∀ j, j < xs.length → w.cell? ⟨b1, o1 + j, none⟩ = some (.int .i64 xs[j]!)) (hc2 : ∀ j, j < ys.length → w.cell? ⟨b2, o2 + j, none⟩ = some (.int .i64 ys[j]!)) :
  Calls Tryz.prog 64 #[.slice (some ⟨b1, o1, none⟩) xs.length c, .slice (some ⟨b2, o2, none⟩) ys.length d] w fun e w' => e = .returned (.int .i64 (lexZ xs ys)) ∧ ∃ q, w' = w.drewN q := by
 go_enter func64, ntmps64
 go_wp2
 go_loopg [11] xs.length (fun g s11 wr => ∃ k q : Nat, k ≤ xs.length ∧ xs.length - k ≤ g ∧ s11 = .int .i64 k ∧ wr = w.drewN q ∧ k ≤ ys.length ∧ Aside (∀ j, j < k → xs[j]! = ys[j]!))
 case atStart => exact ⟨0, 0, Nat.zero_le _, by omega, rfl, rfl, Nat.zero_le _, fun j hj => absurd hj (Nat.not_lt_zero _)⟩
 case round =>
  obtain ⟨k, q, hk, hg, rfl, rfl, hky, A⟩ := hrel
  by_cases hlt : k < xs.length
  ·have g1 : w.cell? ⟨b1, o1 + k, none⟩ = some (.int .i64 xs[k]!) := hc1 k hlt
   by_cases hly : k < ys.length
   ·have g2 : w.cell? ⟨b2, o2 + k, none⟩ = some (.int .i64 ys[k]!) := hc2 k hly
    have hat := fun hc => lexZ_at A.out hlt hly hc
    clear hc1 hc2
    generalize hxk : xs[k]! = x at g1 hat
    generalize hyk : ys[k]! = y at g2 hat
    have B : Aside (xs[k]! = x ∧ ys[k]! = y) := ⟨hxk, hyk⟩
    clear hxk hyk
    have hz : Lib.compareInt x y = 0 → x = y := fun h => by
     unfold Lib.compareInt at h
     rcases Int.lt_trichotomy x y with g | g | g
     ·rw [if_pos g] at h; simp at h
     ·exact g
     ·rw [if_neg (by omega), if_pos g] at h; simp at h
    have hcon := fun W => Tryz.cmp_Compare_int x y W
    generalize hR : Lib.compareInt x y = R at hcon hat hz
    by_cases hR0 : R = 0
    ·subst hR0
     have hxy : Aside (x = y) := hz rfl
     clear hat hz
     go_wp2_with (go_at_call 52; refine (hcon _).mono ?_; rintro e w' ⟨rfl, rfl⟩)
     go_roundg (xs.length - (k + 1))
     case measure => omega
     case rel =>
      refine ⟨k + 1, q, by omega, by omega, by go_num, rfl, by omega, (show Aside _ from fun j hj => ?_)⟩
      by_cases e : j = k
      ·subst e
       rw [B.out.1, B.out.2]; exact hxy.out
      ·exact A.out j (by omega)
    ·have hat : Aside (lexZ xs ys = R) := hat hR0
     clear hz
     go_wp2_with (go_at_call 52; refine (hcon _).mono ?_; rintro e w' ⟨rfl, rfl⟩)
     go_ret
     refine ⟨?_, q, rfl⟩
     rw [hat.out]
     rfl
   ·have hlx : lexZ xs ys = 1 := by
     rw [lexZ_take A.out hk hky, List.drop_eq_nil_of_le (by omega : ys.length ≤ k)]
     exact lexZ_nil_r (by rw [ne_eq, List.drop_eq_nil_iff]; omega)
    clear hc1 hc2
    go_wp2
    go_ret
    refine ⟨?_, q, rfl⟩
    rw [hlx]
    rfl
  ·have hk2 : k = xs.length := by omega
   have hlx : lexZ xs ys = if xs.length < ys.length then -1 else 0 := by
    rw [lexZ_take A.out hk hky, List.drop_eq_nil_of_le (by omega : xs.length ≤ k)]
    by_cases h : xs.length < ys.length
    ·rw [if_pos h]
     cases hd : ys.drop k with
     | nil => rw [List.drop_eq_nil_iff] at hd; omega
     | cons => rfl
    ·rw [if_neg h, List.drop_eq_nil_of_le (by omega)]; rfl
   clear hc1 hc2
   by_cases h : xs.length < ys.length
   ·go_wp2
    go_ret
    refine ⟨?_, q, rfl⟩
    rw [hlx, if_pos h]
    rfl
   ·go_wp2
    go_ret
    refine ⟨?_, q, rfl⟩
    rw [hlx, if_neg h]
    rfl
set_option maxRecDepth 100000 in
set_option maxHeartbeats 4000000 in
theorem compare_calls0 (p1 p2 : Option Addr) (c d : Nat) (ys : List Int) (w : World) (hbig2 : ys.length ≤ 9223372036854775807) :
  Calls Tryz.prog 64 #[.slice p1 0 c, .slice p2 ys.length d] w fun e w' => e = .returned (.int .i64 (lexZ [] ys)) ∧ ∃ q, w' = w.drewN q := by
 have hlx : lexZ [] ys = if 0 < ys.length then -1 else 0 := by cases ys <;> rfl
 go_enter func64, ntmps64
 go_wp2
 refine wp_loop_rounds 1 ?_
 rw [rounds_succ]
 by_cases h : 0 < ys.length
 ·go_wp2
  go_ret
  refine ⟨?_, 0, rfl⟩
  rw [hlx, if_pos h]
  rfl
 ·go_wp2
  go_ret
  refine ⟨?_, 0, rfl⟩
  rw [hlx, if_neg h]
  rfl
set_option maxRecDepth 100000 in
set_option maxHeartbeats 4000000 in
theorem compare_calls1 (b1 o1 c : Nat) (p2 : Option Addr) (d : Nat) (xs : List Int) (w : World) (hne : xs ≠ []) (hbig1 : xs.length ≤ 9223372036854775807)
  (hc1 : ∀ j, j < xs.length → w.cell? ⟨b1, o1 + j, none⟩ = some (.int .i64 xs[j]!)) :
  Calls Tryz.prog 64 #[.slice (some ⟨b1, o1, none⟩) xs.length c, .slice p2 0 d] w fun e w' => e = .returned (.int .i64 (lexZ xs [])) ∧ ∃ q, w' = w.drewN q := by
 have hpos : 0 < xs.length := List.length_pos_iff.2 hne
 have g1 : w.cell? ⟨b1, o1 + 0, none⟩ = some (.int .i64 xs[0]!) := hc1 0 hpos
 have g2 : w.cell? ⟨b1, o1, none⟩ = some (.int .i64 xs[0]!) := g1
 generalize xs[0]! = x at g1 g2
 clear hc1
 have hlx := lexZ_nil_r hne
 go_enter func64, ntmps64
 go_wp2
 refine wp_loop_rounds 1 ?_
 rw [rounds_succ]
 go_wp2
 go_ret
 refine ⟨?_, 0, rfl⟩
 rw [hlx]
 rfl
theorem compare_rd {w : World} {F : Nat → Prop} {xs ys : List Int} {u v : Value} (hx : Rd w F (.sl (iL xs)) u) (hy : Rd w F (.sl (iL ys)) v) :
  Calls Tryz.prog 64 #[u, v] w fun e w' => e = .returned (.int .i64 (lexZ xs ys)) ∧ ∃ q, w' = w.drewN q := by
 have key : ∀ {zs : List Int} {v : Value}, Rd w F (.sl (iL zs)) v → zs.length ≤ 9223372036854775807 ∧ ((zs = [] ∧ ∃ p c, v = .slice p 0 c) ∨ ∃ b o c, v = .slice (some ⟨b, o, none⟩) zs.length c ∧ zs ≠ [] ∧ ∀ j, j < zs.length → w.cell? ⟨b, o + j, none⟩ = some (.int .i64 zs[j]!)) := by
  intro zs v h
  rcases Rd.sl_inv h with ⟨h0, rfl⟩ | ⟨size, ad, cap, rfl, h1, h2, h3, h4, h5, h6⟩
  ·have : zs = [] := by simpa [iL] using h0
   subst this
   exact ⟨by simp, .inl ⟨rfl, _, _, rfl⟩⟩
  ·have hl : (iL zs).length = zs.length := iL_len zs
   rw [hl] at h1 ⊢
   refine ⟨by unfold maxLen at h2; omega, ?_⟩
   by_cases hne : zs = []
   ·subst hne
    exact .inl ⟨rfl, _, _, rfl⟩
   ·have hlp : 0 < zs.length := List.length_pos_iff.2 hne
    have hsize : size = 1 := by
     have := h4 (.int zs[0]) (by simp [iL])
     exact this.symm
    subst hsize
    have hcell : ∀ j, j < zs.length → w.cell? (ad.add j) = some (.int .i64 zs[j]!) := by
     intro j hj
     obtain ⟨u, q1, q2⟩ := h6 j (.int zs[j]) 0 (.int zs[j]) (by simp [iL, hj]) rfl
     rw [Nat.mul_one, Nat.add_zero] at q1
     rw [q1, (Rd.imm_inv q2).1, getElem!_pos zs j hj]
    have hsp : ad.spot = none := spot_none (by have := hcell 0 hlp; rwa [show ad.add 0 = ad from rfl] at this)
    obtain ⟨ab, ao, asp⟩ := ad
    simp only at hsp
    subst hsp
    exact .inr ⟨ab, ao, cap, rfl, hne, fun j hj => by have := hcell j hj; rwa [add_mk] at this⟩
 obtain ⟨lx, kx⟩ := key hx
 obtain ⟨ly, ky⟩ := key hy
 rcases kx with ⟨rfl, p1, c1, rfl⟩ | ⟨b1, o1, c1, rfl, nx, hc1⟩
 ·rcases ky with ⟨rfl, p2, c2, rfl⟩ | ⟨b2, o2, c2, rfl, ny, hc2⟩
  ·exact compare_calls0 p1 p2 c1 c2 [] w ly
  ·exact compare_calls0 p1 _ c1 c2 ys w ly
 ·rcases ky with ⟨rfl, p2, c2, rfl⟩ | ⟨b2, o2, c2, rfl, ny, hc2⟩
  ·exact compare_calls1 b1 o1 c1 p2 c2 xs w nx lx hc1
  ·exact compare_calls b1 o1 c1 b2 o2 c2 xs ys w lx ly hc1 hc2
def clR (l : List (List Int)) (i : Nat) : Nat := min i (l.length - 1)
def cfR (l : List (List Int)) (i j : Nat) : Int := lexZ (l.getD (clR l i) []) (l.getD (clR l j) [])
theorem swoR (l : List (List Int)) : SWO (ltOf (cfR l)) where
 irrefl x := by unfold ltOf cfR; rw [lexZ_self]; rfl
 trans x y z h1 h2 := by
  unfold ltOf cfR at *
  rw [decide_eq_true_eq] at *
  exact lexZ_slt h1 (by omega)
 ntrans x y z h1 h2 := by
  unfold ltOf cfR at *
  rw [decide_eq_false_iff_not] at *
  have a1 := lexZ_anti (l.getD (clR l x) []) (l.getD (clR l y) [])
  have a2 := lexZ_anti (l.getD (clR l y) []) (l.getD (clR l z) [])
  have a3 := lexZ_anti (l.getD (clR l x) []) (l.getD (clR l z) [])
  have := lexZ_tr (l.getD (clR l z) []) (l.getD (clR l y) []) (l.getD (clR l x) []) (by omega) (by omega)
  omega
def pdR (l : List (List Int)) : Array Nat := pdq (ltOf (cfR l)) (List.range l.length).toArray 0 l.length (Lib.bitLen l.length) true true
def srtR (l : List (List Int)) : List (List Int) := (pdR l).toList.map fun i => l.getD (clR l i) []
theorem range_getD (l : List (List Int)) : (List.range l.length).map (fun i => l.getD (clR l i) []) = l := by
 refine List.ext_getElem? fun i => ?_
 rw [List.getElem?_map]
 rcases Nat.lt_or_ge i l.length with h | h
 ·rw [List.getElem?_range h, Option.map_some, List.getElem?_eq_getElem h]
  rw [show clR l i = i by unfold clR; omega, List.getD_eq_getElem?_getD, List.getElem?_eq_getElem h]
  rfl
 ·rw [List.getElem?_eq_none h, List.getElem?_eq_none (by simpa using h)]
  rfl
theorem pdR_ok (l : List (List Int)) : (pdR l).size = l.length ∧ (pdR l).toList.Perm (List.range l.length) ∧ (srtR l).Perm l ∧ (srtR l).length = l.length ∧ (srtR l).Pairwise fun a b => lexZ a b ≤ 0 := by
 have h := pdq_sorts (ltOf (cfR l)) (swoR l) (List.range l.length).toArray 0 l.length (Lib.bitLen l.length) true true (Nat.zero_le _) (by simp) (Or.inl rfl)
 obtain ⟨⟨h1, -, h3⟩, h4⟩ := h
 have hs : (pdR l).size = l.length := by unfold pdR; rw [h1]; simp
 have hp : (pdR l).toList.Perm (List.range l.length) := by
  have e : ∀ (a : Array Nat), a.size = l.length → (a.extract 0 l.length).toList = a.toList := fun a ha => by simp [← ha]
  rw [e _ (by rw [h1]; simp), e _ (by simp)] at h3
  exact h3
 refine ⟨hs, hp, ?_, by unfold srtR; rw [List.length_map, Array.length_toList, hs], ?_⟩
 ·have := hp.map fun i => l.getD (clR l i) []
  rw [range_getD] at this
  exact this
 ·rw [List.pairwise_iff_getElem]
  intro i j hi hj hij
  have hi' : i < (pdR l).size := by unfold srtR at hi; simpa using hi
  have hj' : j < (pdR l).size := by unfold srtR at hj; simpa using hj
  have := h4 i j (Nat.zero_le _) hij (by omega)
  rw [show pdq (ltOf (cfR l)) (List.range l.length).toArray 0 l.length (Lib.bitLen l.length) true true = pdR l from rfl, getElem!_pos _ i hi', getElem!_pos _ j hj'] at this
  unfold ltOf cfR at this
  rw [decide_eq_false_iff_not] at this
  have a := lexZ_anti (l.getD (clR l (pdR l)[i]) []) (l.getD (clR l (pdR l)[j]) [])
  have e : ∀ k (hk : k < (srtR l).length) (hk' : k < (pdR l).size), (srtR l)[k] = l.getD (clR l (pdR l)[k]) [] := fun k hk hk' => by simp [srtR]
  rw [e i hi hi', e j hj hj']
  omega
theorem sortR_evS (l : List (List Int)) (hne : l ≠ []) (hsz : l.length ≤ 1000000) : EvS E 63 [.own 0, .d (.imm (.func (.func 64) #[] #[]))] [.row 46 1 (rL l)] (.tup []) [.row 46 1 (rL (srtR l))] := by
 intro w F σ vs hi hl hr
 match vs, hl with
 | [v0, v1], _ =>
  obtain ⟨b, c, n, e1, rfl⟩ := hr 0 _ _ rfl rfl
  obtain ⟨rfl, -⟩ := Rd.imm_inv (hr 1 _ v1 rfl rfl)
  obtain ⟨cs, g1, g2, g3, g4, g5, g6, g7, g8, g9, g10⟩ := hi.obs 0 _ _ rfl e1
  have hn : n = l.length := by rw [g3, rL_len]
  subst hn
  have hlp : 0 < l.length := List.length_pos_iff.2 hne
  have hcl : ∀ i, clR l i < l.length := fun i => by unfold clR; omega
  have hcsl : l.length ≤ cs.length := by rw [g2]; omega
  have hrg : ∀ j (h : j < l.length), ∃ v, cs[j]? = some v ∧ Rd w F (.sl (iL l[j])) v := fun j hj => by
   obtain ⟨v, q1, q2⟩ := g8 j (.sl (iL l[j])) 0 (.sl (iL l[j])) (by simp [rL, hj]) rfl
   rw [Nat.mul_one, Nat.add_zero] at q1
   exact ⟨v, q1, q2⟩
  obtain ⟨en, hen⟩ : ∃ en : Nat → Value, en = fun i => cs.getD (clR l i) (.int .i64 0) := ⟨_, rfl⟩
  have hrd : ∀ i, Rd w F (.sl (iL (l.getD (clR l i) []))) (en i) := fun i => by
   obtain ⟨v, q1, q2⟩ := hrg _ (hcl i)
   rw [hen]
   dsimp only
   rw [List.getD_eq_getElem?_getD, List.getD_eq_getElem?_getD, q1, List.getElem?_eq_getElem (hcl i)]
   exact q2
  have hH : Holds en w b 0 (List.range l.length).toArray := by
   intro j hj
   have hj' : j < l.length := by simpa using hj
   refine ⟨?_, by simp [World.frozen?, g1]⟩
   obtain ⟨v, q1, -⟩ := hrg j hj'
   have e3 : (List.range l.length).toArray[j]! = j := by rw [getElem!_pos _ j hj]; simp
   rw [e3, hen]
   dsimp only
   rw [show clR l j = j by unfold clR; omega, List.getD_eq_getElem?_getD, q1]
   simp only [World.cell?, g1, Nat.zero_add]
   simpa using q1
  have hgl : b < w.heap.size := (Array.getElem?_eq_some_iff.1 g1).1
  have eg : ∀ args w, (callFunc 64 args).run Tryz.prog w = .ok (.enter 64 args) w := enters_of func64 (by kernel_rfl) rfl
  have hgb0 : ∀ (m : Nat) (os : Array Obj) (dk : Array Nat), w.grownBy (sortWorld en w b 0 m dk os) (some b) := fun m os dk => by
   unfold sortWorld
   refine ⟨rfl, rfl, rfl, by simp, fun k hk hne => ?_⟩
   rw [heap_grow_old _ _ (by simpa using hk)]
   have : b ≠ k := fun e => hne (by rw [e])
   simp [putRow, mapBlock, Sort.ahead, Array.getElem?_modify, this]
  have hcmp : CmpReads Tryz.prog 64 #[] en (cfR l) b 0 (List.range l.length).toArray.size w := fun m os dk _ x y => by
   have hg := hgb0 m os dk
   have hk : ∀ k, F k → (sortWorld en w b 0 m dk os).heap[k]? = w.heap[k]? := fun k hk => hg.block k (hi.flt k hk) (fun e => by cases e; exact g10 hk)
   exact compare_rd ((hrd x).mono (fun _ h => h) hk) ((hrd y).mono (fun _ h => h) hk)
  have h1c : OneCell en := fun i => (hrd i).one rfl
  have hcon := Any.slices_SortFunc_eq Tryz.sortRow en h1c (cfR l) (swoR l) 64 #[] b 0 c (List.range l.length).toArray w eg hcmp.lays hH hgl (by simp; omega)
  change Calls Tryz.prog 63 _ _ _ at hcon
  simp only [List.size_toArray, List.length_range] at hcon
  obtain ⟨p0, p1, p2, p3, -⟩ := pdR_ok l
  refine hcon.mono ?_
  rintro e w' ⟨rfl, q, os, rfl⟩
  rw [show pdq (ltOf (cfR l)) (List.range l.length).toArray 0 l.length (Lib.bitLen l.length) true true = pdR l from rfl]
  have hgb := hgb0 q os (pdR l)
  have hhp : (sortWorld en w b 0 q (pdR l) os).heap[b]? = some (.cells (putCells en 0 (pdR l) cs.toArray) 46 (0, 0)) := by
   unfold sortWorld
   rw [heap_grow_old _ _ (by simpa using hgl)]
   simp [putRow, mapBlock, Sort.ahead, Array.getElem?_modify, g1, onCells]
  refine row_turned hi e1 hgb (putCells en 0 (pdR l) cs.toArray).toList (by simpa using hhp) (by simp [putCells, g2]) (by rw [rL_len, p3]) g4 g5 (fun x hx => ?_) (fun x hx c hc => ?_) fun i x j cd hx hc => ?_
  ·obtain ⟨u, -, rfl⟩ := List.mem_map.1 hx
   rfl
  ·obtain ⟨u, -, rfl⟩ := List.mem_map.1 hx
   rw [show (D.sl (iL u)).cells = [D.sl (iL u)] from rfl, List.mem_singleton] at hc
   subst hc
   rfl
  ·rw [rL, List.getElem?_map, Option.map_eq_some_iff] at hx
   obtain ⟨u, hu, rfl⟩ := hx
   rw [show (D.sl (iL u)).cells = [D.sl (iL u)] from rfl] at hc
   cases j with
   | zero =>
    simp at hc
    subst hc
    unfold srtR at hu
    rw [List.getElem?_map, Option.map_eq_some_iff] at hu
    obtain ⟨m, hm, rfl⟩ := hu
    refine ⟨en m, ?_, (hrd m).mono (fun _ h => h) fun k hk => hgb.block k (hi.flt k hk) (fun e => by cases e; exact g10 hk)⟩
    have hlt : i < (pdR l).size := by have := (List.getElem?_eq_some_iff.1 hm).1; simpa using this
    have hmi : (pdR l)[i] = m := by
     have := (List.getElem?_eq_some_iff.1 hm).2
     simpa using this
    rw [Nat.mul_one, Nat.add_zero, Array.getElem?_toList]
    have hcs : i < cs.length := by omega
    simp [putCells, hlt, hcs, hmi]
   | succ j => simp at hc
end Go.Proofs.YtenpjlghikohmaaGreatDoor
namespace Go.Proofs.YtenpjlghikohmaaGreatDoor
set_option maxRecDepth 4000
open Go Go.Abs Go.Val Go.RowKit Go.Proofs.Tryz
attribute [local irreducible] go SGo HasBody Ev ExtEv EvO EvS RGo PGo
def idsE (e : Ed) : List Int := [e.src, e.id, e.dst]
def eR (a : AT) : List Ed → List (List Int)
 | [] => []
 | e :: r => (bif htF e a.ty && okTu a.vs (idsE e) then [tupTu a.vs (idsE e)] else []) ++ eR a r
def nR (a : AT) : List Nd → List (List Int)
 | [] => []
 | n :: r => (bif holdF n a then [[n.id]] else []) ++ nR a r
def rowsR (g : Gr) (a : AT) : List (List Int) := bif a.k == 3 then eR a g.edges else nR a g.nodes
def okR (g : Gr) (a : AT) : Bool := chkG g == 0 && shapeF a && namF28 a
def relF (g : Gr) (a : AT) : List (List Int) := bif okR g a then sorZ (rowsR g a) else []
def ariR (g : Gr) (a : AT) : Int := bif okR g a then ((vrsF a.vs).length : Int) else 0
theorem eR_len (a : AT) : ∀ l : List Ed, (eR a l).length ≤ l.length
 | [] => Nat.le_refl _
 | e :: r => by
  have := eR_len a r
  rw [eR, List.length_append, List.length_cons]
  cases htF e a.ty && okTu a.vs (idsE e) <;> simp <;> omega
theorem nR_len (a : AT) : ∀ l : List Nd, (nR a l).length ≤ l.length
 | [] => Nat.le_refl _
 | e :: r => by
  have := nR_len a r
  rw [nR, List.length_append, List.length_cons]
  cases holdF e a <;> simp <;> omega
theorem ari_one {k : Int} {n : Nat} (h : n = ariN k) (h0 : ariN k ≠ 0) (c : (k == 3) = false) : n = 1 := by
 unfold ariN at *
 rw [c] at h h0
 cases c1 : k == 1 <;> cases c2 : k == 2 <;> cases c4 : k == 4 <;> rw [c1, c2, c4] at h h0 <;> simp_all
theorem tup1 (v n : Int) : tupTu [v] [n] = [n] ∧ okTu [v] [n] = true := by
 have h1 : valTu [v] [n] v = n := by unfold valTu fiTu; simp [List.findIdx?_cons]
 refine ⟨?_, ?_⟩
 ·show ([v].map (valTu [v] [n])) = [n]
  rw [List.map_singleton, h1]
 ·unfold okTu
  rw [show List.range [v].length = [0] from rfl]
  simp [h1]
theorem chk_len {g : Gr} (h : chkG g = 0) : g.nodes.length ≤ 2000 ∧ g.edges.length ≤ 4000 := by
 unfold chkG at h
 cases c : decide (g.nodes.length > 2000) || decide (g.edges.length > 4000) with
 | true => rw [c] at h; simp at h
 | false =>
  rw [Bool.or_eq_false_iff] at c
  have c1 := of_decide_eq_false c.1
  have c2 := of_decide_eq_false c.2
  omega
abbrev oAtR (a : AT) : AObj := .var 58 (.w (.d (encAT a)))
abbrev oRs (x : X) : AObj := .var 40 (.w x)
abbrev oRn : AObj := .var 40 (.cs [.nilS])
def rsV (k : Nat) : List D → AObj
 | [] => oRn
 | _ :: _ => oRs (.own k)
abbrev rwR (l : List D) : AObj := .row 46 1 l
theorem add0t_evS (a : AT) (ids : List Int) (hl : ids.length = a.vs.length) (hn : a.vs.length ≤ 8) (ho : okTu a.vs ids = true) : EvS E 59 [.d (.sl (iL ids)), .ptr 0 0, .ptr 1 0] [oAtR a, oRn] (.tup []) [oAtR a, oRs (.own 2), rwR [rowD (tupTu a.vs ids)]] := by
 have h := tuple_ev a ids hl hn
 unfold tupDu at h
 rw [ho, cond_true] at h
 refine yn func59 ntmps59 fun _ _ _ _=>?_
 repeat' (first | refine yz ?_ | refine yp b60 h ?_ | (refine qS rfl ⟨by simp, fun d hd => by (obtain rfl := List.mem_singleton.1 hd; rfl), by (show (0 + 1) * 24 ≤ 140737488355328; omega), by (show 0 + 1 ≤ 9223372036854775807; omega)⟩ ?_) | refine yo [0, 1, 2])
theorem addf_evS (a : AT) (ids : List Int) (hl : ids.length = a.vs.length) (hn : a.vs.length ≤ 8) (ho : okTu a.vs ids = false) : EvS E 59 [.d (.sl (iL ids)), .ptr 0 0, .ptr 1 0] [oAtR a, oRn] (.tup []) [oAtR a, oRn] := by
 have h := tuple_ev a ids hl hn
 unfold tupDu at h
 rw [ho, cond_false] at h
 refine yn func59 ntmps59 fun _ _ _ _=>?_
 repeat' (first | refine yz ?_ | refine yp b60 h ?_ | refine yo [0, 1])
theorem add1t_evS (a : AT) (ids : List Int) (l : List D) (hl : ids.length = a.vs.length) (hn : a.vs.length ≤ 8) (ho : okTu a.vs ids = true) (hll : l.length ≤ 1000000) : EvS E 59 [.d (.sl (iL ids)), .ptr 0 0, .ptr 1 0] [oAtR a, oRs (.own 2), rwR l] (.tup []) [oAtR a, oRs (.own 3), .dead, rwR (l ++ [rowD (tupTu a.vs ids)])] := by
 have h := tuple_ev a ids hl hn
 unfold tupDu at h
 rw [ho, cond_true] at h
 refine yn func59 ntmps59 fun _ _ _ _=>?_
 repeat' (first | refine yz ?_ | refine yp b60 h ?_ | (refine qS rfl ⟨by simp, fun d hd => by (obtain rfl := List.mem_singleton.1 hd; rfl), by (show (l.length + 1) * 24 ≤ 140737488355328; omega), by (show l.length + 1 ≤ 9223372036854775807; omega)⟩ ?_) | refine yo [0, 1, 2, 3])
theorem addg_evS (a : AT) (ids : List Int) (l : List D) (hl : ids.length = a.vs.length) (hn : a.vs.length ≤ 8) (ho : okTu a.vs ids = false) : EvS E 59 [.d (.sl (iL ids)), .ptr 0 0, .ptr 1 0] [oAtR a, oRs (.own 2), rwR l] (.tup []) [oAtR a, oRs (.own 2), rwR l] := by
 have h := tuple_ev a ids hl hn
 unfold tupDu at h
 rw [ho, cond_false] at h
 refine yn func59 ntmps59 fun _ _ _ _=>?_
 repeat' (first | refine yz ?_ | refine yp b60 h ?_ | refine yo [0, 1, 2])
structure SRe (R : List (List Int)) (n : Nat) (rest : Nat → List (List Int)) where
 i : Nat
 o : List (List Int)
 hi : i ≤ n
 ho : o.length ≤ i
 ok : R = o ++ rest i
set_option maxHeartbeats 8000000 in
theorem rel_ev (g : Gr) (a : AT) (hn : ∀ n ∈ g.nodes, narP n.props) : Ev E 23 [encGr g, encAT a] (.d (encRL (ariR g a) (relF g a))) := by
 have hg := gcheck_ev g
 have hs := shape_ev a
 have hm := anamed_ev a
 obtain ⟨R, hR⟩ : ∃ R, encRL (ariR g a) (relF g a) = R := ⟨_, rfl⟩
 rw [hR]
 cases hok : okR g a with
 | false =>
  have e1 : R = .agg [.int 0, .sl []] := by rw [← hR]; unfold ariR relF; rw [hok]; rfl
  rw [e1]
  unfold okR at hok
  clear hR e1 hn
  generalize chkG g = z at *
  generalize shapeF a = s at *
  generalize namF28 a = m at *
  obtain ⟨k, vs, nm, ty, ⟨vk, vn, vd, vS, vl⟩⟩ := a
  cases c1 : z != 0 with
  | true =>
   refine ye2 func23 ntmps23 fun _ _ _=>?_
   repeat' (first | refine yz ?_ | refine yp b41 hg ?_ | refine yx ?_ | exact zD)
  | false =>
   have c1' : (z == 0) = true := by simpa using c1
   rw [c1', Bool.true_and] at hok
   cases s with
   | false =>
    refine ye2 func23 ntmps23 fun _ _ _=>?_
    repeat' (first | refine yz ?_ | refine yp b41 hg ?_ | refine yp b57 hs ?_ | refine yx ?_ | exact zD)
   | true =>
    rw [Bool.true_and] at hok
    subst hok
    refine ye2 func23 ntmps23 fun _ _ _=>?_
    repeat' (first | refine yz ?_ | refine yp b41 hg ?_ | refine yp b57 hs ?_ | refine yp b58 hm ?_ | refine yx ?_ | exact zD)
 | true =>
  have h0 := hok
  unfold okR at h0
  rw [Bool.and_eq_true, Bool.and_eq_true] at h0
  obtain ⟨⟨h1, h2⟩, h3⟩ := h0
  rw [h2] at hs
  rw [h3] at hm
  have h1 : chkG g = 0 := by simpa using h1
  rw [h1] at hg
  obtain ⟨s1, s2, s3⟩ := shape_arity h2
  have hlE : (g.edges.map encEd).length = g.edges.length := by simp
  have hlN : (g.nodes.map encNd).length = g.nodes.length := by simp
  have hbE := chk_len h1
  have hvl := vrs_len a.vs
  cases c3 : a.k == 3 with
  | true =>
   have hk3 : a.k = 3 := by simpa using c3
   have hv3 : a.vs.length = 3 := by rw [s1, hk3]; rfl
   have hRe : R = .agg [.int (((vrsF a.vs).map D.int).length : Int), .sl (rL (sorZ (eR a g.edges)))] := by
    rw [← hR]; unfold ariR relF encRL rowsR; rw [hok, c3, List.length_map]; rfl
   have h0t := fun ids h1 h2 => add0t_evS a ids h1 (by omega) h2
   have h0f := fun ids h1 h2 => addf_evS a ids h1 (by omega) h2
   have h1t := fun ids l h1 h2 h3 => add1t_evS a ids l h1 (by omega) h2 h3
   have h1f := fun ids l h1 h2 => addg_evS a ids l h1 (by omega) h2
   have hHT := fun e => hasType_ev e a.ty
   have hAV := avars_ev a (by omega)
   have hso := fun l h1 h2 => sortR_evS l h1 h2
   have hs0 := sortR0_evS 64
   have hco := fun l h => compactR_evS l h
   have hc0 := compactR0_ev 66
   rw [hRe]
   clear hR hRe
   obtain ⟨k, vs, nm, ty, ⟨vk, vn, vd, vS, vl⟩⟩ := a
   dsimp only at *
   refine ye2 func23 ntmps23 fun _ _ _=>?_
   repeat' (first | refine yz ?_ | refine yp b41 hg ?_ | refine yp b57 hs ?_ | refine yp b58 hm ?_ | refine go_makeFunc rfl rfl rfl rfl rfl ?_)
   refine go_loop_ (α := SRe (eR ⟨k, vs, nm, ty, .mk vk vn vd vS vl⟩ g.edges) g.edges.length (fun i => eR ⟨k, vs, nm, ty, .mk vk vn vd vS vl⟩ (g.edges.drop i))) (fun p => ⟨[(2, .ptr 0 0), (3, .ptr 1 0), (4, .ptr 2 0), (5, .ptr 3 0), (6, .clo 59 [.ptr 1 0, .ptr 3 0]), (30, .d (.sl (g.edges.map encEd))), (31, .d (.int (g.edges.map encEd).length)), (32, .d (.int p.i))], [.var 38 (.w (.d (encGr g))), oAtR ⟨k, vs, nm, ty, .mk vk vn vd vS vl⟩, .var 63 (.cs [.d (.int 0), .nilS]), rsV 4 (rL p.o)] ++ rowO 46 1 (rL p.o)⟩) (fun p => g.edges.length - p.i) ⟨0, [], by omega, by simp, rfl⟩ (zle 4) ?_
   rintro ⟨i, o, hi, ho, ok⟩
   dsimp only
   have hol : (rL o).length ≤ 1000000 := by rw [rL_len]; omega
   rcases Nat.lt_or_ge i g.edges.length with hlt | hge
   ·have g1 : decide ((i : Int) < ((g.edges.map encEd).length : Int)) = true := by rw [hlE]; simpa using hlt
    have hx0 := List.getElem?_eq_getElem hlt
    generalize g.edges[i] = x at hx0
    have hx : (g.edges.map encEd)[((i : Nat) : Int).toNat]? = some (encEd x) := map_at (f := encEd) hx0
    have hht := hHT x
    have hids : [x.src, x.id, x.dst].length = vs.length := by rw [hv3]; rfl
    rw [drop_at hx0, eR] at ok
    dsimp only at ok
    rw [show idsE x = [x.src, x.id, x.dst] from rfl] at ok
    have happ := rL_app o (tupTu vs [x.src, x.id, x.dst])
    cases c1 : htF x ty with
    | true =>
     rw [c1] at hht ok
     rw [Bool.true_and] at ok
     cases c2 : okTu vs [x.src, x.id, x.dst] with
     | true =>
      rw [c2, cond_true, ← List.append_assoc] at ok
      have a0 := h0t _ hids c2
      have a1 := fun l => h1t _ l hids c2
      obtain ⟨x1, x2, x3, x4, x5⟩ := x
      generalize hq : rL o = oo at *
      match oo, hol with
      | [], hol =>
       dsimp only [rsV, rowO]
       repeat' (first | refine yz ?_ | refine yi (encEd ⟨x1, x2, x3, x4, x5⟩) hx ?_ | refine yp b61 hht ?_ | refine go_callS [1, 3] rfl rfl rfl rfl (FnX.clo _ _) b59 (a0) rfl rfl rfl rfl rfl ?_)
       refine go_stop ?_
       refine ⟨⟨i + 1, o ++ [tupTu vs [x2, x1, x3]], by omega, by simp; omega, ok⟩, by dsimp only; omega, ?_⟩
       dsimp only
       rw [happ]
       exact (zren [0, 1, 2, 3, 5])
      | o0 :: or, hol =>
       have a1 := a1 (o0 :: or) hol
       dsimp only [rsV, rowO]
       repeat' (first | refine yz ?_ | refine yi (encEd ⟨x1, x2, x3, x4, x5⟩) hx ?_ | refine yp b61 hht ?_ | refine go_callS [1, 3, 4] rfl rfl rfl rfl (FnX.clo _ _) b59 (a1) rfl rfl rfl rfl rfl ?_)
       refine go_stop ?_
       refine ⟨⟨i + 1, o ++ [tupTu vs [x2, x1, x3]], by omega, by simp; omega, ok⟩, by dsimp only; omega, ?_⟩
       dsimp only
       rw [happ]
       exact (zren [0, 1, 2, 3, 6])
     | false =>
      rw [c2, cond_false, List.nil_append] at ok
      have a0 := h0f _ hids c2
      have a1 := fun l => h1f _ l hids c2
      obtain ⟨x1, x2, x3, x4, x5⟩ := x
      generalize hq : rL o = oo at *
      match oo, hol with
      | [], hol =>
       dsimp only [rsV, rowO]
       repeat' (first | refine yz ?_ | refine yi (encEd ⟨x1, x2, x3, x4, x5⟩) hx ?_ | refine yp b61 hht ?_ | refine go_callS [1, 3] rfl rfl rfl rfl (FnX.clo _ _) b59 (a0) rfl rfl rfl rfl rfl ?_)
       refine go_stop ?_
       refine ⟨⟨i + 1, o, by omega, by omega, ok⟩, by dsimp only; omega, ?_⟩
       dsimp only
       rw [hq]
       exact (zle 4)
      | o0 :: or, hol =>
       have a1 := a1 (o0 :: or)
       dsimp only [rsV, rowO]
       repeat' (first | refine yz ?_ | refine yi (encEd ⟨x1, x2, x3, x4, x5⟩) hx ?_ | refine yp b61 hht ?_ | refine go_callS [1, 3, 4] rfl rfl rfl rfl (FnX.clo _ _) b59 (a1) rfl rfl rfl rfl rfl ?_)
       refine go_stop ?_
       refine ⟨⟨i + 1, o, by omega, by omega, ok⟩, by dsimp only; omega, ?_⟩
       dsimp only
       rw [hq]
       exact (zle 5)
    | false =>
     rw [c1] at hht ok
     rw [Bool.false_and, cond_false, List.nil_append] at ok
     generalize hq : rL o = oo at *
     match oo, hol with
     | [], hol =>
      dsimp only [rsV, rowO]
      repeat' (first | refine yz ?_ | refine yi (encEd x) hx ?_ | refine yp b61 hht ?_)
      refine go_stop ?_
      refine ⟨⟨i + 1, o, by omega, by omega, ok⟩, by dsimp only; omega, ?_⟩
      dsimp only
      rw [hq]
      exact (zle 4)
     | o0 :: or, hol =>
      dsimp only [rsV, rowO]
      repeat' (first | refine yz ?_ | refine yi (encEd x) hx ?_ | refine yp b61 hht ?_)
      refine go_stop ?_
      refine ⟨⟨i + 1, o, by omega, by omega, ok⟩, by dsimp only; omega, ?_⟩
      dsimp only
      rw [hq]
      exact (zle 5)
   ·have g1 : decide ((i : Int) < ((g.edges.map encEd).length : Int)) = false := by rw [hlE]; simp; omega
    rw [List.drop_eq_nil_of_le hge] at ok
    rw [show eR ⟨k, vs, nm, ty, .mk vk vn vd vS vl⟩ [] = [] from rfl, List.append_nil] at ok
    rw [ok]
    cases o with
    | nil =>
     have e0 : sorZ ([] : List (List Int)) = [] := sorZ_short (by simp)
     rw [e0]
     dsimp only [rsV, rowO, rL, List.map]
     repeat' (first | refine yq 19 [6] ?_ | refine yf 19 0 6 ?_ | refine yw ?_ | refine rgN ?_ | refine yz ?_ | refine yc [] b63 (hs0) ?_ | refine yp b53 hAV ?_ | refine yp b65 hc0 ?_ | exact zD)
    | cons o0 or =>
     obtain ⟨p0, p1, p2, p3, p4⟩ := pdR_ok (o0 :: or)
     have hso := hso (o0 :: or) (by simp) (by have := rL_len (o0 :: or); omega)
     have hco := hco (srtR (o0 :: or)) (by rw [p3]; have := rL_len (o0 :: or); omega)
     rw [uniF_sorZ p2 p4] at hco
     rw [show (rL (o0 :: or)) = rowD o0 :: rL or from rfl] at hso ⊢
     generalize hS : srtR (o0 :: or) = S at *
     dsimp only [rsV, rowO]
     repeat' (first | refine yu 19 [4,6] [2,4] ?_ | refine yk 19 0 3 ?_ | refine yf 19 3 1 ?_ | refine yf 19 5 1 ?_ | refine yw ?_ | refine rgN ?_ | refine yv ?_ | refine yz ?_ | refine yc [4] b63 (hso) ?_ | refine yp b53 hAV ?_ | refine rgCallS [4] (id := 19) (i := 4) rfl rfl rfl rfl rfl (FnX.plain _) b65 (hco) rfl rfl rfl rfl rfl (by repeat (first | exact trivial | refine ⟨⟨rfl, rfl⟩, ?_⟩ | refine ⟨trivial, ?_⟩)) ?_ | exact zD)
  | false =>
   have hv1 : a.vs.length = 1 := ari_one s1 s2 c3
   have hRe : R = .agg [.int (((vrsF a.vs).map D.int).length : Int), .sl (rL (sorZ (nR a g.nodes)))] := by
    rw [← hR]; unfold ariR relF encRL rowsR; rw [hok, c3, List.length_map]; rfl
   have h0t := fun ids h1 h2 => add0t_evS a ids h1 (by omega) h2
   have h0f := fun ids h1 h2 => addf_evS a ids h1 (by omega) h2
   have h1t := fun ids l h1 h2 h3 => add1t_evS a ids l h1 (by omega) h2 h3
   have h1f := fun ids l h1 h2 => addg_evS a ids l h1 (by omega) h2
   have hHT := fun n hnm => holds_ev n a (hn n hnm)
   have hAV := avars_ev a (by omega)
   have hso := fun l h1 h2 => sortR_evS l h1 h2
   have hs0 := sortR0_evS 64
   have hco := fun l h => compactR_evS l h
   have hc0 := compactR0_ev 66
   rw [hRe]
   clear hR hRe
   obtain ⟨k, vs, nm, ty, ⟨vk, vn, vd, vS, vl⟩⟩ := a
   dsimp only at *
   refine ye2 func23 ntmps23 fun _ _ _=>?_
   repeat' (first | refine yz ?_ | refine yp b41 hg ?_ | refine yp b57 hs ?_ | refine yp b58 hm ?_ | refine go_makeFunc rfl rfl rfl rfl rfl ?_)
   refine go_loop_ (α := SRe (nR ⟨k, vs, nm, ty, .mk vk vn vd vS vl⟩ g.nodes) g.nodes.length (fun i => nR ⟨k, vs, nm, ty, .mk vk vn vd vS vl⟩ (g.nodes.drop i))) (fun p => ⟨[(2, .ptr 0 0), (3, .ptr 1 0), (4, .ptr 2 0), (5, .ptr 3 0), (6, .clo 59 [.ptr 1 0, .ptr 3 0]), (51, .d (.sl (g.nodes.map encNd))), (52, .d (.int (g.nodes.map encNd).length)), (53, .d (.int p.i))], [.var 38 (.w (.d (encGr g))), oAtR ⟨k, vs, nm, ty, .mk vk vn vd vS vl⟩, .var 63 (.cs [.d (.int 0), .nilS]), rsV 4 (rL p.o)] ++ rowO 46 1 (rL p.o)⟩) (fun p => g.nodes.length - p.i) ⟨0, [], by omega, by simp, rfl⟩ (zle 4) ?_
   rintro ⟨i, o, hi, ho, ok⟩
   dsimp only
   have hol : (rL o).length ≤ 1000000 := by rw [rL_len]; omega
   rcases Nat.lt_or_ge i g.nodes.length with hlt | hge
   ·have g1 : decide ((i : Int) < ((g.nodes.map encNd).length : Int)) = true := by rw [hlN]; simpa using hlt
    have hx0 := List.getElem?_eq_getElem hlt
    generalize g.nodes[i] = x at hx0
    have hx : (g.nodes.map encNd)[((i : Nat) : Int).toNat]? = some (encNd x) := map_at (f := encNd) hx0
    have hht := hHT x (List.mem_of_getElem? hx0)
    have hids : [x.id].length = vs.length := by rw [hv1]; rfl
    obtain ⟨v0, hv0⟩ : ∃ v0, vs = [v0] := List.length_eq_one_iff.1 hv1
    have c2 : okTu vs [x.id] = true := by rw [hv0]; exact (tup1 v0 x.id).2
    have ht1 : tupTu vs [x.id] = [x.id] := by rw [hv0]; exact (tup1 v0 x.id).1
    rw [drop_at hx0, nR, ← ht1] at ok
    have happ := rL_app o (tupTu vs [x.id])
    cases c1 : holdF x ⟨k, vs, nm, ty, .mk vk vn vd vS vl⟩ with
    | true =>
     rw [c1] at hht ok
     rw [cond_true, ← List.append_assoc] at ok
     have a0 := h0t _ hids c2
     have a1 := fun l => h1t _ l hids c2
     obtain ⟨x1, x2, x3⟩ := x
     generalize hq : rL o = oo at *
     match oo, hol with
     | [], hol =>
      dsimp only [rsV, rowO]
      repeat' (first | refine yz ?_ | refine yi (encNd ⟨x1, x2, x3⟩) hx ?_ | refine yp b62 hht ?_ | refine go_callS [1, 3] rfl rfl rfl rfl (FnX.clo _ _) b59 (a0) rfl rfl rfl rfl rfl ?_)
      refine go_stop ?_
      refine ⟨⟨i + 1, o ++ [tupTu vs [x1]], by omega, by simp; omega, ok⟩, by dsimp only; omega, ?_⟩
      dsimp only
      rw [happ]
      exact (zren [0, 1, 2, 3, 5])
     | o0 :: or, hol =>
      have a1 := a1 (o0 :: or) hol
      dsimp only [rsV, rowO]
      repeat' (first | refine yz ?_ | refine yi (encNd ⟨x1, x2, x3⟩) hx ?_ | refine yp b62 hht ?_ | refine go_callS [1, 3, 4] rfl rfl rfl rfl (FnX.clo _ _) b59 (a1) rfl rfl rfl rfl rfl ?_)
      refine go_stop ?_
      refine ⟨⟨i + 1, o ++ [tupTu vs [x1]], by omega, by simp; omega, ok⟩, by dsimp only; omega, ?_⟩
      dsimp only
      rw [happ]
      exact (zren [0, 1, 2, 3, 6])
    | false =>
     rw [c1] at hht ok
     rw [cond_false, List.nil_append] at ok
     generalize hq : rL o = oo at *
     match oo, hol with
     | [], hol =>
      dsimp only [rsV, rowO]
      repeat' (first | refine yz ?_ | refine yi (encNd x) hx ?_ | refine yp b62 hht ?_)
      refine go_stop ?_
      refine ⟨⟨i + 1, o, by omega, by omega, ok⟩, by dsimp only; omega, ?_⟩
      dsimp only
      rw [hq]
      exact (zle 4)
     | o0 :: or, hol =>
      dsimp only [rsV, rowO]
      repeat' (first | refine yz ?_ | refine yi (encNd x) hx ?_ | refine yp b62 hht ?_)
      refine go_stop ?_
      refine ⟨⟨i + 1, o, by omega, by omega, ok⟩, by dsimp only; omega, ?_⟩
      dsimp only
      rw [hq]
      exact (zle 5)
   ·have g1 : decide ((i : Int) < ((g.nodes.map encNd).length : Int)) = false := by rw [hlN]; simp; omega
    rw [List.drop_eq_nil_of_le hge] at ok
    rw [show nR ⟨k, vs, nm, ty, .mk vk vn vd vS vl⟩ [] = [] from rfl, List.append_nil] at ok
    rw [ok]
    cases o with
    | nil =>
     have e0 : sorZ ([] : List (List Int)) = [] := sorZ_short (by simp)
     rw [e0]
     dsimp only [rsV, rowO, rL, List.map]
     repeat' (first | refine yq 19 [6] ?_ | refine yf 19 0 6 ?_ | refine yw ?_ | refine rgN ?_ | refine yz ?_ | refine yc [] b63 (hs0) ?_ | refine yp b53 hAV ?_ | refine yp b65 hc0 ?_ | exact zD)
    | cons o0 or =>
     obtain ⟨p0, p1, p2, p3, p4⟩ := pdR_ok (o0 :: or)
     have hso := hso (o0 :: or) (by simp) (by have := rL_len (o0 :: or); omega)
     have hco := hco (srtR (o0 :: or)) (by rw [p3]; have := rL_len (o0 :: or); omega)
     rw [uniF_sorZ p2 p4] at hco
     rw [show (rL (o0 :: or)) = rowD o0 :: rL or from rfl] at hso ⊢
     generalize hS : srtR (o0 :: or) = S at *
     dsimp only [rsV, rowO]
     repeat' (first | refine yu 19 [4,6] [2,4] ?_ | refine yk 19 0 3 ?_ | refine yf 19 3 1 ?_ | refine yf 19 5 1 ?_ | refine yw ?_ | refine rgN ?_ | refine yv ?_ | refine yz ?_ | refine yc [4] b63 (hso) ?_ | refine yp b53 hAV ?_ | refine rgCallS [4] (id := 19) (i := 4) rfl rfl rfl rfl rfl (FnX.plain _) b65 (hco) rfl rfl rfl rfl rfl (by repeat (first | exact trivial | refine ⟨⟨rfl, rfl⟩, ?_⟩ | refine ⟨trivial, ?_⟩)) ?_ | exact zD)
theorem okEd_s {p : Option Int} {g : Gr} {e : Ed} (h : okEd p g e = 0) : 1 ≤ e.id ∧ hasI g.nodes e.src = true ∧ hasI g.nodes e.dst = true := by
 have rest : (bif decide (e.id < 1) || decide (e.id ≥ g.ne) then (1 : Int) else bif !hasI g.nodes e.src || !hasI g.nodes e.dst then 10 else bif !nameF e.ty then 6 else partF [] e.props) = 0 → 1 ≤ e.id ∧ hasI g.nodes e.src = true ∧ hasI g.nodes e.dst = true := fun h => by
  cases hd : decide (e.id < 1) with
  | true => rw [hd] at h; simp at h
  | false =>
   have hd' := of_decide_eq_false hd
   rw [hd, Bool.false_or] at h
   cases h2 : decide (e.id ≥ g.ne) with
   | true => rw [h2] at h; simp at h
   | false =>
    rw [h2, cond_false] at h
    cases h3 : hasI g.nodes e.src with
    | false => rw [h3] at h; simp at h
    | true =>
     cases h4 : hasI g.nodes e.dst with
     | false => rw [h3, h4] at h; simp at h
     | true => exact ⟨by omega, rfl, rfl⟩
 cases p with
 | none => exact rest h
 | some p =>
  have h' : (bif decide (e.id ≤ p) then (26 : Int) else bif decide (e.id < 1) || decide (e.id ≥ g.ne) then (1 : Int) else bif !hasI g.nodes e.src || !hasI g.nodes e.dst then 10 else bif !nameF e.ty then 6 else partF [] e.props) = 0 := h
  cases hc : decide (e.id ≤ p) with
  | true => rw [hc] at h'; simp at h'
  | false => rw [hc, cond_false] at h'; exact rest h'
theorem edgesC_s {g : Gr} : ∀ {l : List Ed} {p : Option Int}, edgesC g p l = 0 → ∀ e ∈ l, 1 ≤ e.id ∧ hasI g.nodes e.src = true ∧ hasI g.nodes e.dst = true
 | [], _, _, e, h => by cases h
 | x :: r, p, h, e, he => by
  rw [edgesC] at h
  cases hc : okEd p g x != 0 with
  | true =>
   rw [hc, cond_true] at h
   rw [h] at hc
   simp at hc
  | false =>
   rw [hc, cond_false] at h
   rcases List.mem_cons.1 he with q | q
   ·rw [q]; exact okEd_s (by simpa using hc)
   ·exact edgesC_s h e q
end Go.Proofs.YtenpjlghikohmaaGreatDoor
