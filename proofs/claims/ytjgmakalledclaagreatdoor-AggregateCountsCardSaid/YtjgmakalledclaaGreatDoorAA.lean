/- What aggregate functions look at: the program's choice of values, sorted, each once; Sums of values and numbers as values, the program's; The program's aggregate functions; Groups of rows: the program's row of a group; the chapter's worked examples of Agg and Table. Conditions: each part's own, as it says. -/
import Derived.Test.YtjgmakalledclaaGreatDoorSV
import Derived.Test.YtjgmakalledclaaGreatDoorND
import Derived.Test.YtjgmakalledclaaGreatDoorMB
import Derived.Test.YtjgmakalledclaaGreatDoorMC
import Derived.Test.YtjgmakalledclaaGreatDoorGC
import Derived.Test.YtjgmakalledclaaGreatDoorFA
import Derived.Test.YtjgmakalledclaaGreatDoorGD
set_option linter.unusedVariables false
set_option linter.unusedSimpArgs false
namespace Go.Proofs.YtjgmakalledclaaGreatDoor
set_option maxRecDepth 4000
open Go Go.Abs Go.Val Go.RowKit Go.Proofs.Tryz
attribute [local irreducible] go SGo HasBody Ev ExtEv EvO EvS RGo
theorem pres1_ev (x y : V) : Ev E 97 [enc x, enc y] (.d (.bool (ordF y x == 0))) := by
 have q := Order_ev x y
 have e : (ordF y x == 0) = (ordF x y == 0) := by
  rw [ordF_anti x y]
  cases h : ordF x y == 0 with
  | true => rw [beq_iff_eq] at h ⊢; omega
  | false => rw [beq_eq_false_iff_ne] at h ⊢; omega
 rw [e]
 refine ye2 func97 ntmps97 fun _ _ _=>?_
 repeat' (first | refine yz ?_ | refine yp b37 q ?_ | exact zD)
theorem ins0_ev (fn : FuncId) : EvS E 183 [.d (.sl []), .d (.int 0), .d (.int 0), .d (.imm (.func (.func fn) #[] #[]))] [] (.tup []) [] := by
 refine yn func183 ntmps183 fun _ _ _ _=>?_
 repeat' (refine yz ?_)
 refine go_loop_ (α := Unit) (fun _ => ⟨[(2, .d (.int 0)), (8, .d (.int 1))], []⟩) (fun _ => 0) () (zle 0) ?_
 rintro -
 have g : decide ((1 : Int) < 0) = false := rfl
 repeat' (first | refine yz ?_ | refine yo [])
theorem sta0_ev (fn : FuncId) : EvS E 138 [.d (.sl []), .d (.int 0), .d (.imm (.func (.func fn) #[] #[]))] [] (.tup []) [] := by
 have q := ins0_ev fn
 refine yn func138 ntmps138 fun _ _ _ _=>?_
 repeat' (refine yz ?_)
 refine go_loop_ (α := Unit) (fun _ => ⟨[(0, .d (.sl [])), (1, .d (.int 0)), (2, .d (.imm (.func (.func fn) #[] #[]))), (6, .d (.int 20)), (7, .d (.int 0)), (8, .d (.int 20))], []⟩) (fun _ => 0) () (zle 0) ?_
 rintro -
 have g : decide ((20 : Int) ≤ 0) = false := rfl
 have g2 : decide ((20 : Int) < 0) = false := rfl
 repeat' (first | refine yz ?_ | refine yc [] b183 (q) ?_)
 refine go_loop_ (α := Unit) (fun _ => ⟨[(1, .d (.int 0)), (6, .d (.int 20))], []⟩) (fun _ => 0) () (zle 0) ?_
 rintro -
 repeat' (first | refine yz ?_ | refine yo [])
theorem Stable0_ev (fn : FuncId) : EvS E 95 [.d (.sl []), .d (.imm (.func (.func fn) #[] #[]))] [] (.tup []) [] := by
 have q := sta0_ev fn
 refine yn func95 ntmps95 fun _ _ _ _=>?_
 repeat' (first | refine yz ?_ | refine yc [] b138 (q) ?_ | refine yo [])
theorem Compact0_ev (fn : FuncId) : Ev E 96 [.sl [], .imm (.func (.func fn) #[] #[])] (.d (.sl [])) := by
 have g : decide ((0 : Int) < 2) = true := rfl
 refine ye2 func96 ntmps96 fun _ _ _=>?_
 repeat' (first | refine yz ?_ | exact zD)
set_option maxHeartbeats 2000000 in
theorem Compact_evS (l : List V) (hm : l.length ≤ 1152921504606846976) :
  EvS E 96 [.own 0, .d (.imm (.func (.func 97) #[] #[]))] [.row 35 5 (l.map enc)] (.d (.sl ((uniF ordF l).map enc))) [.dead] := by
 have hL : (l.map enc).length = l.length := by simp
 have hbb := b97
 by_cases hs : l.length < 2
 ·have g0 := yT (((l.map enc).length : Int) < 2) (by omega)
  rw [uniF_short hs]
  refine yd func96 ntmps96 fun _ _ _ _=>?_
  repeat' (refine yz ?_)
  refine go_frz 0 rfl ?_
  repeat' (first | refine yr [0] ?_ | exact zD)
 ·have g0 := yF (((l.map enc).length : Int) < 2) (by omega)
  refine yd func96 ntmps96 fun _ _ _ _=>?_
  repeat' (refine yz ?_)
  refine go_loop_ (α := CpT ordF l) (fun p => ⟨[(0, .own 0), (1, .d (.imm (.func (.func 97) #[] #[]))), (5, .d (.int p.k))], [.row 35 5 (l.map enc)]⟩) (fun p => l.length - p.k) (CpT.start (by omega)) (zle 1) ?_
  rintro p
  have h1 := p.h1
  have hk := p.hk
  obtain ⟨k, hkp⟩ : ∃ k, p.k = k := ⟨_, rfl⟩
  rw [hkp] at h1 hk
  rw [hkp]
  rcases Nat.lt_or_ge k l.length with hlt | hge
  ·have g1 := yT ((k : Int) < ((l.map enc).length : Int)) (by omega)
   have x1 := row_get (en := enc) (l := l) (i := (k : Int)) (p := k) hlt rfl
   have x2 := row_get (en := enc) (l := l) (i := (k : Int) - 1) (p := k - 1) (by omega) (by omega)
   have q := pres1_ev (atS l k) (atS l (k - 1))
   cases hc : ordF (atS l (k - 1)) (atS l k) == 0 with
   | false =>
    rw [hc] at q
    repeat' (first | refine yl x1 ?_ | refine yl x2 ?_ | refine yz ?_ | refine yp hbb q ?_)
    refine go_stop ?_
    refine ⟨p.next (by rw [hkp]; exact hlt) (by rw [hkp]; simpa using hc), by show l.length - (p.k + 1) < l.length - k; omega, ?_⟩
    show Le _ _ ⟨[(0, .own 0), (1, .d (.imm (.func (.func 97) #[] #[]))), (5, .d (.int ((p.k + 1 : Nat) : Int)))], _⟩
    rw [hkp]
    exact (zle 1)
   | true =>
    rw [hc] at q
    have hc0 : ordF (atS l (k - 1)) (atS l k) = 0 := by simpa using hc
    have e0 : ∃ p0 : CqT ordF l k, p0.k = k ∧ p0.k2 = 1 ∧ p0.l1 = l := by
     have h3 := CqT.start p (by rw [hkp]; exact hlt) (by rw [hkp]; exact hc0)
     subst hkp
     exact ⟨CqT.start p hlt hc0, rfl, rfl, rfl⟩
    obtain ⟨p0, e1, e2, e3⟩ := e0
    repeat' (first | refine yl x1 ?_ | refine yl x2 ?_ | refine yz ?_ | refine yp hbb q ?_ | refine go_sliceOwn rfl rfl rfl rfl rfl rfl rfl rfl rfl (by constructor <;> first | omega | (simp; omega) | decide) ?_)
    refine go_loop_ (α := CqT ordF l k) (fun p => ⟨[(0, .own 0), (1, .d (.imm (.func (.func 97) #[] #[]))), (5, .d (.int p.k)), (6, .sub 0 k (l.length - k) 5), (7, .d (.int p.k2))], [.row 35 5 (p.l1.map enc)]⟩) (fun p => l.length - p.k2) p0 (by
     rw [e1, e2, e3, ← hL]
     exact (zle 1)) ?_
    clear e1 e2 e3 p0
    rintro p2
    have hk2 := p2.hk2
    have hb := p2.hb
    have hkk := p2.hkk
    have hl1 := p2.hl
    have ha := p2.ha
    obtain ⟨k2, hk2p⟩ : ∃ k2, p2.k2 = k2 := ⟨_, rfl⟩
    obtain ⟨kk, hkkp⟩ : ∃ kk, p2.k = kk := ⟨_, rfl⟩
    obtain ⟨l1, hl1p⟩ : ∃ l1, p2.l1 = l1 := ⟨_, rfl⟩
    rw [hk2p] at hk2 hb hkk ha
    rw [hkkp] at hkk
    rw [hl1p] at hl1 ha
    rw [hk2p, hkkp, hl1p]
    have hL1 : (l1.map enc).length = l.length := by simp [hl1]
    rcases Nat.lt_or_ge k2 (l.length - k) with hlt2 | hge2
    ·have g3 := yT ((k2 : Int) < ((l.length - k : Nat) : Int)) (by omega)
     have y1 : (l1.map enc)[k + (k2 : Int).toNat]? = some (enc (atS l (k + k2))) := by
      rw [Int.toNat_natCast, List.getElem?_map, atS_get (by omega), ha _ (by omega)]; rfl
     have y2 : (l1.map enc)[k + ((k2 : Int) - 1).toNat]? = some (enc (atS l (k + k2 - 1))) := by
      rw [show k + ((k2 : Int) - 1).toNat = k + k2 - 1 by omega, List.getElem?_map, atS_get (by omega), ha _ (by omega)]; rfl
     have y3 := row_get (en := enc) (l := l1) (i := (kk : Int)) (p := kk) (by omega) rfl
     have q2 := pres1_ev (atS l (k + k2)) (atS l (k + k2 - 1))
     cases hd : ordF (atS l (k + k2 - 1)) (atS l (k + k2)) == 0 with
     | false =>
      rw [hd] at q2
      have hset : (l1.map enc).set (kk : Int).toNat (subD (enc (atS l1 kk)) 0 (enc (atS l (k + k2)))) = (l1.set kk (atS l (k + k2))).map enc := by
       rw [subV, Int.toNat_natCast, List.map_set]
      repeat' (first | refine yl y1 ?_ | refine yl y2 ?_ | refine qZ _ rfl rfl rfl rfl rfl rfl y3 rfl rfl rfl ?_ | refine yz ?_ | refine yp hbb q2 ?_ | refine go_indexSub rfl rfl rfl rfl rfl rfl rfl (by constructor <;> first | omega | (simp; omega) | decide) ?_)
      refine go_stop ?_
      refine ⟨p2.keep (by rw [hk2p]; omega) (by rw [hk2p]; simpa using hd), by show l.length - (p2.k2 + 1) < l.length - k2; omega, ?_⟩
      show Le _ ⟨_, [.row 35 5 ((l1.map enc).set (kk : Int).toNat (subD (enc (atS l1 kk)) 0 (enc (atS l (k + k2)))))]⟩ ⟨[(0, .own 0), (1, .d (.imm (.func (.func 97) #[] #[]))), (5, .d (.int ((p2.k + 1 : Nat) : Int))), (6, .sub 0 k (l.length - k) 5), (7, .d (.int ((p2.k2 + 1 : Nat) : Int)))], [.row 35 5 ((p2.l1.set p2.k (atS l (k + p2.k2))).map enc)]⟩
      rw [hset, hk2p, hkkp, hl1p]
      exact (zle 1)
     | true =>
      rw [hd] at q2
      repeat' (first | refine yl y1 ?_ | refine yl y2 ?_ | refine yz ?_ | refine yp hbb q2 ?_ | refine go_indexSub rfl rfl rfl rfl rfl rfl rfl (by constructor <;> first | omega | (simp; omega) | decide) ?_)
      refine go_stop ?_
      refine ⟨p2.drop (by rw [hk2p]; omega) (by rw [hk2p]; simpa using hd), by show l.length - (p2.k2 + 1) < l.length - k2; omega, ?_⟩
      show Le _ _ ⟨[(0, .own 0), (1, .d (.imm (.func (.func 97) #[] #[]))), (5, .d (.int ((p2.k : Nat) : Int))), (6, .sub 0 k (l.length - k) 5), (7, .d (.int ((p2.k2 + 1 : Nat) : Int)))], [.row 35 5 (p2.l1.map enc)]⟩
      rw [hk2p, hkkp, hl1p]
      exact (zle 1)
    ·have g3 := yF ((k2 : Int) < ((l.length - k : Nat) : Int)) (by omega)
     have hdone := p2.done (by rw [hk2p]; omega)
     rw [hkkp, hl1p] at hdone
     rw [hdone]
     repeat' (first | refine go_clear rfl rfl rfl rfl rfl rfl rfl rfl rfl (by omega) (go_frzS 0 rfl ?_) | refine yz ?_ | refine go_sliceOwn rfl rfl rfl rfl rfl rfl rfl rfl rfl (by constructor <;> first | omega | (simp; omega) | decide) ?_)
     refine qS rfl ?_ ?_
     ·refine ⟨⟨by omega, ?_⟩, ?_⟩
      ·simp only [List.length_append, List.length_take, List.length_map, hl1]
       omega
      ·refine ⟨_, rfl, fun d hd => ?_⟩
       rcases List.mem_append.1 hd with hd | hd
       ·rcases List.mem_append.1 hd with hd | hd
        ·obtain ⟨v, -, rfl⟩ := List.mem_map.1 (List.mem_of_mem_take hd)
         rfl
        ·rw [List.eq_of_mem_replicate hd]; rfl
       ·obtain ⟨v, -, rfl⟩ := List.mem_map.1 (List.mem_of_mem_drop hd)
        rfl
     repeat' (first | refine yz ?_ | refine yr [0] ?_)
     refine congrArg D.sl ?_
     rw [Int.toNat_natCast, List.append_assoc, List.take_append_of_le_length (by simp; omega), List.take_take, Nat.min_self, ← List.map_take]
  ·have g1 := yF ((k : Int) < ((l.map enc).length : Int)) (by omega)
   rw [p.done (by rw [hkp]; exact hge)]
   repeat' (refine yz ?_)
   refine go_frz 0 rfl ?_
   repeat' (first | refine yr [0] ?_ | exact zD)
structure PrT (l : List V) where
 i : Nat
 out : List V
 hi : i ≤ l.length
 ho : out.length ≤ i
 ht : presF l = out ++ presF (l.drop i)
theorem pres_cons (x : V) (r : List V) : presF (x :: r) = (bif prP x then [x] else []) ++ presF r := by
 unfold presF
 cases h : prP x <;> simp [List.filter_cons, h]
theorem encL_app (a : List V) (x : V) : encL (a ++ [x]) = encL a ++ [enc x] := by simp [encL_map]
theorem present_ev (b : Bool) (l : List V) (hm : l.length ≤ 2000000) : Ev E 50 [.bool b, .sl (encL l)] (.d (.sl (encL (pickF b l)))) := by
 have hle : (encL l).length = l.length := encL_len l
 generalize hR : pickF b l = R
 have hob := b37
 refine ye2 func50 ntmps50 fun _ _ _=>?_
 repeat' (refine yz ?_)
 refine go_loop_ (α := PrT l) (fun p => ⟨[(0, .d (.bool b)), (5, rowX (encL p.out)), (8, .d (.sl (encL l))), (9, .d (.int (encL l).length)), (10, .d (.int p.i))], rowO 35 5 (encL p.out)⟩) (fun p => l.length - p.i) ⟨0, [], by omega, by simp, rfl⟩ (zle 0) ?_
 rintro ⟨i, out, hi, ho, ht⟩
 dsimp only
 rcases Nat.lt_or_ge i l.length with hlt | hge
 ·have g1 : decide ((i : Int) < ((encL l).length : Int)) = true := by rw [hle]; simpa using hlt
  have hx0 := List.getElem?_eq_getElem hlt
  generalize l[i] = x at hx0
  have hx : (encL l)[(i : Int).toNat]? = some (enc x) := encL_get (by rw [Int.toNat_natCast]; exact hx0)
  have hv := Valid_ev ixOK x
  rw [drop_at hx0, pres_cons] at ht
  have hll : (encL out).length ≤ i := by rw [encL_len]; exact ho
  cases hk : x.k != 0 with
  | false =>
   have hp : prP x = false := by unfold prP; rw [hk]; rfl
   rw [hp, cond_false, List.nil_append] at ht
   generalize hq : encL out = eo at *
   match eo, hll with
   | [], hll =>
    dsimp only [rowX, rowO]
    repeat' (first | refine yz ?_ | refine yi (enc x) hx ?_ | refine yx ?_)
    refine go_stop ?_
    refine ⟨⟨i + 1, out, by omega, by omega, ht⟩, by dsimp only; omega, ?_⟩
    dsimp only
    rw [hq]
    exact (zle 0)
   | a :: q, hll =>
    dsimp only [rowX, rowO]
    repeat' (first | refine yz ?_ | refine yi (enc x) hx ?_ | refine yx ?_)
    refine go_stop ?_
    refine ⟨⟨i + 1, out, by omega, by omega, ht⟩, by dsimp only; omega, ?_⟩
    dsimp only
    rw [hq]
    exact (zle 1)
  | true =>
  cases ho2 : Val.okV x with
  | false =>
   rw [ho2] at hv
   have hp : prP x = false := by unfold prP; rw [hk, ho2]; rfl
   rw [hp, cond_false, List.nil_append] at ht
   generalize hq : encL out = eo at *
   match eo, hll with
   | [], hll =>
    dsimp only [rowX, rowO]
    repeat' (first | refine yz ?_ | refine yi (enc x) hx ?_ | refine yp b40 hv ?_ | refine yx ?_)
    refine go_stop ?_
    refine ⟨⟨i + 1, out, by omega, by omega, ht⟩, by dsimp only; omega, ?_⟩
    dsimp only
    rw [hq]
    exact (zle 0)
   | a :: q, hll =>
    dsimp only [rowX, rowO]
    repeat' (first | refine yz ?_ | refine yi (enc x) hx ?_ | refine yp b40 hv ?_ | refine yx ?_)
    refine go_stop ?_
    refine ⟨⟨i + 1, out, by omega, by omega, ht⟩, by dsimp only; omega, ?_⟩
    dsimp only
    rw [hq]
    exact (zle 1)
  | true =>
   rw [ho2] at hv
   have hp : prP x = true := by unfold prP; rw [hk, ho2]; rfl
   rw [hp, cond_true, ← List.append_assoc] at ht
   have happ := encL_app out x
   generalize hq : encL out = eo at *
   match eo, hll with
   | [], hll =>
    dsimp only [rowX, rowO]
    repeat' (first | refine yz ?_ | refine yi (enc x) hx ?_ | refine yp b40 hv ?_ | (refine qS rfl ⟨by simp, fun d hd => by (obtain rfl := List.mem_singleton.1 hd; rfl), by (show (0 + 1) * 64 ≤ 140737488355328; omega), by (show 0 + 1 ≤ 9223372036854775807; omega)⟩ ?_) | refine yx ?_)
    refine go_stop ?_
    refine ⟨⟨i + 1, out ++ [x], by omega, by simp; omega, ht⟩, by dsimp only; omega, ?_⟩
    dsimp only
    rw [happ]
    exact (zren [1])
   | a :: q, hll =>
    dsimp only [rowX, rowO]
    repeat' (first | refine yz ?_ | refine yi (enc x) hx ?_ | refine yp b40 hv ?_ | (refine qS rfl ⟨by simp, fun d hd => by (obtain rfl := List.mem_singleton.1 hd; rfl), by (show ((a :: q).length + 1) * 64 ≤ 140737488355328; omega), by (show (a :: q).length + 1 ≤ 9223372036854775807; omega)⟩ ?_) | refine yx ?_)
    refine go_stop ?_
    refine ⟨⟨i + 1, out ++ [x], by omega, by simp; omega, ht⟩, by dsimp only; omega, ?_⟩
    dsimp only
    rw [happ]
    exact (zren [2])
 ·have g1 : decide ((i : Int) < ((encL l).length : Int)) = false := by rw [hle]; simp; omega
  rw [List.drop_eq_nil_of_le hge] at ht
  have ht2 : presF l = out := by rw [ht]; simp [presF]
  have hR2 : pickF b l = bif b then uniF ordF (stS ordF out) else stS ordF out := by rw [← ht2]; rfl
  rw [hR] at hR2
  have q := StableV_evS 37 hob ordF (fun x y => Order_ev x y) out (by omega)
  have hS : (stS ordF out).length = out.length := (stS_ok ordC out).1.len
  have q2 := Compact_evS (stS ordF out) (by omega)
  have q3 := Stable0_ev 37
  have q4 := Compact0_ev 97
  cases out with
  | nil =>
   have e1 : stS ordF ([] : List V) = [] := List.length_eq_zero_iff.1 hS
   rw [e1] at hR2
   have e2 : R = [] := by rw [hR2]; cases b <;> rfl
   rw [e2]
   show go _ _ ⟨[(0, .d (.bool b)), (5, rowX []), (8, .d (.sl (encL l))), (9, .d (.int (encL l).length)), (10, .d (.int i))], rowO 35 5 []⟩ _
   dsimp only [rowX, rowO]
   cases hb : b with
   | true =>
    repeat' (first | refine yz ?_ | refine yc [] b95 (q3) ?_ | refine yp b96 q4 ?_ | exact zD)
   | false =>
    repeat' (first | refine yz ?_ | refine yc [] b95 (q3) ?_ | exact zD)
  | cons x r =>
   have e1 : encL (x :: r) = (x :: r).map enc := encL_map _
   rw [e1]
   have e2 : ∀ {t : Nat} {s : Nat}, rowX ((x :: r).map enc) = .own 0 ∧ rowO t s ((x :: r).map enc) = [.row t s ((x :: r).map enc)] := ⟨rfl, rfl⟩
   rw [(e2 (t := 0) (s := 0)).1, e2.2]
   cases hb : b with
   | true =>
    rw [hb, cond_true] at hR2
    rw [hR2, encL_map (uniF ordF (stS ordF (x :: r)))]
    repeat' (first | refine yz ?_ | refine yc [0] b95 (q) ?_ | refine yc [0] b96 (q2) ?_ | exact zD)
   | false =>
    rw [hb, cond_false] at hR2
    rw [hR2, encL_map (stS ordF (x :: r))]
    repeat' (first | refine yz ?_ | refine yc [0] b95 (q) ?_)
    refine go_frz 0 rfl ?_
    repeat' (first | refine qL rfl rfl ?_ | exact zD)
theorem number_ev (n d : Int) (b : Bool) : Ev E 51 [.agg [.int n, .int d], .bool b] (.d (enc (numF b n d))) := by
 have q := rat_ev n d
 unfold numF
 cases b with
 | true =>
  have g : (!true) = false := rfl
  refine ye2 func51 ntmps51 fun _ _ _=>?_
  repeat' (first | refine yz ?_ | refine yp b29 q ?_ | exact zD)
 | false =>
  have g : (!false) = true := rfl
  refine ye2 func51 ntmps51 fun _ _ _=>?_
  repeat' (first | refine yz ?_ | refine yp b32 null_ev ?_ | exact zD)
structure ToT (u : List V) where
 i : Nat
 n : Int
 d : Int
 hi : i ≤ u.length
 hB : sumB n d (u.drop i) = sumB 0 1 u
 hN : sumN n d (u.drop i) = sumN 0 1 u
 hD : sumD n d (u.drop i) = sumD 0 1 u
abbrev zFr : AObj := .var 58 (.cs [.d (.int 0), .d (.int 0)])
def totX (u : List V) : X := .tup [.agg [.int (bif sumB 0 1 u then sumN 0 1 u else 0), .int (bif sumB 0 1 u then sumD 0 1 u else 0)], .bool (sumB 0 1 u)]
theorem total_ev (u : List V) : Ev E 52 [.sl (encL u)] (totX u) := Ev.fit fun hfit => by
 obtain ⟨hma, -⟩ := fit_encL (hfit (.sl (encL u)) (by simp))
 have hle : (encL u).length = u.length := encL_len u
 unfold totX
 refine ye1 func52 ntmps52 fun _ _ _=>?_
 repeat' (refine yz ?_)
 refine go_loop_ (α := ToT u) (fun p => ⟨[(2, .ptr 0 0), (3, .d (.bool false)), (4, .ptr 1 0), (10, .d (.sl (encL u))), (11, .d (.int (encL u).length)), (12, .d (.int p.i))], [zFr, .var 58 (.w (.d (.agg [.int p.n, .int p.d])))]⟩) (fun p => u.length - p.i) ⟨0, 0, 1, by omega, rfl, rfl, rfl⟩ (zle 2) ?_
 rintro ⟨i, n, d, hi, hB, hN, hD⟩
 dsimp only
 rcases Nat.lt_or_ge i u.length with hlt | hge
 ·have g1 : decide ((i : Int) < ((encL u).length : Int)) = true := by rw [hle]; simpa using hlt
  have hx0 := List.getElem?_eq_getElem hlt
  generalize u[i] = x at hx0
  have hx : (encL u)[(i : Int).toNat]? = some (enc x) := encL_get (by rw [Int.toNat_natCast]; exact hx0)
  have q1 := Number_ev ixOK x
  have q2 := add_ev n d (numN x) (numD x)
  rw [drop_at hx0] at hB hN hD
  simp only [sumB, sumN, sumD] at hB hN hD
  cases h1 : isNum x with
  | false =>
   rw [h1, Bool.false_and] at hB
   rw [h1] at q1
   have e : sumB 0 1 u = false := hB.symm
   rw [e]
   have g : (!false) = true := rfl
   repeat' (first | refine yz ?_ | refine yi (enc x) hx ?_ | refine yp b73 q1 ?_ | exact zL)
  | true =>
   rw [h1, Bool.true_and] at hB
   rw [h1] at q1
   have g : (!true) = false := rfl
   cases h2 : addB n d (numN x) (numD x) with
   | false =>
    rw [h2, Bool.false_and] at hB
    rw [h2] at q2
    have e : sumB 0 1 u = false := hB.symm
    rw [e]
    have g9 : (!false) = true := rfl
    repeat' (first | refine yz ?_ | refine yi (enc x) hx ?_ | refine yp b73 q1 ?_ | refine yp b98 q2 ?_ | exact zL)
   | true =>
    rw [h2, Bool.true_and] at hB
    rw [h2] at q2
    repeat' (first | refine yz ?_ | refine yi (enc x) hx ?_ | refine yp b73 q1 ?_ | refine yp b98 q2 ?_)
    refine go_stop ?_
    exact ⟨⟨i + 1, _, _, by omega, hB, hN, hD⟩, by dsimp only; omega, (zle 2)⟩
 ·have g1 : decide ((i : Int) < ((encL u).length : Int)) = false := by rw [hle]; simp; omega
  rw [List.drop_eq_nil_of_le hge] at hB hN hD
  simp only [sumB, sumN, sumD] at hB hN hD
  rw [← hB, ← hN, ← hD]
  repeat' (first | refine yz ?_ | exact zL)
theorem nmCountE : (⟨#[99, 111, 117, 110, 116]⟩ : ByteArray).toList = nmCount := by decide +kernel
theorem nmSumE : (⟨#[115, 117, 109]⟩ : ByteArray).toList = nmSum := by decide +kernel
theorem nmCollectE : (⟨#[99, 111, 108, 108, 101, 99, 116]⟩ : ByteArray).toList = nmCollect := by decide +kernel
theorem nmMinE : (⟨#[109, 105, 110]⟩ : ByteArray).toList = nmMin := by decide +kernel
theorem nmMaxE : (⟨#[109, 97, 120]⟩ : ByteArray).toList = nmMax := by decide +kernel
theorem nmAvgE : (⟨#[97, 118, 103]⟩ : ByteArray).toList = nmAvg := by decide +kernel
theorem stS_mem {l : List V} {x : V} (h : x ∈ stS ordF l) : x ∈ l := (stS_ok ordC l).1.per.subset h
theorem pick_mem {b : Bool} {l : List V} {x : V} (h : x ∈ pickF b l) : x ∈ l := by
 have h1 : ∀ x ∈ srtF l, x ∈ l := fun x hx => (List.mem_filter.1 (stS_mem hx)).1
 cases b with
 | true => exact h1 x (uniF_mem _ _ x h)
 | false => exact h1 x h
theorem pick_len (b : Bool) (l : List V) : (pickF b l).length ≤ l.length := by
 have h1 : (srtF l).length ≤ l.length := by rw [srt_len]; exact List.length_filter_le _ _
 cases b with
 | true => exact Nat.le_trans (uniF_len _ _) h1
 | false => exact h1
theorem narU {l : List V} : (∀ x ∈ l, nar x = true) → l.length ≤ 2000000 → nar (vList l) = true := fun h hl => by
 have hL : ∀ l : List V, (∀ x ∈ l, nar x = true) → narL l = true := by
  intro l
  induction l with
  | nil => intro _; rfl
  | cons x r ih =>
   intro h
   simp only [narL, Bool.and_eq_true]
   exact ⟨h x (by simp), ih fun y hy => h y (by simp [hy])⟩
 unfold vList
 simp only [nar, Bool.and_eq_true, decide_eq_true_eq]
 exact ⟨hl, hL l h⟩
set_option maxHeartbeats 1000000 in
theorem Agg_ev (name : ByteArray) (b : Bool) (l : List V) (hm : l.length ≤ 2000000) (hn : ∀ x ∈ l, nar x = true) : Ev E 22 [.str name, .bool b, .sl (encL l)] (.d (enc (agF name b l))) := by
 have qp := present_ev b l hm
 have hul := pick_len b l
 have hum : ∀ x ∈ pickF b l, nar x = true := fun x hx => hn x (pick_mem hx)
 unfold agF
 generalize pickF b l = u at qp hul hum
 have hle : (encL u).length = u.length := encL_len u
 have qt := total_ev u
 unfold totX at qt
 have qi := int_ev u.length
 rw [← hle] at qi
 have ql := list_ev u (narU hum (by omega))
 have qv := Valid_ev ixOK (vList u)
 have hat : ∀ k, k < u.length → atS u k ∈ u := fun k hk => List.mem_of_getElem? (atS_get hk)
 unfold agU
 cases hCount : name.toList == nmCount with
 | true =>
  have gCount : (name.toList == (⟨#[99, 111, 117, 110, 116]⟩ : ByteArray).toList) = true := by rw [nmCountE]; exact hCount
  rw [cond_true, ← hle]
  refine ye3 func22 ntmps22 fun _ _ _=>?_
  repeat' (first | refine yz ?_ | refine yp b50 qp ?_ | refine yp b31 qi ?_ | exact zD)
 | false =>
  rw [cond_false]
  have gCount : (name.toList == (⟨#[99, 111, 117, 110, 116]⟩ : ByteArray).toList) = false := by rw [nmCountE]; exact hCount
  cases hSum : name.toList == nmSum with
  | true =>
   have gSum : (name.toList == (⟨#[115, 117, 109]⟩ : ByteArray).toList) = true := by rw [nmSumE]; exact hSum
   rw [cond_true]
   cases hB : sumB 0 1 u with
   | true =>
    rw [hB, cond_true, cond_true] at qt
    have qn := number_ev (sumN 0 1 u) (sumD 0 1 u) true
    refine ye3 func22 ntmps22 fun _ _ _=>?_
    repeat' (first | refine yz ?_ | refine yp b50 qp ?_ | refine yp b52 qt ?_ | refine yp b51 qn ?_ | exact zD)
   | false =>
    rw [hB, cond_false, cond_false] at qt
    have qn := number_ev 0 0 false
    have e : numF false (sumN 0 1 u) (sumD 0 1 u) = numF false 0 0 := rfl
    rw [e]
    refine ye3 func22 ntmps22 fun _ _ _=>?_
    repeat' (first | refine yz ?_ | refine yp b50 qp ?_ | refine yp b52 qt ?_ | refine yp b51 qn ?_ | exact zD)
  | false =>
   rw [cond_false]
   have gSum : (name.toList == (⟨#[115, 117, 109]⟩ : ByteArray).toList) = false := by rw [nmSumE]; exact hSum
   cases hCollect : name.toList == nmCollect with
   | true =>
    have gCollect : (name.toList == (⟨#[99, 111, 108, 108, 101, 99, 116]⟩ : ByteArray).toList) = true := by rw [nmCollectE]; exact hCollect
    rw [cond_true]
    have hMin : (name.toList == nmMin) = false := by rw [beq_iff_eq.1 hCollect]; decide
    have gMin : (name.toList == (⟨#[109, 105, 110]⟩ : ByteArray).toList) = false := by rw [nmMinE]; exact hMin
    have hMax : (name.toList == nmMax) = false := by rw [beq_iff_eq.1 hCollect]; decide
    have gMax : (name.toList == (⟨#[109, 97, 120]⟩ : ByteArray).toList) = false := by rw [nmMaxE]; exact hMax
    have hAvg : (name.toList == nmAvg) = false := by rw [beq_iff_eq.1 hCollect]; decide
    have gAvg : (name.toList == (⟨#[97, 118, 103]⟩ : ByteArray).toList) = false := by rw [nmAvgE]; exact hAvg
    cases hV : Val.okV (vList u) with
    | true =>
     rw [hV] at qv
     refine ye3 func22 ntmps22 fun _ _ _=>?_
     repeat' (first | refine yz ?_ | refine yp b50 qp ?_ | refine yp b30 ql ?_ | refine yp b40 qv ?_ | exact zD)
    | false =>
     rw [hV] at qv
     refine ye3 func22 ntmps22 fun _ _ _=>?_
     repeat' (first | refine yz ?_ | refine yp b50 qp ?_ | refine yp b30 ql ?_ | refine yp b40 qv ?_ | refine yp b32 null_ev ?_ | exact zD)
   | false =>
    rw [cond_false]
    have gCollect : (name.toList == (⟨#[99, 111, 108, 108, 101, 99, 116]⟩ : ByteArray).toList) = false := by rw [nmCollectE]; exact hCollect
    by_cases hu0 : u.length = 0
    ·rw [show (u.length == 0) = true by rw [beq_iff_eq]; exact hu0, cond_true]
     have g0 : (((encL u).length : Int) == 0) = true := by rw [hle, beq_iff_eq]; omega
     cases hMin : name.toList == nmMin with
     | true =>
      have gMin : (name.toList == (⟨#[109, 105, 110]⟩ : ByteArray).toList) = true := by rw [nmMinE]; exact hMin
      refine ye3 func22 ntmps22 fun _ _ _=>?_
      repeat' (first | refine yz ?_ | refine yp b50 qp ?_ | refine yp b32 null_ev ?_ | exact zD)
     | false =>
      have gMin : (name.toList == (⟨#[109, 105, 110]⟩ : ByteArray).toList) = false := by rw [nmMinE]; exact hMin
      cases hMax : name.toList == nmMax with
      | true =>
       have gMax : (name.toList == (⟨#[109, 97, 120]⟩ : ByteArray).toList) = true := by rw [nmMaxE]; exact hMax
       refine ye3 func22 ntmps22 fun _ _ _=>?_
       repeat' (first | refine yz ?_ | refine yp b50 qp ?_ | refine yp b32 null_ev ?_ | exact zD)
      | false =>
       have gMax : (name.toList == (⟨#[109, 97, 120]⟩ : ByteArray).toList) = false := by rw [nmMaxE]; exact hMax
       cases hAvg : name.toList == nmAvg with
       | true =>
        have gAvg : (name.toList == (⟨#[97, 118, 103]⟩ : ByteArray).toList) = true := by rw [nmAvgE]; exact hAvg
        refine ye3 func22 ntmps22 fun _ _ _=>?_
        repeat' (first | refine yz ?_ | refine yp b50 qp ?_ | refine yp b32 null_ev ?_ | exact zD)
       | false =>
        have gAvg : (name.toList == (⟨#[97, 118, 103]⟩ : ByteArray).toList) = false := by rw [nmAvgE]; exact hAvg
        refine ye3 func22 ntmps22 fun _ _ _=>?_
        repeat' (first | refine yz ?_ | refine yp b50 qp ?_ | refine yp b32 null_ev ?_ | exact zD)
    ·rw [show (u.length == 0) = false by rw [beq_eq_false_iff_ne]; exact hu0, cond_false]
     cases hMin : name.toList == nmMin with
     | true =>
      have gMin : (name.toList == (⟨#[109, 105, 110]⟩ : ByteArray).toList) = true := by rw [nmMinE]; exact hMin
      have g0 : (((encL u).length : Int) == 0) = false := by rw [hle, beq_eq_false_iff_ne]; omega
      have e : (encL u).take (1 : Int).toNat = encL [atS u 0] := by
       rw [encL_map, encL_map, ← List.map_take]
       cases u with
       | nil => simp at hu0
       | cons x r => rfl
      have qm : Ev E 30 [.sl ((encL u).take (1 : Int).toNat)] (.d (enc (vList [atS u 0]))) := by
       rw [e]
       exact list_ev [atS u 0] (narU (by intro x hx; rw [List.mem_singleton.1 hx]; exact hum _ (hat 0 (by omega))) (by simp))
      have hx : (encL [atS u 0])[(0 : Int).toNat]? = some (enc (atS u 0)) := rfl
      rw [cond_true]
      refine ye3 func22 ntmps22 fun _ _ _=>?_
      repeat' (first | (refine qS rfl ⟨⟨by omega, by omega⟩, _, rfl, encL_cells u⟩ ?_) | refine go_field rfl rfl rfl rfl rfl rfl rfl ?_ | refine yz ?_ | refine yp b50 qp ?_ | refine yp b30 qm ?_ | refine qI (enc (atS u 0)) rfl (guardX_ok rfl) rfl rfl rfl rfl rfl rfl (by first | omega | decide) hx ?_ | exact zD)
     | false =>
      rw [cond_false]
      have gMin : (name.toList == (⟨#[109, 105, 110]⟩ : ByteArray).toList) = false := by rw [nmMinE]; exact hMin
      cases hMax : name.toList == nmMax with
      | true =>
       have gMax : (name.toList == (⟨#[109, 97, 120]⟩ : ByteArray).toList) = true := by rw [nmMaxE]; exact hMax
       have g0 : (((encL u).length : Int) == 0) = false := by rw [hle, beq_eq_false_iff_ne]; omega
       have e : (encL u).drop (((encL u).length : Int) - 1).toNat = encL [atS u (u.length - 1)] := by
        rw [encL_map, encL_map, List.length_map, show ((u.length : Int) - 1).toNat = u.length - 1 by omega, ← List.map_drop, drop_atS (by omega), List.drop_eq_nil_of_le (by omega)]
       have qm : Ev E 30 [.sl ((encL u).drop (((encL u).length : Int) - 1).toNat)] (.d (enc (vList [atS u (u.length - 1)]))) := by
        rw [e]
        exact list_ev [atS u (u.length - 1)] (narU (by intro x hx; rw [List.mem_singleton.1 hx]; exact hum _ (hat _ (by omega))) (by simp))
       have hx : (encL [atS u (u.length - 1)])[(0 : Int).toNat]? = some (enc (atS u (u.length - 1))) := rfl
       rw [cond_true]
       refine ye3 func22 ntmps22 fun _ _ _=>?_
       repeat' (first | (refine qS rfl ⟨⟨by omega, by omega⟩, _, rfl, encL_cells u⟩ ?_) | refine go_field rfl rfl rfl rfl rfl rfl rfl ?_ | refine yz ?_ | refine yp b50 qp ?_ | refine yp b30 qm ?_ | refine qI (enc (atS u (u.length - 1))) rfl (guardX_ok rfl) rfl rfl rfl rfl rfl rfl (by first | omega | decide) hx ?_ | exact zD)
      | false =>
       rw [cond_false]
       have gMax : (name.toList == (⟨#[109, 97, 120]⟩ : ByteArray).toList) = false := by rw [nmMaxE]; exact hMax
       cases hAvg : name.toList == nmAvg with
       | true =>
        have gAvg : (name.toList == (⟨#[97, 118, 103]⟩ : ByteArray).toList) = true := by rw [nmAvgE]; exact hAvg
        have g0 : (((encL u).length : Int) == 0) = false := by rw [hle, beq_eq_false_iff_ne]; omega
        rw [cond_true]
        unfold avgF
        cases hB : sumB 0 1 u with
        | true =>
         rw [hB, cond_true, cond_true] at qt
         have qd := div_ev (sumN 0 1 u) (sumD 0 1 u) u.length 1
         have qn := number_ev (divN (sumN 0 1 u) (sumD 0 1 u) u.length 1) (divD (sumN 0 1 u) (sumD 0 1 u) u.length 1) (divB (sumN 0 1 u) (sumD 0 1 u) u.length 1)
         rw [← hle] at qd
         rw [Bool.true_and]
         rw [← hle] at qn ⊢
         refine ye3 func22 ntmps22 fun _ _ _=>?_
         repeat' (first | refine yz ?_ | refine yp b50 qp ?_ | refine yp b52 qt ?_ | refine yp b53 qd ?_ | refine yp b51 qn ?_ | exact zD)
        | false =>
         rw [hB, cond_false, cond_false] at qt
         have e : numF (false && divB (sumN 0 1 u) (sumD 0 1 u) u.length 1) (divN (sumN 0 1 u) (sumD 0 1 u) u.length 1) (divD (sumN 0 1 u) (sumD 0 1 u) u.length 1) = vNull := rfl
         rw [e]
         refine ye3 func22 ntmps22 fun _ _ _=>?_
         repeat' (first | refine yz ?_ | refine yp b50 qp ?_ | refine yp b52 qt ?_ | refine yp b32 null_ev ?_ | exact zD)
       | false =>
        rw [cond_false]
        have gAvg : (name.toList == (⟨#[97, 118, 103]⟩ : ByteArray).toList) = false := by rw [nmAvgE]; exact hAvg
        refine ye3 func22 ntmps22 fun _ _ _=>?_
        repeat' (first | refine yz ?_ | refine yp b50 qp ?_ | refine yp b32 null_ev ?_ | exact zD)
structure Itm where
 e : Ex
 asn : ByteArray
structure Mm where
 key : List V
 env : List Bd
def encIm (x : Itm) : D := .agg [.int x.e.op, .int x.e.v.k, .int x.e.v.n, .int x.e.v.d, .str x.e.v.s, .sl (kids x.e.v), .str x.e.nm, .bool x.e.ds, .sl (kidsE x.e), .str x.asn]
def encM (m : Mm) : D := .agg [.sl (encL m.key), .sl (m.env.map encBd)]
def isKy (x : Itm) : Bool := x.e.op != 24
def nKy (l : List Itm) : Nat := (l.filter isKy).length
def rowG (ap : Ex → V) (key : List V) : List Itm → Nat → List V
 | [], _ => []
 | x :: r, k => bif isKy x then atS key k :: rowG ap key r (k + 1) else ap x.e :: rowG ap key r k
structure RgT (ap : Ex → V) (key : List V) (its : List Itm) where
 i : Nat
 k : Nat
 out : List V
 hi : i ≤ its.length
 ho : out.length ≤ i
 hk : k + nKy (its.drop i) = nKy its
 ht : rowG ap key its 0 = out ++ rowG ap key (its.drop i) k
theorem row_ev (g : Gr) (its : List Itm) (grp : List Mm) (ap : Ex → V) (key : List V) (hm : its.length ≤ 1000000) (hA : ∀ x ∈ its, isKy x = false → Ev E 109 [encGr g, encE x.e, .sl (grp.map encM)] (.d (enc (ap x.e))))
  (hk : nKy its ≤ key.length) (hg : nKy its = 0 ∨ ∃ m r, grp = m :: r ∧ m.key = key) : Ev E 67 [encGr g, .sl (its.map encIm), .sl (grp.map encM)] (.d (.sl (encL (rowG ap key its 0)))) := by
 have hle : (its.map encIm).length = its.length := by simp
 have hkm : nKy its ≤ its.length := List.length_filter_le _ _
 refine ye3 func67 ntmps67 fun _ _ _=>?_
 repeat' (refine yz ?_)
 refine go_loop_ (α := RgT ap key its) (fun p => ⟨[(7, rowK 1 (encL p.out)), (1, .d (.sl (its.map encIm))), (2, .d (.sl (grp.map encM))), (3, .ptr 0 0), (8, .d (.int p.k)), (11, .d (.sl (its.map encIm))), (12, .d (.int (its.map encIm).length)), (13, .d (.int p.i))], .var 41 (.w (.d (encGr g))) :: rowO 35 5 (encL p.out)⟩) (fun p => its.length - p.i) ⟨0, 0, [], by omega, by simp, by simp, rfl⟩ (zle 1) ?_
 rintro ⟨i, k, out, hi, ho, hkk, ht⟩
 dsimp only
 have hll : (encL out).length ≤ i := by rw [encL_len]; exact ho
 have hkb : k ≤ 1000000 := by omega
 rcases Nat.lt_or_ge i its.length with hlt | hge
 ·have g1 : decide ((i : Int) < ((its.map encIm).length : Int)) = true := by rw [hle]; simpa using hlt
  have hx0 := List.getElem?_eq_getElem hlt
  generalize its[i] = x at hx0
  have hx : (its.map encIm)[(i : Int).toNat]? = some (encIm x) := map_at hx0
  have hmem := List.mem_of_getElem? hx0
  rw [drop_at hx0] at ht hkk
  simp only [rowG] at ht
  have hkc : ∀ r, nKy (x :: r) = (bif isKy x then 1 else 0) + nKy r := fun r => by
   unfold nKy
   rw [List.filter_cons]
   cases isKy x <;> simp <;> omega
  rw [hkc] at hkk
  cases hky : isKy x with
  | false =>
   rw [hky, cond_false] at ht hkk
   have q := hA x hmem hky
   have g2 : (x.e.op == 24) = true := by unfold isKy at hky; simpa using hky
   have happ := encL_app out (ap x.e)
   have ht' : rowG ap key its 0 = (out ++ [ap x.e]) ++ rowG ap key (its.drop (i + 1)) k := by rw [ht]; simp
   generalize encL out = eo at *
   match eo, hll with
   | [], hll =>
    dsimp only [rowK, rowO]
    repeat' (first | refine yz ?_ | refine yi (encIm x) hx ?_ | refine go_load0 rfl rfl rfl rfl rfl rfl rfl ?_ | refine yp b109 q ?_ | (refine qS rfl ⟨by simp, fun d hd => by (obtain rfl := List.mem_singleton.1 hd; rfl), by (show (0 + 1) * 64 ≤ 140737488355328; omega), by (show 0 + 1 ≤ 9223372036854775807; omega)⟩ ?_))
    refine go_stop ?_
    refine ⟨⟨i + 1, k, out ++ [ap x.e], by omega, by simp; omega, by omega, ht'⟩, by dsimp only; omega, ?_⟩
    dsimp only
    rw [happ]
    exact (zren [0, 2])
   | a :: q0, hll =>
    dsimp only [rowK, rowO]
    repeat' (first | refine yz ?_ | refine yi (encIm x) hx ?_ | refine go_load0 rfl rfl rfl rfl rfl rfl rfl ?_ | refine yp b109 q ?_ | (refine qS rfl ⟨by simp, fun d hd => by (obtain rfl := List.mem_singleton.1 hd; rfl), by (show ((a :: q0).length + 1) * 64 ≤ 140737488355328; omega), by (show (a :: q0).length + 1 ≤ 9223372036854775807; omega)⟩ ?_))
    refine go_stop ?_
    refine ⟨⟨i + 1, k, out ++ [ap x.e], by omega, by simp; omega, by omega, ht'⟩, by dsimp only; omega, ?_⟩
    dsimp only
    rw [happ]
    exact (zren [0, 3])
  | true =>
   rw [hky, cond_true] at ht hkk
   have g2 : (x.e.op == 24) = false := by unfold isKy at hky; simpa using hky
   have happ := encL_app out (atS key k)
   have ht' : rowG ap key its 0 = (out ++ [atS key k]) ++ rowG ap key (its.drop (i + 1)) (k + 1) := by rw [ht]; simp
   obtain ⟨m, r, eg, ek⟩ := hg.resolve_left (by omega)
   have hx1 : (grp.map encM)[(0 : Int).toNat]? = some (encM m) := by rw [eg]; rfl
   have hx2 : (encL m.key)[(k : Int).toNat]? = some (enc (atS key k)) := by rw [ek]; exact encL_get (by rw [Int.toNat_natCast]; exact atS_get (by omega))
   generalize encL out = eo at *
   match eo, hll with
   | [], hll =>
    dsimp only [rowK, rowO]
    repeat' (first | refine yz ?_ | refine yi (encIm x) hx ?_ | refine yi (encM m) hx1 ?_ | refine qI (enc (atS key k)) rfl (guardX_ok rfl) rfl rfl rfl rfl rfl rfl (by first | omega | decide) hx2 ?_ | (refine qS rfl ⟨by simp, fun d hd => by (obtain rfl := List.mem_singleton.1 hd; rfl), by (show (0 + 1) * 64 ≤ 140737488355328; omega), by (show 0 + 1 ≤ 9223372036854775807; omega)⟩ ?_))
    refine go_stop ?_
    refine ⟨⟨i + 1, k + 1, out ++ [atS key k], by omega, by simp; omega, by omega, ht'⟩, by dsimp only; omega, ?_⟩
    dsimp only
    rw [happ]
    exact (zren [0, 2])
   | a :: q0, hll =>
    dsimp only [rowK, rowO]
    repeat' (first | refine yz ?_ | refine yi (encIm x) hx ?_ | refine yi (encM m) hx1 ?_ | refine qI (enc (atS key k)) rfl (guardX_ok rfl) rfl rfl rfl rfl rfl rfl (by first | omega | decide) hx2 ?_ | (refine qS rfl ⟨by simp, fun d hd => by (obtain rfl := List.mem_singleton.1 hd; rfl), by (show ((a :: q0).length + 1) * 64 ≤ 140737488355328; omega), by (show (a :: q0).length + 1 ≤ 9223372036854775807; omega)⟩ ?_))
    refine go_stop ?_
    refine ⟨⟨i + 1, k + 1, out ++ [atS key k], by omega, by simp; omega, by omega, ht'⟩, by dsimp only; omega, ?_⟩
    dsimp only
    rw [happ]
    exact (zren [0, 3])
 ·have g1 : decide ((i : Int) < ((its.map encIm).length : Int)) = false := by rw [hle]; simp; omega
  rw [List.drop_eq_nil_of_le hge] at ht
  simp only [rowG, List.append_nil] at ht
  rw [ht]
  generalize encL out = eo at *
  match eo with
  | [] =>
   dsimp only [rowK, rowO]
   repeat' (first | refine yz ?_ | exact zD)
  | a :: q =>
   dsimp only [rowK, rowO]
   refine go_frz 1 rfl ?_
   repeat' (first | refine yz ?_ | exact zD)
theorem apply0_ev (g : Gr) (e : Ex) (grp : List Mm) (h0 : e.ks = []) (hc : (e.nm.toList == (⟨#[99, 111, 117, 110, 116]⟩ : ByteArray).toList) = true) : Ev E 109 [encGr g, encE e, .sl (grp.map encM)] (.d (enc (vInt grp.length))) := by
 have hk : kidsE e = [] := by rw [kidsE_eq, h0]; rfl
 have hl : (grp.map encM).length = grp.length := by simp
 have g1 : (((kidsE e).length : Int) == 0) = true := by rw [hk]; rfl
 have qi := int_ev (grp.map encM).length
 rw [← hl]
 refine ye3 func109 ntmps109 fun _ _ _=>?_
 repeat' (first | refine yz ?_ | refine yp b31 qi ?_ | exact zD)
def cnE : Ex := .mk 24 (.mk 0 0 0 ⟨#[]⟩ []) ⟨#[99, 111, 117, 110, 116]⟩ false []
def cnI : Itm := ⟨cnE, ⟨#[110]⟩⟩
def gr1 : Gr := ⟨[], [], 1, 1⟩
abbrev zTb : AObj := .var 45 (.cs [.nilS, .nilS])
theorem table1_ev : Ev E 26 [encGr gr1, .sl [encIm cnI], .agg [.sl [], .sl []]] (.d (.agg [.sl [.str ⟨#[110]⟩], .sl [.sl [enc (vInt 0)]]])) := by
 have q := row_ev gr1 [cnI] [] (fun _ => vInt 0) [] (by decide) (fun x hx _ => by
  rw [List.mem_singleton.1 hx]
  exact apply0_ev gr1 cnE [] rfl (beq_self_eq_true _)) (by decide) (.inl (by decide))
 have er : rowG (fun _ => vInt 0) [] [cnI] 0 = [vInt 0] := rfl
 rw [er] at q
 have q' : Ev E 67 [encGr gr1, .sl [encIm cnI], .sl []] (.d (.sl [enc (vInt 0)])) := q
 have hx : [encIm cnI][(0 : Int).toNat]? = some (encIm cnI) := rfl
 refine ye3 func26 ntmps26 fun _ _ _=>?_
 repeat' (refine yz ?_)
 refine go_loop_ (α := Bool) (fun p => ⟨[(1, .d (.sl [encIm cnI])), (3, .ptr 0 0), (5, .ptr 1 0), (6, .ptr 2 0), (7, .ptr 3 0), (8, .d (.int 0)), (18, .d (.sl [encIm cnI])), (19, .d (.int 1)), (20, .d (.int (bif p then 1 else 0)))], [.var 41 (.w (.d (encGr gr1))), .var 45 (.w (.d (.agg [.sl [], .sl []]))), zTb] ++ (bif p then [.var 45 (.cs [.own 4, .nilS]), .row 9 1 [.str ⟨#[110]⟩]] else [zTb])⟩) (fun p => bif p then 0 else 1) false (zle 4) ?_
 intro p
 cases p with
 | false =>
  dsimp only [cond_false, List.append]
  repeat' (first | refine yz ?_ | refine yi (encIm cnI) hx ?_ | (refine qS rfl ⟨by simp, fun d hd => by (obtain rfl := List.mem_singleton.1 hd; rfl), by (show (0 + 1) * 16 ≤ 140737488355328; omega), by (show 0 + 1 ≤ 9223372036854775807; omega)⟩ ?_))
  refine go_stop ?_
  refine ⟨true, by decide, ?_⟩
  exact (zren [0, 1, 2, 3, 5])
 | true =>
  dsimp only [cond_true, List.append]
  repeat' (refine yz ?_)
  refine go_loop_ (α := Unit) (fun _ => ⟨[(1, .d (.sl [encIm cnI])), (3, .ptr 0 0), (6, .ptr 2 0), (7, .ptr 3 0), (8, .d (.int 0)), (11, .nilS), (40, .d (.int 0)), (41, .d (.int 0))], [.var 41 (.w (.d (encGr gr1))), .var 45 (.w (.d (.agg [.sl [], .sl []]))), zTb, .var 45 (.cs [.own 4, .nilS]), .row 9 1 [.str ⟨#[110]⟩]]⟩) (fun _ => 0) () (zle 5) ?_
  intro _
  repeat' (first | refine yz ?_ | refine yp b67 q' ?_)
  refine go_frzS 4 rfl ?_
  repeat' (first | refine yz ?_ | exact zD)
theorem num_ev (n : Int) : Ev E 48 [.int n] (.d (enc (vInt n))) := by
 refine ye1 func48 ntmps48 fun _ _ _=>?_
 repeat' (first | refine yz ?_ | exact zD)
def exL : List V := [vInt 1, vInt 2, vNull, vInt 2]
def bSum : ByteArray := ⟨#[115, 117, 109]⟩
theorem alive23_ev : Ev E 20 [] (.d (.bool true)) := by
 have q1 := num_ev 1
 have q2 := num_ev 2
 have a1 := Agg_ev bSum false exL (by decide) (fun x hx => by simp only [exL, List.mem_cons, List.not_mem_nil, or_false] at hx; rcases hx with rfl | rfl | rfl | rfl <;> decide +kernel)
 have a2 := Agg_ev bSum true exL (by decide) (fun x hx => by simp only [exL, List.mem_cons, List.not_mem_nil, or_false] at hx; rcases hx with rfl | rfl | rfl | rfl <;> decide +kernel)
 rw [show agF bSum false exL = vInt 5 by kernel_rfl] at a1
 rw [show agF bSum true exL = vInt 3 by kernel_rfl] at a2
 have a1' : Ev E 22 [.str ⟨#[115, 117, 109]⟩, .bool false, .sl [enc (vInt 1), enc (vInt 2), enc vNull, enc (vInt 2)]] (.d (enc (vInt 5))) := a1
 have a2' : Ev E 22 [.str ⟨#[115, 117, 109]⟩, .bool true, .sl [enc (vInt 1), enc (vInt 2), enc vNull, enc (vInt 2)]] (.d (enc (vInt 3))) := a2
 have t1 := table1_ev
 have h0 : ([.sl [enc (vInt 0)]] : List D)[(0 : Int).toNat]? = some (.sl [enc (vInt 0)]) := rfl
 have h1 : ([enc (vInt 0)] : List D)[(0 : Int).toNat]? = some (enc (vInt 0)) := rfl
 refine enter0 func20 ntmps20 rfl rfl fun w0 F0 O => ?_
 repeat' (first | refine yz ?_ | refine qP (d := 5) rfl rfl rfl rfl rfl rfl b48 (q1) ?_ | refine qP (d := 6) rfl rfl rfl rfl rfl rfl b48 (q2) ?_ | refine qP (d := 8) rfl rfl rfl rfl rfl rfl b48 (q2) ?_ | refine qP (d := 11) rfl rfl rfl rfl rfl rfl b22 (a1') ?_ | refine qP (d := 13) rfl rfl rfl rfl rfl rfl b22 (a2') ?_ | refine yp b26 t1 ?_ | refine qI (.sl [enc (vInt 0)]) rfl (guardX_ok rfl) rfl rfl rfl rfl rfl rfl (by first | omega | decide) h0 ?_ | refine qI (enc (vInt 0)) rfl (guardX_ok rfl) rfl rfl rfl rfl rfl rfl (by first | omega | decide) h1 ?_ | exact zD)
end Go.Proofs.YtjgmakalledclaaGreatDoor
