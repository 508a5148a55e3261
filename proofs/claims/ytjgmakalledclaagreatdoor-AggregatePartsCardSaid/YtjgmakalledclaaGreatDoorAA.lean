/- What aggregate functions look at: the program's choice of values, sorted, each once; Sums of values and numbers as values, the program's; The program's aggregate functions; The specification's aggregate functions; Expressions as plain trees, how they are written as data, and the weighing of expressions by the law's own text; Graphs and bindings as data, and the reference's look-ups in them; Groups of rows: the program's row of a group; the chapter's worked examples of Agg and Table; The laws on aggregate functions: they answer true. Conditions: each part's own, as it says. -/
import Derived.Test.YtjgmakalledclaaGreatDoorSV
import Derived.Test.YtjgmakalledclaaGreatDoorND
import Derived.Test.YtjgmakalledclaaGreatDoorMC
import Derived.Test.YtjgmakalledclaaGreatDoorGC
import Derived.Test.YtjgmakalledclaaGreatDoorSR
import Derived.Test.YtjgmakalledclaaGreatDoorMA
import Derived.Test.YtjgmakalledclaaGreatDoorGB
set_option linter.unusedVariables false
set_option linter.unusedSimpArgs false
/- What aggregate functions look at: the program's choice of values, sorted, each once. Conditions: at most two million values. -/
namespace Go.Proofs.YtjgmakalledclaaGreatDoor
set_option maxRecDepth 4000
open Go Go.Abs Go.Val Go.RowKit
attribute [local irreducible] go SGo HasBody Ev ExtEv EvO EvS RGo
theorem pres1_ev (x y : V) : Ev E 97 [enc x, enc y] (.d (.bool (ordF y x == 0))) := by
  have q := Order_ev x y
  have e : (ordF y x == 0) = (ordF x y == 0) := by
    rw [ordF_anti x y]
    cases h : ordF x y == 0 with
    | true => rw [beq_iff_eq] at h ⊢; omega
    | false => rw [beq_eq_false_iff_ne] at h ⊢; omega
  rw [e]
  refine enter2 Tryz.func97 Tryz.ntmps97 rfl rfl fun w0 F0 O => ?_
  repeat' (first | refine zS rfl ?_ | refine qA ?_ | refine qB rfl ?_ | refine qC (by kernel_rfl) ?_ | refine qD ?_ | refine qE ?_ | refine qF ?_ | refine qG ?_ | refine qH rfl ?_ | refine qP rfl rfl rfl rfl rfl rfl b37 (q) ?_ | refine zT rfl ?_ | refine zU rfl ?_ | refine qL rfl rfl ?_ | refine qM rfl rfl rfl ?_ | refine qO rfl rfl rfl ?_ | refine zX rfl rfl rfl rfl ?_ | refine zW rfl rfl rfl rfl ?_ | (refine qY rfl rfl rfl rfl ?_ ?_ <;> intro _) | exact zD | exact zL)
/-! ## A sort of nothing -/
theorem ins0_ev (fn : FuncId) : EvS E 183 [.d (.sl []), .d (.int 0), .d (.int 0), .d (.imm (.func (.func fn) #[] #[]))] [] (.tup []) [] := by
  refine EvS.enter Tryz.func183 Tryz.ntmps183 rfl rfl fun w0 F0 O σ0 => ?_
  dsimp only [List.range, List.range.loop, List.zip, List.zipWith, List.length]
  repeat' (first | refine zS rfl ?_ | refine qA ?_ | refine qB rfl ?_ | refine qC (by kernel_rfl) ?_ | refine qD ?_ | refine qE ?_ | refine qF ?_ | refine qG ?_ | refine qH rfl ?_ | refine zT rfl ?_ | refine zU rfl ?_ | refine qL rfl rfl ?_ | refine qM rfl rfl rfl ?_ | refine qO rfl rfl rfl ?_ | refine zX rfl rfl rfl rfl ?_ | refine zW rfl rfl rfl rfl ?_ | (refine qY rfl rfl rfl rfl ?_ ?_ <;> intro _) | exact zD | exact zL)
  refine go_loop_ (α := Unit) (fun _ => ⟨[(2, .d (.int 0)), (8, .d (.int 1))], []⟩) (fun _ => 0) () ((zle 0)) ?_
  rintro -
  have g : decide ((1 : Int) < 0) = false := rfl
  repeat' (first | refine zS rfl ?_ | refine qA ?_ | refine qB rfl ?_ | refine qC (by kernel_rfl) ?_ | refine qD ?_ | refine qE ?_ | refine qF ?_ | refine qG ?_ | refine qH rfl ?_ | refine retS0 [] rfl rfl rfl rfl | refine endS0 [] rfl rfl rfl rfl | refine zT rfl ?_ | refine zU rfl ?_ | refine qL rfl rfl ?_ | refine qM rfl rfl rfl ?_ | refine qO rfl rfl rfl ?_ | refine zX rfl rfl rfl rfl ?_ | refine zW rfl rfl rfl rfl ?_ | (refine qY rfl rfl rfl rfl ?_ ?_ <;> intro _) | exact zD | exact zL)
theorem sta0_ev (fn : FuncId) : EvS E 138 [.d (.sl []), .d (.int 0), .d (.imm (.func (.func fn) #[] #[]))] [] (.tup []) [] := by
  have q := ins0_ev fn
  refine EvS.enter Tryz.func138 Tryz.ntmps138 rfl rfl fun w0 F0 O σ0 => ?_
  dsimp only [List.range, List.range.loop, List.zip, List.zipWith, List.length]
  repeat' (first | refine zS rfl ?_ | refine qA ?_ | refine qB rfl ?_ | refine qC (by kernel_rfl) ?_ | refine qD ?_ | refine qE ?_ | refine qF ?_ | refine qG ?_ | refine qH rfl ?_ | refine zT rfl ?_ | refine zU rfl ?_ | refine qL rfl rfl ?_ | refine qM rfl rfl rfl ?_ | refine qO rfl rfl rfl ?_ | refine zX rfl rfl rfl rfl ?_ | refine zW rfl rfl rfl rfl ?_ | (refine qY rfl rfl rfl rfl ?_ ?_ <;> intro _) | exact zD | exact zL)
  refine go_loop_ (α := Unit) (fun _ => ⟨[(0, .d (.sl [])), (1, .d (.int 0)), (2, .d (.imm (.func (.func fn) #[] #[]))), (6, .d (.int 20)), (7, .d (.int 0)), (8, .d (.int 20))], []⟩) (fun _ => 0) () ((zle 0)) ?_
  rintro -
  have g : decide ((20 : Int) ≤ 0) = false := rfl
  have g2 : decide ((20 : Int) < 0) = false := rfl
  repeat' (first | refine zS rfl ?_ | refine qA ?_ | refine qB rfl ?_ | refine qC (by kernel_rfl) ?_ | refine qD ?_ | refine qE ?_ | refine qF ?_ | refine qG ?_ | refine qH rfl ?_ | refine go_callS [] rfl rfl rfl rfl (FnX.plain _) b183 (q) rfl rfl rfl rfl rfl ?_ | refine zT rfl ?_ | refine zU rfl ?_ | refine qL rfl rfl ?_ | refine qM rfl rfl rfl ?_ | refine qO rfl rfl rfl ?_ | refine zX rfl rfl rfl rfl ?_ | refine zW rfl rfl rfl rfl ?_ | (refine qY rfl rfl rfl rfl ?_ ?_ <;> intro _) | exact zD | exact zL)
  refine go_loop_ (α := Unit) (fun _ => ⟨[(1, .d (.int 0)), (6, .d (.int 20))], []⟩) (fun _ => 0) () ((zle 0)) ?_
  rintro -
  repeat' (first | refine zS rfl ?_ | refine qA ?_ | refine qB rfl ?_ | refine qC (by kernel_rfl) ?_ | refine qD ?_ | refine qE ?_ | refine qF ?_ | refine qG ?_ | refine qH rfl ?_ | refine retS0 [] rfl rfl rfl rfl | refine endS0 [] rfl rfl rfl rfl | refine zT rfl ?_ | refine zU rfl ?_ | refine qL rfl rfl ?_ | refine qM rfl rfl rfl ?_ | refine qO rfl rfl rfl ?_ | refine zX rfl rfl rfl rfl ?_ | refine zW rfl rfl rfl rfl ?_ | (refine qY rfl rfl rfl rfl ?_ ?_ <;> intro _) | exact zD | exact zL)
theorem Stable0_ev (fn : FuncId) : EvS E 95 [.d (.sl []), .d (.imm (.func (.func fn) #[] #[]))] [] (.tup []) [] := by
  have q := sta0_ev fn
  refine EvS.enter Tryz.func95 Tryz.ntmps95 rfl rfl fun w0 F0 O σ0 => ?_
  dsimp only [List.range, List.range.loop, List.zip, List.zipWith, List.length]
  repeat' (first | refine zS rfl ?_ | refine qA ?_ | refine qB rfl ?_ | refine qC (by kernel_rfl) ?_ | refine qD ?_ | refine qE ?_ | refine qF ?_ | refine qG ?_ | refine qH rfl ?_ | refine go_callS [] rfl rfl rfl rfl (FnX.plain _) b138 (q) rfl rfl rfl rfl rfl ?_ | refine retS0 [] rfl rfl rfl rfl | refine endS0 [] rfl rfl rfl rfl | refine zT rfl ?_ | refine zU rfl ?_ | refine qL rfl rfl ?_ | refine qM rfl rfl rfl ?_ | refine qO rfl rfl rfl ?_ | refine zX rfl rfl rfl rfl ?_ | refine zW rfl rfl rfl rfl ?_ | (refine qY rfl rfl rfl rfl ?_ ?_ <;> intro _) | exact zD | exact zL)
/-! ## Each once -/
theorem Compact0_ev (fn : FuncId) : Ev E 96 [.sl [], .imm (.func (.func fn) #[] #[])] (.d (.sl [])) := by
  have g : decide ((0 : Int) < 2) = true := rfl
  refine enter2 Tryz.func96 Tryz.ntmps96 rfl rfl fun w0 F0 O => ?_
  repeat' (first | refine zS rfl ?_ | refine qA ?_ | refine qB rfl ?_ | refine qC (by kernel_rfl) ?_ | refine qD ?_ | refine qE ?_ | refine qF ?_ | refine qG ?_ | refine qH rfl ?_ | refine zT rfl ?_ | refine zU rfl ?_ | refine qL rfl rfl ?_ | refine qM rfl rfl rfl ?_ | refine qO rfl rfl rfl ?_ | refine zX rfl rfl rfl rfl ?_ | refine zW rfl rfl rfl rfl ?_ | (refine qY rfl rfl rfl rfl ?_ ?_ <;> intro _) | exact zD | exact zL)
set_option maxHeartbeats 2000000 in
theorem Compact_evS (l : List V) (hm : l.length ≤ 1152921504606846976) :
    EvS E 96 [.own 0, .d (.imm (.func (.func 97) #[] #[]))] [.row 35 5 (l.map enc)] (.d (.sl ((uniF ordF l).map enc))) [.dead] := by
  have hL : (l.map enc).length = l.length := by simp
  have hbb := b97
  by_cases hs : l.length < 2
  · have g0 : decide (((l.map enc).length : Int) < 2) = true := decide_eq_true (by omega)
    rw [uniF_short hs]
    refine EvS.enterD Tryz.func96 Tryz.ntmps96 rfl rfl fun w0 F0 O σ0 => ?_
    dsimp only [List.range, List.range.loop, List.zip, List.zipWith, List.length]
    repeat' (first | refine zS rfl ?_ | refine qA ?_ | refine qB rfl ?_ | refine qC (by kernel_rfl) ?_ | refine qD ?_ | refine qE ?_ | refine qF ?_ | refine qG ?_ | refine qH rfl ?_ | refine zT rfl ?_ | refine zU rfl ?_ | refine qL rfl rfl ?_ | refine qM rfl rfl rfl ?_ | refine qO rfl rfl rfl ?_ | refine zX rfl rfl rfl rfl ?_ | refine zW rfl rfl rfl rfl ?_ | (refine qY rfl rfl rfl rfl ?_ ?_ <;> intro _) | exact zD | exact zL)
    refine go_frz 0 rfl ?_
    repeat' (first | refine zS rfl ?_ | refine qA ?_ | refine qB rfl ?_ | refine qC (by kernel_rfl) ?_ | refine qD ?_ | refine qE ?_ | refine qF ?_ | refine qG ?_ | refine qH rfl ?_ | refine retD1 [0] rfl rfl rfl rfl rfl ?_ | refine retD2 [0] rfl rfl rfl rfl rfl rfl ?_ | refine zT rfl ?_ | refine zU rfl ?_ | refine qL rfl rfl ?_ | refine qM rfl rfl rfl ?_ | refine qO rfl rfl rfl ?_ | refine zX rfl rfl rfl rfl ?_ | refine zW rfl rfl rfl rfl ?_ | (refine qY rfl rfl rfl rfl ?_ ?_ <;> intro _) | exact zD | exact zL)
  · have g0 : decide (((l.map enc).length : Int) < 2) = false := decide_eq_false (by omega)
    refine EvS.enterD Tryz.func96 Tryz.ntmps96 rfl rfl fun w0 F0 O σ0 => ?_
    dsimp only [List.range, List.range.loop, List.zip, List.zipWith, List.length]
    repeat' (first | refine zS rfl ?_ | refine qA ?_ | refine qB rfl ?_ | refine qC (by kernel_rfl) ?_ | refine qD ?_ | refine qE ?_ | refine qF ?_ | refine qG ?_ | refine qH rfl ?_ | refine zT rfl ?_ | refine zU rfl ?_ | refine qL rfl rfl ?_ | refine qM rfl rfl rfl ?_ | refine qO rfl rfl rfl ?_ | refine zX rfl rfl rfl rfl ?_ | refine zW rfl rfl rfl rfl ?_ | (refine qY rfl rfl rfl rfl ?_ ?_ <;> intro _) | exact zD | exact zL)
    refine go_loop_ (α := CpT ordF l) (fun p => ⟨[(0, .own 0), (1, .d (.imm (.func (.func 97) #[] #[]))), (5, .d (.int p.k))], [.row 35 5 (l.map enc)]⟩) (fun p => l.length - p.k) (CpT.start (by omega)) ((zle 1)) ?_
    rintro p
    have h1 := p.h1
    have hk := p.hk
    obtain ⟨k, hkp⟩ : ∃ k, p.k = k := ⟨_, rfl⟩
    rw [hkp] at h1 hk
    rw [hkp]
    rcases Nat.lt_or_ge k l.length with hlt | hge
    · have g1 : decide ((k : Int) < ((l.map enc).length : Int)) = true := decide_eq_true (by omega)
      have x1 := row_get (en := enc) (l := l) (i := (k : Int)) (p := k) hlt rfl
      have x2 := row_get (en := enc) (l := l) (i := (k : Int) - 1) (p := k - 1) (by omega) (by omega)
      have q := pres1_ev (atS l k) (atS l (k - 1))
      cases hc : ordF (atS l (k - 1)) (atS l k) == 0 with
      | false =>
        rw [hc] at q
        repeat' (first | refine qW _ rfl rfl rfl rfl rfl rfl x1 rfl ?_ | refine qW _ rfl rfl rfl rfl rfl rfl x2 rfl ?_ | refine zS rfl ?_ | refine qA ?_ | refine qB rfl ?_ | refine qC (by kernel_rfl) ?_ | refine qD ?_ | refine qE ?_ | refine qF ?_ | refine qG ?_ | refine qH rfl ?_ | refine qP rfl rfl rfl rfl rfl rfl hbb (q) ?_ | refine zT rfl ?_ | refine zU rfl ?_ | refine qL rfl rfl ?_ | refine qM rfl rfl rfl ?_ | refine qO rfl rfl rfl ?_ | refine zX rfl rfl rfl rfl ?_ | refine zW rfl rfl rfl rfl ?_ | (refine qY rfl rfl rfl rfl ?_ ?_ <;> intro _) | exact zD | exact zL)
        refine go_stop ?_
        refine ⟨p.next (by rw [hkp]; exact hlt) (by rw [hkp]; simpa using hc), by show l.length - (p.k + 1) < l.length - k; omega, ?_⟩
        show Le _ _ ⟨[(0, .own 0), (1, .d (.imm (.func (.func 97) #[] #[]))), (5, .d (.int ((p.k + 1 : Nat) : Int)))], _⟩
        rw [hkp]
        exact (zle 1)
      | true =>
        rw [hc] at q
        have hc0 : ordF (atS l (k - 1)) (atS l k) = 0 := by simpa using hc
        have e0 : ∃ p0 : CqT ordF l k, p0.k = k ∧ p0.k2 = 1 ∧ p0.l1 = l := by
          have h3 := CqT.start p (by rw [hkp]; exact hlt) (by rw [hkp]; exact hc0)
          subst hkp
          exact ⟨CqT.start p hlt hc0, rfl, rfl, rfl⟩
        obtain ⟨p0, e1, e2, e3⟩ := e0
        repeat' (first | refine qW _ rfl rfl rfl rfl rfl rfl x1 rfl ?_ | refine qW _ rfl rfl rfl rfl rfl rfl x2 rfl ?_ | refine zS rfl ?_ | refine qA ?_ | refine qB rfl ?_ | refine qC (by kernel_rfl) ?_ | refine qD ?_ | refine qE ?_ | refine qF ?_ | refine qG ?_ | refine qH rfl ?_ | refine qP rfl rfl rfl rfl rfl rfl hbb (q) ?_ | refine go_sliceOwn rfl rfl rfl rfl rfl rfl rfl rfl rfl (by constructor <;> first | omega | (simp; omega) | decide) ?_ | refine zT rfl ?_ | refine zU rfl ?_ | refine qL rfl rfl ?_ | refine qM rfl rfl rfl ?_ | refine qO rfl rfl rfl ?_ | refine zX rfl rfl rfl rfl ?_ | refine zW rfl rfl rfl rfl ?_ | (refine qY rfl rfl rfl rfl ?_ ?_ <;> intro _) | exact zD | exact zL)
        refine go_loop_ (α := CqT ordF l k) (fun p => ⟨[(0, .own 0), (1, .d (.imm (.func (.func 97) #[] #[]))), (5, .d (.int p.k)), (6, .sub 0 k (l.length - k) 5), (7, .d (.int p.k2))], [.row 35 5 (p.l1.map enc)]⟩) (fun p => l.length - p.k2) p0 (by
          rw [e1, e2, e3, ← hL]
          exact (zle 1)) ?_
        clear e1 e2 e3 p0
        rintro p2
        have hk2 := p2.hk2
        have hb := p2.hb
        have hkk := p2.hkk
        have hl1 := p2.hl
        have ha := p2.ha
        obtain ⟨k2, hk2p⟩ : ∃ k2, p2.k2 = k2 := ⟨_, rfl⟩
        obtain ⟨kk, hkkp⟩ : ∃ kk, p2.k = kk := ⟨_, rfl⟩
        obtain ⟨l1, hl1p⟩ : ∃ l1, p2.l1 = l1 := ⟨_, rfl⟩
        rw [hk2p] at hk2 hb hkk ha
        rw [hkkp] at hkk
        rw [hl1p] at hl1 ha
        rw [hk2p, hkkp, hl1p]
        have hL1 : (l1.map enc).length = l.length := by simp [hl1]
        rcases Nat.lt_or_ge k2 (l.length - k) with hlt2 | hge2
        · have g3 : decide ((k2 : Int) < ((l.length - k : Nat) : Int)) = true := decide_eq_true (by omega)
          have y1 : (l1.map enc)[k + (k2 : Int).toNat]? = some (enc (atS l (k + k2))) := by
            rw [Int.toNat_natCast, List.getElem?_map, atS_get (by omega), ha _ (by omega)]; rfl
          have y2 : (l1.map enc)[k + ((k2 : Int) - 1).toNat]? = some (enc (atS l (k + k2 - 1))) := by
            rw [show k + ((k2 : Int) - 1).toNat = k + k2 - 1 by omega, List.getElem?_map, atS_get (by omega), ha _ (by omega)]; rfl
          have y3 := row_get (en := enc) (l := l1) (i := (kk : Int)) (p := kk) (by omega) rfl
          have q2 := pres1_ev (atS l (k + k2)) (atS l (k + k2 - 1))
          cases hd : ordF (atS l (k + k2 - 1)) (atS l (k + k2)) == 0 with
          | false =>
            rw [hd] at q2
            have hset : (l1.map enc).set (kk : Int).toNat (subD (enc (atS l1 kk)) 0 (enc (atS l (k + k2)))) = (l1.set kk (atS l (k + k2))).map enc := by
              rw [subV, Int.toNat_natCast, List.map_set]
            repeat' (first | refine qW _ rfl rfl rfl rfl rfl rfl y1 rfl ?_ | refine qW _ rfl rfl rfl rfl rfl rfl y2 rfl ?_ | refine qZ _ rfl rfl rfl rfl rfl rfl y3 rfl rfl rfl ?_ | refine zS rfl ?_ | refine qA ?_ | refine qB rfl ?_ | refine qC (by kernel_rfl) ?_ | refine qD ?_ | refine qE ?_ | refine qF ?_ | refine qG ?_ | refine qH rfl ?_ | refine qP rfl rfl rfl rfl rfl rfl hbb (q2) ?_ | refine go_indexSub rfl rfl rfl rfl rfl rfl rfl (by constructor <;> first | omega | (simp; omega) | decide) ?_ | (refine qS rfl ?_ ?_; (rw [hL1]; omega)) | refine zT rfl ?_ | refine zU rfl ?_ | refine qL rfl rfl ?_ | refine qM rfl rfl rfl ?_ | refine qO rfl rfl rfl ?_ | refine zX rfl rfl rfl rfl ?_ | refine zW rfl rfl rfl rfl ?_ | (refine qY rfl rfl rfl rfl ?_ ?_ <;> intro _) | exact zD | exact zL)
            refine go_stop ?_
            refine ⟨p2.keep (by rw [hk2p]; omega) (by rw [hk2p]; simpa using hd), by show l.length - (p2.k2 + 1) < l.length - k2; omega, ?_⟩
            show Le _ ⟨_, [.row 35 5 ((l1.map enc).set (kk : Int).toNat (subD (enc (atS l1 kk)) 0 (enc (atS l (k + k2)))))]⟩ ⟨[(0, .own 0), (1, .d (.imm (.func (.func 97) #[] #[]))), (5, .d (.int ((p2.k + 1 : Nat) : Int))), (6, .sub 0 k (l.length - k) 5), (7, .d (.int ((p2.k2 + 1 : Nat) : Int)))], [.row 35 5 ((p2.l1.set p2.k (atS l (k + p2.k2))).map enc)]⟩
            rw [hset, hk2p, hkkp, hl1p]
            exact (zle 1)
          | true =>
            rw [hd] at q2
            repeat' (first | refine qW _ rfl rfl rfl rfl rfl rfl y1 rfl ?_ | refine qW _ rfl rfl rfl rfl rfl rfl y2 rfl ?_ | refine zS rfl ?_ | refine qA ?_ | refine qB rfl ?_ | refine qC (by kernel_rfl) ?_ | refine qD ?_ | refine qE ?_ | refine qF ?_ | refine qG ?_ | refine qH rfl ?_ | refine qP rfl rfl rfl rfl rfl rfl hbb (q2) ?_ | refine go_indexSub rfl rfl rfl rfl rfl rfl rfl (by constructor <;> first | omega | (simp; omega) | decide) ?_ | refine zT rfl ?_ | refine zU rfl ?_ | refine qL rfl rfl ?_ | refine qM rfl rfl rfl ?_ | refine qO rfl rfl rfl ?_ | refine zX rfl rfl rfl rfl ?_ | refine zW rfl rfl rfl rfl ?_ | (refine qY rfl rfl rfl rfl ?_ ?_ <;> intro _) | exact zD | exact zL)
            refine go_stop ?_
            refine ⟨p2.drop (by rw [hk2p]; omega) (by rw [hk2p]; simpa using hd), by show l.length - (p2.k2 + 1) < l.length - k2; omega, ?_⟩
            show Le _ _ ⟨[(0, .own 0), (1, .d (.imm (.func (.func 97) #[] #[]))), (5, .d (.int ((p2.k : Nat) : Int))), (6, .sub 0 k (l.length - k) 5), (7, .d (.int ((p2.k2 + 1 : Nat) : Int)))], [.row 35 5 (p2.l1.map enc)]⟩
            rw [hk2p, hkkp, hl1p]
            exact (zle 1)
        · have g3 : decide ((k2 : Int) < ((l.length - k : Nat) : Int)) = false := decide_eq_false (by omega)
          have hdone := p2.done (by rw [hk2p]; omega)
          rw [hkkp, hl1p] at hdone
          rw [hdone]
          repeat' (first | refine go_clear rfl rfl rfl rfl rfl rfl rfl rfl rfl (by omega) (go_frzS 0 rfl ?_) | refine zS rfl ?_ | refine qA ?_ | refine qB rfl ?_ | refine qC (by kernel_rfl) ?_ | refine qD ?_ | refine qE ?_ | refine qF ?_ | refine qG ?_ | refine qH rfl ?_ | refine go_sliceOwn rfl rfl rfl rfl rfl rfl rfl rfl rfl (by constructor <;> first | omega | (simp; omega) | decide) ?_ | refine zT rfl ?_ | refine zU rfl ?_ | refine qL rfl rfl ?_ | refine qM rfl rfl rfl ?_ | refine qO rfl rfl rfl ?_ | refine zX rfl rfl rfl rfl ?_ | refine zW rfl rfl rfl rfl ?_ | (refine qY rfl rfl rfl rfl ?_ ?_ <;> intro _) | exact zD | exact zL)
          refine qS rfl ?_ ?_
          · refine ⟨⟨by omega, ?_⟩, ?_⟩
            · simp only [List.length_append, List.length_take, List.length_map, hl1]
              omega
            · refine ⟨_, rfl, fun d hd => ?_⟩
              rcases List.mem_append.1 hd with hd | hd
              · rcases List.mem_append.1 hd with hd | hd
                · obtain ⟨v, -, rfl⟩ := List.mem_map.1 (List.mem_of_mem_take hd)
                  rfl
                · rw [List.eq_of_mem_replicate hd]; rfl
              · obtain ⟨v, -, rfl⟩ := List.mem_map.1 (List.mem_of_mem_drop hd)
                rfl
          repeat' (first | refine zS rfl ?_ | refine qA ?_ | refine qB rfl ?_ | refine qC (by kernel_rfl) ?_ | refine qD ?_ | refine qE ?_ | refine qF ?_ | refine qG ?_ | refine qH rfl ?_ | refine retD1 [0] rfl rfl rfl rfl rfl ?_ | refine retD2 [0] rfl rfl rfl rfl rfl rfl ?_ | refine zT rfl ?_ | refine zU rfl ?_ | refine qL rfl rfl ?_ | refine qM rfl rfl rfl ?_ | refine qO rfl rfl rfl ?_ | refine zX rfl rfl rfl rfl ?_ | refine zW rfl rfl rfl rfl ?_ | (refine qY rfl rfl rfl rfl ?_ ?_ <;> intro _) | exact zD | exact zL)
          refine congrArg D.sl ?_
          rw [Int.toNat_natCast, List.append_assoc, List.take_append_of_le_length (by simp; omega), List.take_take, Nat.min_self, ← List.map_take]
    · have g1 : decide ((k : Int) < ((l.map enc).length : Int)) = false := decide_eq_false (by omega)
      rw [p.done (by rw [hkp]; exact hge)]
      repeat' (first | refine zS rfl ?_ | refine qA ?_ | refine qB rfl ?_ | refine qC (by kernel_rfl) ?_ | refine qD ?_ | refine qE ?_ | refine qF ?_ | refine qG ?_ | refine qH rfl ?_ | refine zT rfl ?_ | refine zU rfl ?_ | refine qL rfl rfl ?_ | refine qM rfl rfl rfl ?_ | refine qO rfl rfl rfl ?_ | refine zX rfl rfl rfl rfl ?_ | refine zW rfl rfl rfl rfl ?_ | (refine qY rfl rfl rfl rfl ?_ ?_ <;> intro _) | exact zD | exact zL)
      refine go_frz 0 rfl ?_
      repeat' (first | refine zS rfl ?_ | refine qA ?_ | refine qB rfl ?_ | refine qC (by kernel_rfl) ?_ | refine qD ?_ | refine qE ?_ | refine qF ?_ | refine qG ?_ | refine qH rfl ?_ | refine retD1 [0] rfl rfl rfl rfl rfl ?_ | refine retD2 [0] rfl rfl rfl rfl rfl rfl ?_ | refine zT rfl ?_ | refine zU rfl ?_ | refine qL rfl rfl ?_ | refine qM rfl rfl rfl ?_ | refine qO rfl rfl rfl ?_ | refine zX rfl rfl rfl rfl ?_ | refine zW rfl rfl rfl rfl ?_ | (refine qY rfl rfl rfl rfl ?_ ?_ <;> intro _) | exact zD | exact zL)
structure PrT (l : List V) where
  i : Nat
  out : List V
  hi : i ≤ l.length
  ho : out.length ≤ i
  ht : presF l = out ++ presF (l.drop i)
theorem pres_cons (x : V) (r : List V) : presF (x :: r) = (bif prP x then [x] else []) ++ presF r := by
  unfold presF
  cases h : prP x <;> simp [List.filter_cons, h]
theorem encL_app (a : List V) (x : V) : encL (a ++ [x]) = encL a ++ [enc x] := by simp [encL_map]
theorem present_ev (b : Bool) (l : List V) (hm : l.length ≤ 2000000) : Ev E 50 [.bool b, .sl (encL l)] (.d (.sl (encL (pickF b l)))) := by
  have hle : (encL l).length = l.length := encL_len l
  generalize hR : pickF b l = R
  have hob := b37
  refine enter2 Tryz.func50 Tryz.ntmps50 rfl rfl fun w0 F0 O => ?_
  repeat' (first | refine zS rfl ?_ | refine qA ?_ | refine qB rfl ?_ | refine qC (by kernel_rfl) ?_ | refine qD ?_ | refine qE ?_ | refine qF ?_ | refine qG ?_ | refine qH rfl ?_ | refine zT rfl ?_ | refine zU rfl ?_ | refine qL rfl rfl ?_ | refine qM rfl rfl rfl ?_ | refine qO rfl rfl rfl ?_ | refine zX rfl rfl rfl rfl ?_ | refine zW rfl rfl rfl rfl ?_ | (refine qY rfl rfl rfl rfl ?_ ?_ <;> intro _) | exact zD | exact zL)
  refine go_loop_ (α := PrT l) (fun p => ⟨[(0, .d (.bool b)), (5, rowX (encL p.out)), (8, .d (.sl (encL l))), (9, .d (.int (encL l).length)), (10, .d (.int p.i))], rowO 35 5 (encL p.out)⟩) (fun p => l.length - p.i) ⟨0, [], by omega, by simp, rfl⟩ ((zle 0)) ?_
  rintro ⟨i, out, hi, ho, ht⟩
  dsimp only
  rcases Nat.lt_or_ge i l.length with hlt | hge
  · have g1 : decide ((i : Int) < ((encL l).length : Int)) = true := by rw [hle]; simpa using hlt
    have hx0 := List.getElem?_eq_getElem hlt
    generalize l[i] = x at hx0
    have hx : (encL l)[(i : Int).toNat]? = some (enc x) := encL_get (by rw [Int.toNat_natCast]; exact hx0)
    have hv := Valid_ev ixOK x
    rw [drop_at hx0, pres_cons] at ht
    have hll : (encL out).length ≤ i := by rw [encL_len]; exact ho
    cases hk : x.k != 0 with
    | false =>
      have hp : prP x = false := by unfold prP; rw [hk]; rfl
      rw [hp, cond_false, List.nil_append] at ht
      generalize hq : encL out = eo at *
      match eo, hll with
      | [], hll =>
        dsimp only [rowX, rowO]
        repeat' (first | refine zS rfl ?_ | refine qA ?_ | refine qB rfl ?_ | refine qC (by kernel_rfl) ?_ | refine qD ?_ | refine qE ?_ | refine qF ?_ | refine qG ?_ | refine qH rfl ?_ | refine qI (enc x) rfl (guardX_ok rfl) rfl rfl rfl rfl rfl rfl (by first | omega | decide) hx ?_ | refine qP rfl rfl rfl rfl rfl rfl b40 (hv) ?_ | refine zT rfl ?_ | refine zU rfl ?_ | refine qL rfl rfl ?_ | refine qM rfl rfl rfl ?_ | refine qO rfl rfl rfl ?_ | refine zX rfl rfl rfl rfl ?_ | refine zW rfl rfl rfl rfl ?_ | (refine qY rfl rfl rfl rfl ?_ ?_ <;> intro _) | exact zD | exact zL)
        refine go_stop ?_
        refine ⟨⟨i + 1, out, by omega, by omega, ht⟩, by dsimp only; omega, ?_⟩
        dsimp only
        rw [hq]
        exact (zle 0)
      | a :: q, hll =>
        dsimp only [rowX, rowO]
        repeat' (first | refine zS rfl ?_ | refine qA ?_ | refine qB rfl ?_ | refine qC (by kernel_rfl) ?_ | refine qD ?_ | refine qE ?_ | refine qF ?_ | refine qG ?_ | refine qH rfl ?_ | refine qI (enc x) rfl (guardX_ok rfl) rfl rfl rfl rfl rfl rfl (by first | omega | decide) hx ?_ | refine qP rfl rfl rfl rfl rfl rfl b40 (hv) ?_ | refine zT rfl ?_ | refine zU rfl ?_ | refine qL rfl rfl ?_ | refine qM rfl rfl rfl ?_ | refine qO rfl rfl rfl ?_ | refine zX rfl rfl rfl rfl ?_ | refine zW rfl rfl rfl rfl ?_ | (refine qY rfl rfl rfl rfl ?_ ?_ <;> intro _) | exact zD | exact zL)
        refine go_stop ?_
        refine ⟨⟨i + 1, out, by omega, by omega, ht⟩, by dsimp only; omega, ?_⟩
        dsimp only
        rw [hq]
        exact (zle 1)
    | true =>
    cases ho2 : Val.okV x with
    | false =>
      rw [ho2] at hv
      have hp : prP x = false := by unfold prP; rw [hk, ho2]; rfl
      rw [hp, cond_false, List.nil_append] at ht
      generalize hq : encL out = eo at *
      match eo, hll with
      | [], hll =>
        dsimp only [rowX, rowO]
        repeat' (first | refine zS rfl ?_ | refine qA ?_ | refine qB rfl ?_ | refine qC (by kernel_rfl) ?_ | refine qD ?_ | refine qE ?_ | refine qF ?_ | refine qG ?_ | refine qH rfl ?_ | refine qI (enc x) rfl (guardX_ok rfl) rfl rfl rfl rfl rfl rfl (by first | omega | decide) hx ?_ | refine qP rfl rfl rfl rfl rfl rfl b40 (hv) ?_ | refine zT rfl ?_ | refine zU rfl ?_ | refine qL rfl rfl ?_ | refine qM rfl rfl rfl ?_ | refine qO rfl rfl rfl ?_ | refine zX rfl rfl rfl rfl ?_ | refine zW rfl rfl rfl rfl ?_ | (refine qY rfl rfl rfl rfl ?_ ?_ <;> intro _) | exact zD | exact zL)
        refine go_stop ?_
        refine ⟨⟨i + 1, out, by omega, by omega, ht⟩, by dsimp only; omega, ?_⟩
        dsimp only
        rw [hq]
        exact (zle 0)
      | a :: q, hll =>
        dsimp only [rowX, rowO]
        repeat' (first | refine zS rfl ?_ | refine qA ?_ | refine qB rfl ?_ | refine qC (by kernel_rfl) ?_ | refine qD ?_ | refine qE ?_ | refine qF ?_ | refine qG ?_ | refine qH rfl ?_ | refine qI (enc x) rfl (guardX_ok rfl) rfl rfl rfl rfl rfl rfl (by first | omega | decide) hx ?_ | refine qP rfl rfl rfl rfl rfl rfl b40 (hv) ?_ | refine zT rfl ?_ | refine zU rfl ?_ | refine qL rfl rfl ?_ | refine qM rfl rfl rfl ?_ | refine qO rfl rfl rfl ?_ | refine zX rfl rfl rfl rfl ?_ | refine zW rfl rfl rfl rfl ?_ | (refine qY rfl rfl rfl rfl ?_ ?_ <;> intro _) | exact zD | exact zL)
        refine go_stop ?_
        refine ⟨⟨i + 1, out, by omega, by omega, ht⟩, by dsimp only; omega, ?_⟩
        dsimp only
        rw [hq]
        exact (zle 1)
    | true =>
      rw [ho2] at hv
      have hp : prP x = true := by unfold prP; rw [hk, ho2]; rfl
      rw [hp, cond_true, ← List.append_assoc] at ht
      have happ := encL_app out x
      generalize hq : encL out = eo at *
      match eo, hll with
      | [], hll =>
        dsimp only [rowX, rowO]
        repeat' (first | refine zS rfl ?_ | refine qA ?_ | refine qB rfl ?_ | refine qC (by kernel_rfl) ?_ | refine qD ?_ | refine qE ?_ | refine qF ?_ | refine qG ?_ | refine qH rfl ?_ | refine qI (enc x) rfl (guardX_ok rfl) rfl rfl rfl rfl rfl rfl (by first | omega | decide) hx ?_ | refine qP rfl rfl rfl rfl rfl rfl b40 (hv) ?_ | (refine qS rfl ⟨by simp, fun d hd => by (obtain rfl := List.mem_singleton.1 hd; rfl), by (show (0 + 1) * 64 ≤ 140737488355328; omega), by (show 0 + 1 ≤ 9223372036854775807; omega)⟩ ?_) | refine zT rfl ?_ | refine zU rfl ?_ | refine qL rfl rfl ?_ | refine qM rfl rfl rfl ?_ | refine qO rfl rfl rfl ?_ | refine zX rfl rfl rfl rfl ?_ | refine zW rfl rfl rfl rfl ?_ | (refine qY rfl rfl rfl rfl ?_ ?_ <;> intro _) | exact zD | exact zL)
        refine go_stop ?_
        refine ⟨⟨i + 1, out ++ [x], by omega, by simp; omega, ht⟩, by dsimp only; omega, ?_⟩
        dsimp only
        rw [happ]
        exact (zren [1])
      | a :: q, hll =>
        dsimp only [rowX, rowO]
        repeat' (first | refine zS rfl ?_ | refine qA ?_ | refine qB rfl ?_ | refine qC (by kernel_rfl) ?_ | refine qD ?_ | refine qE ?_ | refine qF ?_ | refine qG ?_ | refine qH rfl ?_ | refine qI (enc x) rfl (guardX_ok rfl) rfl rfl rfl rfl rfl rfl (by first | omega | decide) hx ?_ | refine qP rfl rfl rfl rfl rfl rfl b40 (hv) ?_ | (refine qS rfl ⟨by simp, fun d hd => by (obtain rfl := List.mem_singleton.1 hd; rfl), by (show ((a :: q).length + 1) * 64 ≤ 140737488355328; omega), by (show (a :: q).length + 1 ≤ 9223372036854775807; omega)⟩ ?_) | refine zT rfl ?_ | refine zU rfl ?_ | refine qL rfl rfl ?_ | refine qM rfl rfl rfl ?_ | refine qO rfl rfl rfl ?_ | refine zX rfl rfl rfl rfl ?_ | refine zW rfl rfl rfl rfl ?_ | (refine qY rfl rfl rfl rfl ?_ ?_ <;> intro _) | exact zD | exact zL)
        refine go_stop ?_
        refine ⟨⟨i + 1, out ++ [x], by omega, by simp; omega, ht⟩, by dsimp only; omega, ?_⟩
        dsimp only
        rw [happ]
        exact (zren [2])
  · have g1 : decide ((i : Int) < ((encL l).length : Int)) = false := by rw [hle]; simp; omega
    rw [List.drop_eq_nil_of_le hge] at ht
    have ht2 : presF l = out := by rw [ht]; simp [presF]
    have hR2 : pickF b l = bif b then uniF ordF (stS ordF out) else stS ordF out := by rw [← ht2]; rfl
    rw [hR] at hR2
    have q := StableV_evS 37 hob ordF (fun x y => Order_ev x y) out (by omega)
    have hS : (stS ordF out).length = out.length := (stS_ok ordC out).1.len
    have q2 := Compact_evS (stS ordF out) (by omega)
    have q3 := Stable0_ev 37
    have q4 := Compact0_ev 97
    cases out with
    | nil =>
      have e1 : stS ordF ([] : List V) = [] := List.length_eq_zero_iff.1 hS
      rw [e1] at hR2
      have e2 : R = [] := by rw [hR2]; cases b <;> rfl
      rw [e2]
      show go _ _ ⟨[(0, .d (.bool b)), (5, rowX []), (8, .d (.sl (encL l))), (9, .d (.int (encL l).length)), (10, .d (.int i))], rowO 35 5 []⟩ _
      dsimp only [rowX, rowO]
      cases hb : b with
      | true =>
        repeat' (first | refine zS rfl ?_ | refine qA ?_ | refine qB rfl ?_ | refine qC (by kernel_rfl) ?_ | refine qD ?_ | refine qE ?_ | refine qF ?_ | refine qG ?_ | refine qH rfl ?_ | refine go_callS [] rfl rfl rfl rfl (FnX.plain _) b95 (q3) rfl rfl rfl rfl rfl ?_ | refine qP rfl rfl rfl rfl rfl rfl b96 (q4) ?_ | refine zT rfl ?_ | refine zU rfl ?_ | refine qL rfl rfl ?_ | refine qM rfl rfl rfl ?_ | refine qO rfl rfl rfl ?_ | refine zX rfl rfl rfl rfl ?_ | refine zW rfl rfl rfl rfl ?_ | (refine qY rfl rfl rfl rfl ?_ ?_ <;> intro _) | exact zD | exact zL)
      | false =>
        repeat' (first | refine zS rfl ?_ | refine qA ?_ | refine qB rfl ?_ | refine qC (by kernel_rfl) ?_ | refine qD ?_ | refine qE ?_ | refine qF ?_ | refine qG ?_ | refine qH rfl ?_ | refine go_callS [] rfl rfl rfl rfl (FnX.plain _) b95 (q3) rfl rfl rfl rfl rfl ?_ | refine zT rfl ?_ | refine zU rfl ?_ | refine qL rfl rfl ?_ | refine qM rfl rfl rfl ?_ | refine qO rfl rfl rfl ?_ | refine zX rfl rfl rfl rfl ?_ | refine zW rfl rfl rfl rfl ?_ | (refine qY rfl rfl rfl rfl ?_ ?_ <;> intro _) | exact zD | exact zL)
    | cons x r =>
      have e1 : encL (x :: r) = (x :: r).map enc := encL_map _
      rw [e1]
      have e2 : ∀ {t : Nat} {s : Nat}, rowX ((x :: r).map enc) = .own 0 ∧ rowO t s ((x :: r).map enc) = [.row t s ((x :: r).map enc)] := ⟨rfl, rfl⟩
      rw [(e2 (t := 0) (s := 0)).1, e2.2]
      cases hb : b with
      | true =>
        rw [hb, cond_true] at hR2
        rw [hR2, encL_map (uniF ordF (stS ordF (x :: r)))]
        repeat' (first | refine zS rfl ?_ | refine qA ?_ | refine qB rfl ?_ | refine qC (by kernel_rfl) ?_ | refine qD ?_ | refine qE ?_ | refine qF ?_ | refine qG ?_ | refine qH rfl ?_ | refine go_callS [0] rfl rfl rfl rfl (FnX.plain _) b95 (q) rfl rfl rfl rfl rfl ?_ | refine go_callS [0] rfl rfl rfl rfl (FnX.plain _) b96 (q2) rfl rfl rfl rfl rfl ?_ | refine zT rfl ?_ | refine zU rfl ?_ | refine qL rfl rfl ?_ | refine qM rfl rfl rfl ?_ | refine qO rfl rfl rfl ?_ | refine zX rfl rfl rfl rfl ?_ | refine zW rfl rfl rfl rfl ?_ | (refine qY rfl rfl rfl rfl ?_ ?_ <;> intro _) | exact zD | exact zL)
      | false =>
        rw [hb, cond_false] at hR2
        rw [hR2, encL_map (stS ordF (x :: r))]
        repeat' (first | refine zS rfl ?_ | refine qA ?_ | refine qB rfl ?_ | refine qC (by kernel_rfl) ?_ | refine qD ?_ | refine qE ?_ | refine qF ?_ | refine qG ?_ | refine qH rfl ?_ | refine go_callS [0] rfl rfl rfl rfl (FnX.plain _) b95 (q) rfl rfl rfl rfl rfl ?_ | refine zT rfl ?_ | refine zU rfl ?_ | refine qL rfl rfl ?_ | refine qM rfl rfl rfl ?_ | refine qO rfl rfl rfl ?_ | refine zX rfl rfl rfl rfl ?_ | refine zW rfl rfl rfl rfl ?_ | (refine qY rfl rfl rfl rfl ?_ ?_ <;> intro _) | exact zD | exact zL)
        refine go_frz 0 rfl ?_
        repeat' (first | refine zS rfl ?_ | refine qA ?_ | refine qB rfl ?_ | refine qC (by kernel_rfl) ?_ | refine qD ?_ | refine qE ?_ | refine qF ?_ | refine qG ?_ | refine qH rfl ?_ | refine zT rfl ?_ | refine zU rfl ?_ | refine qL rfl rfl ?_ | refine qM rfl rfl rfl ?_ | refine qO rfl rfl rfl ?_ | refine zX rfl rfl rfl rfl ?_ | refine zW rfl rfl rfl rfl ?_ | (refine qY rfl rfl rfl rfl ?_ ?_ <;> intro _) | exact zD | exact zL)
end Go.Proofs.YtjgmakalledclaaGreatDoor

/- Sums of values and numbers as values, the program's. Conditions: none. -/
namespace Go.Proofs.YtjgmakalledclaaGreatDoor
set_option maxRecDepth 4000
open Go Go.Abs Go.Val Go.RowKit
attribute [local irreducible] go SGo HasBody Ev ExtEv EvO EvS RGo
theorem number_ev (n d : Int) (b : Bool) : Ev E 51 [.agg [.int n, .int d], .bool b] (.d (enc (numF b n d))) := by
  have q := rat_ev n d
  unfold numF
  cases b with
  | true =>
    have g : (!true) = false := rfl
    refine enter2 Tryz.func51 Tryz.ntmps51 rfl rfl fun w0 F0 O => ?_
    repeat' (first | refine zS rfl ?_ | refine qA ?_ | refine qB rfl ?_ | refine qC (by kernel_rfl) ?_ | refine qD ?_ | refine qE ?_ | refine qF ?_ | refine qG ?_ | refine qH rfl ?_ | refine qP rfl rfl rfl rfl rfl rfl b29 (q) ?_ | refine qP rfl rfl rfl rfl rfl rfl b32 (null_ev) ?_ | refine zT rfl ?_ | refine zU rfl ?_ | refine qL rfl rfl ?_ | refine qM rfl rfl rfl ?_ | refine qO rfl rfl rfl ?_ | refine zX rfl rfl rfl rfl ?_ | refine zW rfl rfl rfl rfl ?_ | (refine qY rfl rfl rfl rfl ?_ ?_ <;> intro _) | exact zD | exact zL)
  | false =>
    have g : (!false) = true := rfl
    refine enter2 Tryz.func51 Tryz.ntmps51 rfl rfl fun w0 F0 O => ?_
    repeat' (first | refine zS rfl ?_ | refine qA ?_ | refine qB rfl ?_ | refine qC (by kernel_rfl) ?_ | refine qD ?_ | refine qE ?_ | refine qF ?_ | refine qG ?_ | refine qH rfl ?_ | refine qP rfl rfl rfl rfl rfl rfl b29 (q) ?_ | refine qP rfl rfl rfl rfl rfl rfl b32 (null_ev) ?_ | refine zT rfl ?_ | refine zU rfl ?_ | refine qL rfl rfl ?_ | refine qM rfl rfl rfl ?_ | refine qO rfl rfl rfl ?_ | refine zX rfl rfl rfl rfl ?_ | refine zW rfl rfl rfl rfl ?_ | (refine qY rfl rfl rfl rfl ?_ ?_ <;> intro _) | exact zD | exact zL)
structure ToT (u : List V) where
  i : Nat
  n : Int
  d : Int
  hi : i ≤ u.length
  hB : sumB n d (u.drop i) = sumB 0 1 u
  hN : sumN n d (u.drop i) = sumN 0 1 u
  hD : sumD n d (u.drop i) = sumD 0 1 u
abbrev zFr : AObj := .var 58 (.cs [.d (.int 0), .d (.int 0)])
/-- What the program's sum gives. -/
def totX (u : List V) : X := .tup [.agg [.int (bif sumB 0 1 u then sumN 0 1 u else 0), .int (bif sumB 0 1 u then sumD 0 1 u else 0)], .bool (sumB 0 1 u)]
theorem total_ev (u : List V) : Ev E 52 [.sl (encL u)] (totX u) := Ev.fit fun hfit => by
  obtain ⟨hma, -⟩ := fit_encL (hfit (.sl (encL u)) (by simp))
  have hle : (encL u).length = u.length := encL_len u
  unfold totX
  refine enter1 Tryz.func52 Tryz.ntmps52 rfl rfl fun w0 F0 O => ?_
  repeat' (first | refine zS rfl ?_ | refine qA ?_ | refine qB rfl ?_ | refine qC (by kernel_rfl) ?_ | refine qD ?_ | refine qE ?_ | refine qF ?_ | refine qG ?_ | refine qH rfl ?_ | refine zT rfl ?_ | refine zU rfl ?_ | refine qL rfl rfl ?_ | refine qM rfl rfl rfl ?_ | refine qO rfl rfl rfl ?_ | refine zX rfl rfl rfl rfl ?_ | refine zW rfl rfl rfl rfl ?_ | (refine qY rfl rfl rfl rfl ?_ ?_ <;> intro _) | exact zD | exact zL)
  refine go_loop_ (α := ToT u) (fun p => ⟨[(2, .ptr 0 0), (3, .d (.bool false)), (4, .ptr 1 0), (10, .d (.sl (encL u))), (11, .d (.int (encL u).length)), (12, .d (.int p.i))], [zFr, .var 58 (.w (.d (.agg [.int p.n, .int p.d])))]⟩) (fun p => u.length - p.i) ⟨0, 0, 1, by omega, rfl, rfl, rfl⟩ ((zle 2)) ?_
  rintro ⟨i, n, d, hi, hB, hN, hD⟩
  dsimp only
  rcases Nat.lt_or_ge i u.length with hlt | hge
  · have g1 : decide ((i : Int) < ((encL u).length : Int)) = true := by rw [hle]; simpa using hlt
    have hx0 := List.getElem?_eq_getElem hlt
    generalize u[i] = x at hx0
    have hx : (encL u)[(i : Int).toNat]? = some (enc x) := encL_get (by rw [Int.toNat_natCast]; exact hx0)
    have q1 := Number_ev ixOK x
    have q2 := add_ev n d (numN x) (numD x)
    rw [drop_at hx0] at hB hN hD
    simp only [sumB, sumN, sumD] at hB hN hD
    cases h1 : isNum x with
    | false =>
      rw [h1, Bool.false_and] at hB
      rw [h1] at q1
      have e : sumB 0 1 u = false := hB.symm
      rw [e]
      have g : (!false) = true := rfl
      repeat' (first | refine zS rfl ?_ | refine qA ?_ | refine qB rfl ?_ | refine qC (by kernel_rfl) ?_ | refine qD ?_ | refine qE ?_ | refine qF ?_ | refine qG ?_ | refine qH rfl ?_ | refine qI (enc x) rfl (guardX_ok rfl) rfl rfl rfl rfl rfl rfl (by first | omega | decide) hx ?_ | refine qP rfl rfl rfl rfl rfl rfl b73 (q1) ?_ | refine zT rfl ?_ | refine zU rfl ?_ | refine qL rfl rfl ?_ | refine qM rfl rfl rfl ?_ | refine qO rfl rfl rfl ?_ | refine zX rfl rfl rfl rfl ?_ | refine zW rfl rfl rfl rfl ?_ | (refine qY rfl rfl rfl rfl ?_ ?_ <;> intro _) | exact zD | exact zL)
    | true =>
      rw [h1, Bool.true_and] at hB
      rw [h1] at q1
      have g : (!true) = false := rfl
      cases h2 : addB n d (numN x) (numD x) with
      | false =>
        rw [h2, Bool.false_and] at hB
        rw [h2] at q2
        have e : sumB 0 1 u = false := hB.symm
        rw [e]
        have g9 : (!false) = true := rfl
        repeat' (first | refine zS rfl ?_ | refine qA ?_ | refine qB rfl ?_ | refine qC (by kernel_rfl) ?_ | refine qD ?_ | refine qE ?_ | refine qF ?_ | refine qG ?_ | refine qH rfl ?_ | refine qI (enc x) rfl (guardX_ok rfl) rfl rfl rfl rfl rfl rfl (by first | omega | decide) hx ?_ | refine qP rfl rfl rfl rfl rfl rfl b73 (q1) ?_ | refine qP rfl rfl rfl rfl rfl rfl b98 (q2) ?_ | refine zT rfl ?_ | refine zU rfl ?_ | refine qL rfl rfl ?_ | refine qM rfl rfl rfl ?_ | refine qO rfl rfl rfl ?_ | refine zX rfl rfl rfl rfl ?_ | refine zW rfl rfl rfl rfl ?_ | (refine qY rfl rfl rfl rfl ?_ ?_ <;> intro _) | exact zD | exact zL)
      | true =>
        rw [h2, Bool.true_and] at hB
        rw [h2] at q2
        repeat' (first | refine zS rfl ?_ | refine qA ?_ | refine qB rfl ?_ | refine qC (by kernel_rfl) ?_ | refine qD ?_ | refine qE ?_ | refine qF ?_ | refine qG ?_ | refine qH rfl ?_ | refine qI (enc x) rfl (guardX_ok rfl) rfl rfl rfl rfl rfl rfl (by first | omega | decide) hx ?_ | refine qP rfl rfl rfl rfl rfl rfl b73 (q1) ?_ | refine qP rfl rfl rfl rfl rfl rfl b98 (q2) ?_ | refine zT rfl ?_ | refine zU rfl ?_ | refine qL rfl rfl ?_ | refine qM rfl rfl rfl ?_ | refine qO rfl rfl rfl ?_ | refine zX rfl rfl rfl rfl ?_ | refine zW rfl rfl rfl rfl ?_ | (refine qY rfl rfl rfl rfl ?_ ?_ <;> intro _) | exact zD | exact zL)
        refine go_stop ?_
        exact ⟨⟨i + 1, _, _, by omega, hB, hN, hD⟩, by dsimp only; omega, (zle 2)⟩
  · have g1 : decide ((i : Int) < ((encL u).length : Int)) = false := by rw [hle]; simp; omega
    rw [List.drop_eq_nil_of_le hge] at hB hN hD
    simp only [sumB, sumN, sumD] at hB hN hD
    rw [← hB, ← hN, ← hD]
    repeat' (first | refine zS rfl ?_ | refine qA ?_ | refine qB rfl ?_ | refine qC (by kernel_rfl) ?_ | refine qD ?_ | refine qE ?_ | refine qF ?_ | refine qG ?_ | refine qH rfl ?_ | refine zT rfl ?_ | refine zU rfl ?_ | refine qL rfl rfl ?_ | refine qM rfl rfl rfl ?_ | refine qO rfl rfl rfl ?_ | refine zX rfl rfl rfl rfl ?_ | refine zW rfl rfl rfl rfl ?_ | (refine qY rfl rfl rfl rfl ?_ ?_ <;> intro _) | exact zD | exact zL)
end Go.Proofs.YtjgmakalledclaaGreatDoor

/- The program's aggregate functions. Conditions: at most two million values, each small. -/
namespace Go.Proofs.YtjgmakalledclaaGreatDoor
set_option maxRecDepth 4000
open Go Go.Abs Go.Val Go.RowKit
attribute [local irreducible] go SGo HasBody Ev ExtEv EvO EvS RGo
theorem nmCountE : (⟨#[99, 111, 117, 110, 116]⟩ : ByteArray).toList = nmCount := by decide +kernel
theorem nmSumE : (⟨#[115, 117, 109]⟩ : ByteArray).toList = nmSum := by decide +kernel
theorem nmCollectE : (⟨#[99, 111, 108, 108, 101, 99, 116]⟩ : ByteArray).toList = nmCollect := by decide +kernel
theorem nmMinE : (⟨#[109, 105, 110]⟩ : ByteArray).toList = nmMin := by decide +kernel
theorem nmMaxE : (⟨#[109, 97, 120]⟩ : ByteArray).toList = nmMax := by decide +kernel
theorem nmAvgE : (⟨#[97, 118, 103]⟩ : ByteArray).toList = nmAvg := by decide +kernel
theorem stS_mem {l : List V} {x : V} (h : x ∈ stS ordF l) : x ∈ l := (stS_ok ordC l).1.per.subset h
theorem pick_mem {b : Bool} {l : List V} {x : V} (h : x ∈ pickF b l) : x ∈ l := by
  have h1 : ∀ x ∈ srtF l, x ∈ l := fun x hx => (List.mem_filter.1 (stS_mem hx)).1
  cases b with
  | true => exact h1 x (uniF_mem _ _ x h)
  | false => exact h1 x h
theorem pick_len (b : Bool) (l : List V) : (pickF b l).length ≤ l.length := by
  have h1 : (srtF l).length ≤ l.length := by rw [srt_len]; exact List.length_filter_le _ _
  cases b with
  | true => exact Nat.le_trans (uniF_len _ _) h1
  | false => exact h1
theorem narU {l : List V} : (∀ x ∈ l, nar x = true) → l.length ≤ 2000000 → nar (vList l) = true := fun h hl => by
  have hL : ∀ l : List V, (∀ x ∈ l, nar x = true) → narL l = true := by
    intro l
    induction l with
    | nil => intro _; rfl
    | cons x r ih =>
      intro h
      simp only [narL, Bool.and_eq_true]
      exact ⟨h x (by simp), ih fun y hy => h y (by simp [hy])⟩
  unfold vList
  simp only [nar, Bool.and_eq_true, decide_eq_true_eq]
  exact ⟨hl, hL l h⟩
set_option maxHeartbeats 1000000 in
theorem Agg_ev (name : ByteArray) (b : Bool) (l : List V) (hm : l.length ≤ 2000000) (hn : ∀ x ∈ l, nar x = true) : Ev E 22 [.str name, .bool b, .sl (encL l)] (.d (enc (agF name b l))) := by
  have qp := present_ev b l hm
  have hul := pick_len b l
  have hum : ∀ x ∈ pickF b l, nar x = true := fun x hx => hn x (pick_mem hx)
  unfold agF
  generalize pickF b l = u at qp hul hum
  have hle : (encL u).length = u.length := encL_len u
  have qt := total_ev u
  unfold totX at qt
  have qi := int_ev u.length
  rw [← hle] at qi
  have ql := list_ev u (narU hum (by omega))
  have qv := Valid_ev ixOK (vList u)
  have hat : ∀ k, k < u.length → atS u k ∈ u := fun k hk => List.mem_of_getElem? (atS_get hk)
  unfold agU
  cases hCount : name.toList == nmCount with
  | true =>
    have gCount : (name.toList == (⟨#[99, 111, 117, 110, 116]⟩ : ByteArray).toList) = true := by rw [nmCountE]; exact hCount
    rw [cond_true, ← hle]
    refine enter3 Tryz.func22 Tryz.ntmps22 rfl rfl fun w0 F0 O => ?_
    repeat' (first | refine zS rfl ?_ | refine qA ?_ | refine qB rfl ?_ | refine qC (by kernel_rfl) ?_ | refine qD ?_ | refine qE ?_ | refine qF ?_ | refine qG ?_ | refine qH rfl ?_ | refine qP rfl rfl rfl rfl rfl rfl b50 (qp) ?_ | refine qP rfl rfl rfl rfl rfl rfl b31 (qi) ?_ | refine zT rfl ?_ | refine zU rfl ?_ | refine qL rfl rfl ?_ | refine qM rfl rfl rfl ?_ | refine qO rfl rfl rfl ?_ | refine zX rfl rfl rfl rfl ?_ | refine zW rfl rfl rfl rfl ?_ | (refine qY rfl rfl rfl rfl ?_ ?_ <;> intro _) | exact zD | exact zL)
  | false =>
    rw [cond_false]
    have gCount : (name.toList == (⟨#[99, 111, 117, 110, 116]⟩ : ByteArray).toList) = false := by rw [nmCountE]; exact hCount
    cases hSum : name.toList == nmSum with
    | true =>
      have gSum : (name.toList == (⟨#[115, 117, 109]⟩ : ByteArray).toList) = true := by rw [nmSumE]; exact hSum
      rw [cond_true]
      cases hB : sumB 0 1 u with
      | true =>
        rw [hB, cond_true, cond_true] at qt
        have qn := number_ev (sumN 0 1 u) (sumD 0 1 u) true
        refine enter3 Tryz.func22 Tryz.ntmps22 rfl rfl fun w0 F0 O => ?_
        repeat' (first | refine zS rfl ?_ | refine qA ?_ | refine qB rfl ?_ | refine qC (by kernel_rfl) ?_ | refine qD ?_ | refine qE ?_ | refine qF ?_ | refine qG ?_ | refine qH rfl ?_ | refine qP rfl rfl rfl rfl rfl rfl b50 (qp) ?_ | refine qP rfl rfl rfl rfl rfl rfl b52 (qt) ?_ | refine qP rfl rfl rfl rfl rfl rfl b51 (qn) ?_ | refine zT rfl ?_ | refine zU rfl ?_ | refine qL rfl rfl ?_ | refine qM rfl rfl rfl ?_ | refine qO rfl rfl rfl ?_ | refine zX rfl rfl rfl rfl ?_ | refine zW rfl rfl rfl rfl ?_ | (refine qY rfl rfl rfl rfl ?_ ?_ <;> intro _) | exact zD | exact zL)
      | false =>
        rw [hB, cond_false, cond_false] at qt
        have qn := number_ev 0 0 false
        have e : numF false (sumN 0 1 u) (sumD 0 1 u) = numF false 0 0 := rfl
        rw [e]
        refine enter3 Tryz.func22 Tryz.ntmps22 rfl rfl fun w0 F0 O => ?_
        repeat' (first | refine zS rfl ?_ | refine qA ?_ | refine qB rfl ?_ | refine qC (by kernel_rfl) ?_ | refine qD ?_ | refine qE ?_ | refine qF ?_ | refine qG ?_ | refine qH rfl ?_ | refine qP rfl rfl rfl rfl rfl rfl b50 (qp) ?_ | refine qP rfl rfl rfl rfl rfl rfl b52 (qt) ?_ | refine qP rfl rfl rfl rfl rfl rfl b51 (qn) ?_ | refine zT rfl ?_ | refine zU rfl ?_ | refine qL rfl rfl ?_ | refine qM rfl rfl rfl ?_ | refine qO rfl rfl rfl ?_ | refine zX rfl rfl rfl rfl ?_ | refine zW rfl rfl rfl rfl ?_ | (refine qY rfl rfl rfl rfl ?_ ?_ <;> intro _) | exact zD | exact zL)
    | false =>
      rw [cond_false]
      have gSum : (name.toList == (⟨#[115, 117, 109]⟩ : ByteArray).toList) = false := by rw [nmSumE]; exact hSum
      cases hCollect : name.toList == nmCollect with
      | true =>
        have gCollect : (name.toList == (⟨#[99, 111, 108, 108, 101, 99, 116]⟩ : ByteArray).toList) = true := by rw [nmCollectE]; exact hCollect
        rw [cond_true]
        have hMin : (name.toList == nmMin) = false := by rw [beq_iff_eq.1 hCollect]; decide
        have gMin : (name.toList == (⟨#[109, 105, 110]⟩ : ByteArray).toList) = false := by rw [nmMinE]; exact hMin
        have hMax : (name.toList == nmMax) = false := by rw [beq_iff_eq.1 hCollect]; decide
        have gMax : (name.toList == (⟨#[109, 97, 120]⟩ : ByteArray).toList) = false := by rw [nmMaxE]; exact hMax
        have hAvg : (name.toList == nmAvg) = false := by rw [beq_iff_eq.1 hCollect]; decide
        have gAvg : (name.toList == (⟨#[97, 118, 103]⟩ : ByteArray).toList) = false := by rw [nmAvgE]; exact hAvg
        cases hV : Val.okV (vList u) with
        | true =>
          rw [hV] at qv
          refine enter3 Tryz.func22 Tryz.ntmps22 rfl rfl fun w0 F0 O => ?_
          repeat' (first | refine zS rfl ?_ | refine qA ?_ | refine qB rfl ?_ | refine qC (by kernel_rfl) ?_ | refine qD ?_ | refine qE ?_ | refine qF ?_ | refine qG ?_ | refine qH rfl ?_ | refine qP rfl rfl rfl rfl rfl rfl b50 (qp) ?_ | refine qP rfl rfl rfl rfl rfl rfl b30 (ql) ?_ | refine qP rfl rfl rfl rfl rfl rfl b40 (qv) ?_ | refine zT rfl ?_ | refine zU rfl ?_ | refine qL rfl rfl ?_ | refine qM rfl rfl rfl ?_ | refine qO rfl rfl rfl ?_ | refine zX rfl rfl rfl rfl ?_ | refine zW rfl rfl rfl rfl ?_ | (refine qY rfl rfl rfl rfl ?_ ?_ <;> intro _) | exact zD | exact zL)
        | false =>
          rw [hV] at qv
          refine enter3 Tryz.func22 Tryz.ntmps22 rfl rfl fun w0 F0 O => ?_
          repeat' (first | refine zS rfl ?_ | refine qA ?_ | refine qB rfl ?_ | refine qC (by kernel_rfl) ?_ | refine qD ?_ | refine qE ?_ | refine qF ?_ | refine qG ?_ | refine qH rfl ?_ | refine qP rfl rfl rfl rfl rfl rfl b50 (qp) ?_ | refine qP rfl rfl rfl rfl rfl rfl b30 (ql) ?_ | refine qP rfl rfl rfl rfl rfl rfl b40 (qv) ?_ | refine qP rfl rfl rfl rfl rfl rfl b32 (null_ev) ?_ | refine zT rfl ?_ | refine zU rfl ?_ | refine qL rfl rfl ?_ | refine qM rfl rfl rfl ?_ | refine qO rfl rfl rfl ?_ | refine zX rfl rfl rfl rfl ?_ | refine zW rfl rfl rfl rfl ?_ | (refine qY rfl rfl rfl rfl ?_ ?_ <;> intro _) | exact zD | exact zL)
      | false =>
        rw [cond_false]
        have gCollect : (name.toList == (⟨#[99, 111, 108, 108, 101, 99, 116]⟩ : ByteArray).toList) = false := by rw [nmCollectE]; exact hCollect
        by_cases hu0 : u.length = 0
        · rw [show (u.length == 0) = true by rw [beq_iff_eq]; exact hu0, cond_true]
          have g0 : (((encL u).length : Int) == 0) = true := by rw [hle, beq_iff_eq]; omega
          cases hMin : name.toList == nmMin with
          | true =>
            have gMin : (name.toList == (⟨#[109, 105, 110]⟩ : ByteArray).toList) = true := by rw [nmMinE]; exact hMin
            refine enter3 Tryz.func22 Tryz.ntmps22 rfl rfl fun w0 F0 O => ?_
            repeat' (first | refine zS rfl ?_ | refine qA ?_ | refine qB rfl ?_ | refine qC (by kernel_rfl) ?_ | refine qD ?_ | refine qE ?_ | refine qF ?_ | refine qG ?_ | refine qH rfl ?_ | refine qP rfl rfl rfl rfl rfl rfl b50 (qp) ?_ | refine qP rfl rfl rfl rfl rfl rfl b32 (null_ev) ?_ | refine zT rfl ?_ | refine zU rfl ?_ | refine qL rfl rfl ?_ | refine qM rfl rfl rfl ?_ | refine qO rfl rfl rfl ?_ | refine zX rfl rfl rfl rfl ?_ | refine zW rfl rfl rfl rfl ?_ | (refine qY rfl rfl rfl rfl ?_ ?_ <;> intro _) | exact zD | exact zL)
          | false =>
            have gMin : (name.toList == (⟨#[109, 105, 110]⟩ : ByteArray).toList) = false := by rw [nmMinE]; exact hMin
            cases hMax : name.toList == nmMax with
            | true =>
              have gMax : (name.toList == (⟨#[109, 97, 120]⟩ : ByteArray).toList) = true := by rw [nmMaxE]; exact hMax
              refine enter3 Tryz.func22 Tryz.ntmps22 rfl rfl fun w0 F0 O => ?_
              repeat' (first | refine zS rfl ?_ | refine qA ?_ | refine qB rfl ?_ | refine qC (by kernel_rfl) ?_ | refine qD ?_ | refine qE ?_ | refine qF ?_ | refine qG ?_ | refine qH rfl ?_ | refine qP rfl rfl rfl rfl rfl rfl b50 (qp) ?_ | refine qP rfl rfl rfl rfl rfl rfl b32 (null_ev) ?_ | refine zT rfl ?_ | refine zU rfl ?_ | refine qL rfl rfl ?_ | refine qM rfl rfl rfl ?_ | refine qO rfl rfl rfl ?_ | refine zX rfl rfl rfl rfl ?_ | refine zW rfl rfl rfl rfl ?_ | (refine qY rfl rfl rfl rfl ?_ ?_ <;> intro _) | exact zD | exact zL)
            | false =>
              have gMax : (name.toList == (⟨#[109, 97, 120]⟩ : ByteArray).toList) = false := by rw [nmMaxE]; exact hMax
              cases hAvg : name.toList == nmAvg with
              | true =>
                have gAvg : (name.toList == (⟨#[97, 118, 103]⟩ : ByteArray).toList) = true := by rw [nmAvgE]; exact hAvg
                refine enter3 Tryz.func22 Tryz.ntmps22 rfl rfl fun w0 F0 O => ?_
                repeat' (first | refine zS rfl ?_ | refine qA ?_ | refine qB rfl ?_ | refine qC (by kernel_rfl) ?_ | refine qD ?_ | refine qE ?_ | refine qF ?_ | refine qG ?_ | refine qH rfl ?_ | refine qP rfl rfl rfl rfl rfl rfl b50 (qp) ?_ | refine qP rfl rfl rfl rfl rfl rfl b32 (null_ev) ?_ | refine zT rfl ?_ | refine zU rfl ?_ | refine qL rfl rfl ?_ | refine qM rfl rfl rfl ?_ | refine qO rfl rfl rfl ?_ | refine zX rfl rfl rfl rfl ?_ | refine zW rfl rfl rfl rfl ?_ | (refine qY rfl rfl rfl rfl ?_ ?_ <;> intro _) | exact zD | exact zL)
              | false =>
                have gAvg : (name.toList == (⟨#[97, 118, 103]⟩ : ByteArray).toList) = false := by rw [nmAvgE]; exact hAvg
                refine enter3 Tryz.func22 Tryz.ntmps22 rfl rfl fun w0 F0 O => ?_
                repeat' (first | refine zS rfl ?_ | refine qA ?_ | refine qB rfl ?_ | refine qC (by kernel_rfl) ?_ | refine qD ?_ | refine qE ?_ | refine qF ?_ | refine qG ?_ | refine qH rfl ?_ | refine qP rfl rfl rfl rfl rfl rfl b50 (qp) ?_ | refine qP rfl rfl rfl rfl rfl rfl b32 (null_ev) ?_ | refine zT rfl ?_ | refine zU rfl ?_ | refine qL rfl rfl ?_ | refine qM rfl rfl rfl ?_ | refine qO rfl rfl rfl ?_ | refine zX rfl rfl rfl rfl ?_ | refine zW rfl rfl rfl rfl ?_ | (refine qY rfl rfl rfl rfl ?_ ?_ <;> intro _) | exact zD | exact zL)
        · rw [show (u.length == 0) = false by rw [beq_eq_false_iff_ne]; exact hu0, cond_false]
          cases hMin : name.toList == nmMin with
          | true =>
            have gMin : (name.toList == (⟨#[109, 105, 110]⟩ : ByteArray).toList) = true := by rw [nmMinE]; exact hMin
            have g0 : (((encL u).length : Int) == 0) = false := by rw [hle, beq_eq_false_iff_ne]; omega
            have e : (encL u).take (1 : Int).toNat = encL [atS u 0] := by
              rw [encL_map, encL_map, ← List.map_take]
              cases u with
              | nil => simp at hu0
              | cons x r => rfl
            have qm : Ev E 30 [.sl ((encL u).take (1 : Int).toNat)] (.d (enc (vList [atS u 0]))) := by
              rw [e]
              exact list_ev [atS u 0] (narU (by intro x hx; rw [List.mem_singleton.1 hx]; exact hum _ (hat 0 (by omega))) (by simp))
            have hx : (encL [atS u 0])[(0 : Int).toNat]? = some (enc (atS u 0)) := rfl
            rw [cond_true]
            refine enter3 Tryz.func22 Tryz.ntmps22 rfl rfl fun w0 F0 O => ?_
            repeat' (first | (refine qS rfl ⟨⟨by omega, by omega⟩, _, rfl, encL_cells u⟩ ?_) | refine go_field rfl rfl rfl rfl rfl rfl rfl ?_ | refine zS rfl ?_ | refine qA ?_ | refine qB rfl ?_ | refine qC (by kernel_rfl) ?_ | refine qD ?_ | refine qE ?_ | refine qF ?_ | refine qG ?_ | refine qH rfl ?_ | refine qP rfl rfl rfl rfl rfl rfl b50 (qp) ?_ | refine qP rfl rfl rfl rfl rfl rfl b30 (qm) ?_ | refine qI (enc (atS u 0)) rfl (guardX_ok rfl) rfl rfl rfl rfl rfl rfl (by first | omega | decide) hx ?_ | refine zT rfl ?_ | refine zU rfl ?_ | refine qL rfl rfl ?_ | refine qM rfl rfl rfl ?_ | refine qO rfl rfl rfl ?_ | refine zX rfl rfl rfl rfl ?_ | refine zW rfl rfl rfl rfl ?_ | (refine qY rfl rfl rfl rfl ?_ ?_ <;> intro _) | exact zD | exact zL)
          | false =>
            rw [cond_false]
            have gMin : (name.toList == (⟨#[109, 105, 110]⟩ : ByteArray).toList) = false := by rw [nmMinE]; exact hMin
            cases hMax : name.toList == nmMax with
            | true =>
              have gMax : (name.toList == (⟨#[109, 97, 120]⟩ : ByteArray).toList) = true := by rw [nmMaxE]; exact hMax
              have g0 : (((encL u).length : Int) == 0) = false := by rw [hle, beq_eq_false_iff_ne]; omega
              have e : (encL u).drop (((encL u).length : Int) - 1).toNat = encL [atS u (u.length - 1)] := by
                rw [encL_map, encL_map, List.length_map, show ((u.length : Int) - 1).toNat = u.length - 1 by omega, ← List.map_drop, drop_atS (by omega), List.drop_eq_nil_of_le (by omega)]
              have qm : Ev E 30 [.sl ((encL u).drop (((encL u).length : Int) - 1).toNat)] (.d (enc (vList [atS u (u.length - 1)]))) := by
                rw [e]
                exact list_ev [atS u (u.length - 1)] (narU (by intro x hx; rw [List.mem_singleton.1 hx]; exact hum _ (hat _ (by omega))) (by simp))
              have hx : (encL [atS u (u.length - 1)])[(0 : Int).toNat]? = some (enc (atS u (u.length - 1))) := rfl
              rw [cond_true]
              refine enter3 Tryz.func22 Tryz.ntmps22 rfl rfl fun w0 F0 O => ?_
              repeat' (first | (refine qS rfl ⟨⟨by omega, by omega⟩, _, rfl, encL_cells u⟩ ?_) | refine go_field rfl rfl rfl rfl rfl rfl rfl ?_ | refine zS rfl ?_ | refine qA ?_ | refine qB rfl ?_ | refine qC (by kernel_rfl) ?_ | refine qD ?_ | refine qE ?_ | refine qF ?_ | refine qG ?_ | refine qH rfl ?_ | refine qP rfl rfl rfl rfl rfl rfl b50 (qp) ?_ | refine qP rfl rfl rfl rfl rfl rfl b30 (qm) ?_ | refine qI (enc (atS u (u.length - 1))) rfl (guardX_ok rfl) rfl rfl rfl rfl rfl rfl (by first | omega | decide) hx ?_ | refine zT rfl ?_ | refine zU rfl ?_ | refine qL rfl rfl ?_ | refine qM rfl rfl rfl ?_ | refine qO rfl rfl rfl ?_ | refine zX rfl rfl rfl rfl ?_ | refine zW rfl rfl rfl rfl ?_ | (refine qY rfl rfl rfl rfl ?_ ?_ <;> intro _) | exact zD | exact zL)
            | false =>
              rw [cond_false]
              have gMax : (name.toList == (⟨#[109, 97, 120]⟩ : ByteArray).toList) = false := by rw [nmMaxE]; exact hMax
              cases hAvg : name.toList == nmAvg with
              | true =>
                have gAvg : (name.toList == (⟨#[97, 118, 103]⟩ : ByteArray).toList) = true := by rw [nmAvgE]; exact hAvg
                have g0 : (((encL u).length : Int) == 0) = false := by rw [hle, beq_eq_false_iff_ne]; omega
                rw [cond_true]
                unfold avgF
                cases hB : sumB 0 1 u with
                | true =>
                  rw [hB, cond_true, cond_true] at qt
                  have qd := div_ev (sumN 0 1 u) (sumD 0 1 u) u.length 1
                  have qn := number_ev (divN (sumN 0 1 u) (sumD 0 1 u) u.length 1) (divD (sumN 0 1 u) (sumD 0 1 u) u.length 1) (divB (sumN 0 1 u) (sumD 0 1 u) u.length 1)
                  rw [← hle] at qd
                  rw [Bool.true_and]
                  rw [← hle] at qn ⊢
                  refine enter3 Tryz.func22 Tryz.ntmps22 rfl rfl fun w0 F0 O => ?_
                  repeat' (first | refine zS rfl ?_ | refine qA ?_ | refine qB rfl ?_ | refine qC (by kernel_rfl) ?_ | refine qD ?_ | refine qE ?_ | refine qF ?_ | refine qG ?_ | refine qH rfl ?_ | refine qP rfl rfl rfl rfl rfl rfl b50 (qp) ?_ | refine qP rfl rfl rfl rfl rfl rfl b52 (qt) ?_ | refine qP rfl rfl rfl rfl rfl rfl b53 (qd) ?_ | refine qP rfl rfl rfl rfl rfl rfl b51 (qn) ?_ | refine zT rfl ?_ | refine zU rfl ?_ | refine qL rfl rfl ?_ | refine qM rfl rfl rfl ?_ | refine qO rfl rfl rfl ?_ | refine zX rfl rfl rfl rfl ?_ | refine zW rfl rfl rfl rfl ?_ | (refine qY rfl rfl rfl rfl ?_ ?_ <;> intro _) | exact zD | exact zL)
                | false =>
                  rw [hB, cond_false, cond_false] at qt
                  have e : numF (false && divB (sumN 0 1 u) (sumD 0 1 u) u.length 1) (divN (sumN 0 1 u) (sumD 0 1 u) u.length 1) (divD (sumN 0 1 u) (sumD 0 1 u) u.length 1) = vNull := rfl
                  rw [e]
                  refine enter3 Tryz.func22 Tryz.ntmps22 rfl rfl fun w0 F0 O => ?_
                  repeat' (first | refine zS rfl ?_ | refine qA ?_ | refine qB rfl ?_ | refine qC (by kernel_rfl) ?_ | refine qD ?_ | refine qE ?_ | refine qF ?_ | refine qG ?_ | refine qH rfl ?_ | refine qP rfl rfl rfl rfl rfl rfl b50 (qp) ?_ | refine qP rfl rfl rfl rfl rfl rfl b52 (qt) ?_ | refine qP rfl rfl rfl rfl rfl rfl b32 (null_ev) ?_ | refine zT rfl ?_ | refine zU rfl ?_ | refine qL rfl rfl ?_ | refine qM rfl rfl rfl ?_ | refine qO rfl rfl rfl ?_ | refine zX rfl rfl rfl rfl ?_ | refine zW rfl rfl rfl rfl ?_ | (refine qY rfl rfl rfl rfl ?_ ?_ <;> intro _) | exact zD | exact zL)
              | false =>
                rw [cond_false]
                have gAvg : (name.toList == (⟨#[97, 118, 103]⟩ : ByteArray).toList) = false := by rw [nmAvgE]; exact hAvg
                refine enter3 Tryz.func22 Tryz.ntmps22 rfl rfl fun w0 F0 O => ?_
                repeat' (first | refine zS rfl ?_ | refine qA ?_ | refine qB rfl ?_ | refine qC (by kernel_rfl) ?_ | refine qD ?_ | refine qE ?_ | refine qF ?_ | refine qG ?_ | refine qH rfl ?_ | refine qP rfl rfl rfl rfl rfl rfl b50 (qp) ?_ | refine qP rfl rfl rfl rfl rfl rfl b32 (null_ev) ?_ | refine zT rfl ?_ | refine zU rfl ?_ | refine qL rfl rfl ?_ | refine qM rfl rfl rfl ?_ | refine qO rfl rfl rfl ?_ | refine zX rfl rfl rfl rfl ?_ | refine zW rfl rfl rfl rfl ?_ | (refine qY rfl rfl rfl rfl ?_ ?_ <;> intro _) | exact zD | exact zL)
end Go.Proofs.YtjgmakalledclaaGreatDoor

/- The specification's aggregate functions. Conditions: at most two million values, each small. -/
namespace Go.Proofs.YtjgmakalledclaaGreatDoor
set_option maxRecDepth 4000
open Go Go.Abs Go.Val Go.RowKit
attribute [local irreducible] go SGo HasBody Ev ExtEv EvO EvS RGo
def oneR (l : List V) : List (List V) := l.map fun v => [v]
theorem oneR_app (l : List V) (x : V) : (oneR l).map encRw ++ [encRw [x]] = (oneR (l ++ [x])).map encRw := by simp [oneR]
theorem oneR_len (l : List V) : ((oneR l).map encRw).length = l.length := by simp [oneR]
theorem stS_oneR (L : List V) : stS (cmpL ordF) (oneR L) = oneR (stS ordF L) := by
  rw [← rs_stS rowC rowZ]
  exact rsort_heads L
theorem rsorted_ev (l : List V) (hm : l.length ≤ 2000000) (hn : ∀ x ∈ l, nar x = true) : Ev E 54 [.sl (encL l)] (.d (.sl (encL (srtF l)))) := by
  have hle : (encL l).length = l.length := encL_len l
  refine enter1 Tryz.func54 Tryz.ntmps54 rfl rfl fun w0 F0 O => ?_
  repeat' (first | refine zS rfl ?_ | refine qA ?_ | refine qB rfl ?_ | refine qC (by kernel_rfl) ?_ | refine qD ?_ | refine qE ?_ | refine qF ?_ | refine qG ?_ | refine qH rfl ?_ | refine zT rfl ?_ | refine zU rfl ?_ | refine qL rfl rfl ?_ | refine qM rfl rfl rfl ?_ | refine qO rfl rfl rfl ?_ | refine zX rfl rfl rfl rfl ?_ | refine zW rfl rfl rfl rfl ?_ | (refine qY rfl rfl rfl rfl ?_ ?_ <;> intro _) | exact zD | exact zL)
  refine go_loop_ (α := PrT l) (fun p => ⟨[(0, .d (.sl (encL l))), (3, rowX ((oneR p.out).map encRw)), (4, .d (.int p.i))], rowO 23 1 ((oneR p.out).map encRw)⟩) (fun p => l.length - p.i) ⟨0, [], by omega, by simp, rfl⟩ ((zle 0)) ?_
  rintro ⟨i, out, hi, ho, ht⟩
  dsimp only
  rcases Nat.lt_or_ge i l.length with hlt | hge
  · have g1 : decide ((i : Int) < ((encL l).length : Int)) = true := by rw [hle]; simpa using hlt
    have hx0 := List.getElem?_eq_getElem hlt
    generalize l[i] = x at hx0
    have hx : (encL l)[(i : Int).toNat]? = some (enc x) := encL_get (by rw [Int.toNat_natCast]; exact hx0)
    have hv := RValid_ev x
    rw [drop_at hx0, pres_cons] at ht
    have hll : ((oneR out).map encRw).length ≤ i := by rw [oneR_len]; exact ho
    have happ := oneR_app out x
    cases hp : prP x with
    | false =>
      rw [hp, cond_false, List.nil_append] at ht
      generalize hq : (oneR out).map encRw = eo at *
      have fin : ∀ (C : Cx) (tm : List (Nat × X)) (ob : List AObj), True := fun _ _ _ => trivial
      clear fin
      cases hok : Val.okV x with
      | false =>
        rw [hok] at hv
        match eo, hll with
        | [], hll =>
          dsimp only [rowX, rowO]
          repeat' (first | refine zS rfl ?_ | refine qA ?_ | refine qB rfl ?_ | refine qC (by kernel_rfl) ?_ | refine qD ?_ | refine qE ?_ | refine qF ?_ | refine qG ?_ | refine qH rfl ?_ | refine qI (enc x) rfl (guardX_ok rfl) rfl rfl rfl rfl rfl rfl (by first | omega | decide) hx ?_ | refine qP rfl rfl rfl rfl rfl rfl b62 (hv) ?_ | refine zT rfl ?_ | refine zU rfl ?_ | refine qL rfl rfl ?_ | refine qM rfl rfl rfl ?_ | refine qO rfl rfl rfl ?_ | refine zX rfl rfl rfl rfl ?_ | refine zW rfl rfl rfl rfl ?_ | (refine qY rfl rfl rfl rfl ?_ ?_ <;> intro _) | exact zD | exact zL)
          refine go_stop ?_
          refine ⟨⟨i + 1, out, by omega, by omega, ht⟩, by dsimp only; omega, ?_⟩
          dsimp only
          rw [hq]
          exact (zle 0)
        | a :: q, hll =>
          dsimp only [rowX, rowO]
          repeat' (first | refine zS rfl ?_ | refine qA ?_ | refine qB rfl ?_ | refine qC (by kernel_rfl) ?_ | refine qD ?_ | refine qE ?_ | refine qF ?_ | refine qG ?_ | refine qH rfl ?_ | refine qI (enc x) rfl (guardX_ok rfl) rfl rfl rfl rfl rfl rfl (by first | omega | decide) hx ?_ | refine qP rfl rfl rfl rfl rfl rfl b62 (hv) ?_ | refine zT rfl ?_ | refine zU rfl ?_ | refine qL rfl rfl ?_ | refine qM rfl rfl rfl ?_ | refine qO rfl rfl rfl ?_ | refine zX rfl rfl rfl rfl ?_ | refine zW rfl rfl rfl rfl ?_ | (refine qY rfl rfl rfl rfl ?_ ?_ <;> intro _) | exact zD | exact zL)
          refine go_stop ?_
          refine ⟨⟨i + 1, out, by omega, by omega, ht⟩, by dsimp only; omega, ?_⟩
          dsimp only
          rw [hq]
          exact (zle 1)
      | true =>
        rw [hok] at hv
        have hk : (x.k != 0) = false := by unfold prP at hp; rw [hok, Bool.and_true] at hp; exact hp
        match eo, hll with
        | [], hll =>
          dsimp only [rowX, rowO]
          repeat' (first | refine zS rfl ?_ | refine qA ?_ | refine qB rfl ?_ | refine qC (by kernel_rfl) ?_ | refine qD ?_ | refine qE ?_ | refine qF ?_ | refine qG ?_ | refine qH rfl ?_ | refine qI (enc x) rfl (guardX_ok rfl) rfl rfl rfl rfl rfl rfl (by first | omega | decide) hx ?_ | refine qP rfl rfl rfl rfl rfl rfl b62 (hv) ?_ | refine zT rfl ?_ | refine zU rfl ?_ | refine qL rfl rfl ?_ | refine qM rfl rfl rfl ?_ | refine qO rfl rfl rfl ?_ | refine zX rfl rfl rfl rfl ?_ | refine zW rfl rfl rfl rfl ?_ | (refine qY rfl rfl rfl rfl ?_ ?_ <;> intro _) | exact zD | exact zL)
          refine go_stop ?_
          refine ⟨⟨i + 1, out, by omega, by omega, ht⟩, by dsimp only; omega, ?_⟩
          dsimp only
          rw [hq]
          exact (zle 0)
        | a :: q, hll =>
          dsimp only [rowX, rowO]
          repeat' (first | refine zS rfl ?_ | refine qA ?_ | refine qB rfl ?_ | refine qC (by kernel_rfl) ?_ | refine qD ?_ | refine qE ?_ | refine qF ?_ | refine qG ?_ | refine qH rfl ?_ | refine qI (enc x) rfl (guardX_ok rfl) rfl rfl rfl rfl rfl rfl (by first | omega | decide) hx ?_ | refine qP rfl rfl rfl rfl rfl rfl b62 (hv) ?_ | refine zT rfl ?_ | refine zU rfl ?_ | refine qL rfl rfl ?_ | refine qM rfl rfl rfl ?_ | refine qO rfl rfl rfl ?_ | refine zX rfl rfl rfl rfl ?_ | refine zW rfl rfl rfl rfl ?_ | (refine qY rfl rfl rfl rfl ?_ ?_ <;> intro _) | exact zD | exact zL)
          refine go_stop ?_
          refine ⟨⟨i + 1, out, by omega, by omega, ht⟩, by dsimp only; omega, ?_⟩
          dsimp only
          rw [hq]
          exact (zle 1)
    | true =>
      have hok : Val.okV x = true := by unfold prP at hp; rw [Bool.and_eq_true] at hp; exact hp.2
      have hk : (x.k != 0) = true := by unfold prP at hp; rw [Bool.and_eq_true] at hp; exact hp.1
      rw [hok] at hv
      rw [hp, cond_true, ← List.append_assoc] at ht
      generalize hq : (oneR out).map encRw = eo at *
      match eo, hll with
      | [], hll =>
        dsimp only [rowX, rowO]
        repeat' (first | refine zS rfl ?_ | refine qA ?_ | refine qB rfl ?_ | refine qC (by kernel_rfl) ?_ | refine qD ?_ | refine qE ?_ | refine qF ?_ | refine qG ?_ | refine qH rfl ?_ | refine qI (enc x) rfl (guardX_ok rfl) rfl rfl rfl rfl rfl rfl (by first | omega | decide) hx ?_ | refine qP rfl rfl rfl rfl rfl rfl b62 (hv) ?_ | (refine qS rfl ⟨by simp, fun d hd => by (obtain rfl := List.mem_singleton.1 hd; rfl), by (show (0 + 1) * 24 ≤ 140737488355328; omega), by (show 0 + 1 ≤ 9223372036854775807; omega)⟩ ?_) | refine zT rfl ?_ | refine zU rfl ?_ | refine qL rfl rfl ?_ | refine qM rfl rfl rfl ?_ | refine qO rfl rfl rfl ?_ | refine zX rfl rfl rfl rfl ?_ | refine zW rfl rfl rfl rfl ?_ | (refine qY rfl rfl rfl rfl ?_ ?_ <;> intro _) | exact zD | exact zL)
        refine go_stop ?_
        refine ⟨⟨i + 1, out ++ [x], by omega, by simp; omega, ht⟩, by dsimp only; omega, ?_⟩
        dsimp only
        rw [← happ]
        exact (zren [0])
      | a :: q, hll =>
        dsimp only [rowX, rowO]
        repeat' (first | refine zS rfl ?_ | refine qA ?_ | refine qB rfl ?_ | refine qC (by kernel_rfl) ?_ | refine qD ?_ | refine qE ?_ | refine qF ?_ | refine qG ?_ | refine qH rfl ?_ | refine qI (enc x) rfl (guardX_ok rfl) rfl rfl rfl rfl rfl rfl (by first | omega | decide) hx ?_ | refine qP rfl rfl rfl rfl rfl rfl b62 (hv) ?_ | (refine qS rfl ⟨by simp, fun d hd => by (obtain rfl := List.mem_singleton.1 hd; rfl), by (show ((a :: q).length + 1) * 24 ≤ 140737488355328; omega), by (show (a :: q).length + 1 ≤ 9223372036854775807; omega)⟩ ?_) | refine zT rfl ?_ | refine zU rfl ?_ | refine qL rfl rfl ?_ | refine qM rfl rfl rfl ?_ | refine qO rfl rfl rfl ?_ | refine zX rfl rfl rfl rfl ?_ | refine zW rfl rfl rfl rfl ?_ | (refine qY rfl rfl rfl rfl ?_ ?_ <;> intro _) | exact zD | exact zL)
        refine go_stop ?_
        refine ⟨⟨i + 1, out ++ [x], by omega, by simp; omega, ht⟩, by dsimp only; omega, ?_⟩
        dsimp only
        rw [← happ]
        exact (zren [1])
  · have g1 : decide ((i : Int) < ((encL l).length : Int)) = false := by rw [hle]; simp; omega
    rw [List.drop_eq_nil_of_le hge] at ht
    have ht2 : presF l = out := by rw [ht]; simp [presF]
    have hout : ∀ r ∈ oneR out, nar (vList r) = true := by
      intro r hr
      obtain ⟨v, hv, rfl⟩ := List.mem_map.1 hr
      refine narU (fun x hx => ?_) (by simp)
      rw [List.mem_singleton.1 hx]
      exact hn v ((List.mem_filter.1 (show v ∈ presF l by rw [ht2]; exact hv)).1)
    have q := rSortRows_ev (oneR out) hout (by simp [oneR]; omega)
    rw [stS_oneR, show stS ordF out = srtF l by rw [← ht2]; rfl] at q
    have hWl : (srtF l).length ≤ 2000000 := by rw [srt_len]; exact Nat.le_trans (List.length_filter_le _ _) hm
    generalize srtF l = W at q hWl
    have hlW : (Val.encR (oneR W)).length = W.length := by rw [encR_len]; simp [oneR]
    rw [encR_eq (oneR out)] at q
    cases hq : (oneR out).map encRw
    case' nil =>
      rw [hq] at q
      dsimp only [rowX, rowO]
      repeat' (first | refine zS rfl ?_ | refine qA ?_ | refine qB rfl ?_ | refine qC (by kernel_rfl) ?_ | refine qD ?_ | refine qE ?_ | refine qF ?_ | refine qG ?_ | refine qH rfl ?_ | refine qP rfl rfl rfl rfl rfl rfl b16 (q) ?_ | refine zT rfl ?_ | refine zU rfl ?_ | refine qL rfl rfl ?_ | refine qM rfl rfl rfl ?_ | refine qO rfl rfl rfl ?_ | refine zX rfl rfl rfl rfl ?_ | refine zW rfl rfl rfl rfl ?_ | (refine qY rfl rfl rfl rfl ?_ ?_ <;> intro _) | exact zD | exact zL)
    case' cons a r =>
      rw [hq] at q
      dsimp only [rowX, rowO]
      refine go_frz 0 rfl ?_
      repeat' (first | refine zS rfl ?_ | refine qA ?_ | refine qB rfl ?_ | refine qC (by kernel_rfl) ?_ | refine qD ?_ | refine qE ?_ | refine qF ?_ | refine qG ?_ | refine qH rfl ?_ | refine qP rfl rfl rfl rfl rfl rfl b16 (q) ?_ | refine zT rfl ?_ | refine zU rfl ?_ | refine qL rfl rfl ?_ | refine qM rfl rfl rfl ?_ | refine qO rfl rfl rfl ?_ | refine zX rfl rfl rfl rfl ?_ | refine zW rfl rfl rfl rfl ?_ | (refine qY rfl rfl rfl rfl ?_ ?_ <;> intro _) | exact zD | exact zL)
    all_goals
      refine go_loop_ (α := Fin (W.length + 1)) (fun p => ⟨[(3, .d (.sl (Val.encR (oneR W)))), (5, rowX (encL (W.take p.val))), (6, .d (.int p.val))], rowO 35 5 (encL (W.take p.val))⟩) (fun p => W.length - p.val) ⟨0, by omega⟩ (by rw [List.take_zero]; exact (zle 0)) ?_
      rintro ⟨j, hj⟩
      dsimp only
      rcases Nat.lt_or_ge j W.length with hlt | hge2
      · have g1 : decide ((j : Int) < ((Val.encR (oneR W)).length : Int)) = true := by rw [hlW]; simpa using hlt
        have hx0 := List.getElem?_eq_getElem hlt
        generalize W[j] = x at hx0
        have hx : (Val.encR (oneR W))[(j : Int).toNat]? = some (.sl (encL [x])) := encR_get (by rw [Int.toNat_natCast]; unfold oneR; rw [List.getElem?_map, hx0]; rfl)
        have hx2 : (encL [x])[(0 : Int).toNat]? = some (enc x) := rfl
        have hta := encL_take hx0
        have hll : (encL (W.take j)).length ≤ j := by rw [encL_len]; simp; omega
        generalize encL (W.take j) = eo at *
        match eo, hll with
        | [], hll =>
          dsimp only [rowX, rowO]
          repeat' (first | refine zS rfl ?_ | refine qA ?_ | refine qB rfl ?_ | refine qC (by kernel_rfl) ?_ | refine qD ?_ | refine qE ?_ | refine qF ?_ | refine qG ?_ | refine qH rfl ?_ | refine qI (.sl (encL [x])) rfl (guardX_ok rfl) rfl rfl rfl rfl rfl rfl (by first | omega | decide) hx ?_ | refine qI (enc x) rfl (guardX_ok rfl) rfl rfl rfl rfl rfl rfl (by first | omega | decide) hx2 ?_ | (refine qS rfl ⟨by simp, fun d hd => by (obtain rfl := List.mem_singleton.1 hd; rfl), by (show (0 + 1) * 64 ≤ 140737488355328; omega), by (show 0 + 1 ≤ 9223372036854775807; omega)⟩ ?_) | refine zT rfl ?_ | refine zU rfl ?_ | refine qL rfl rfl ?_ | refine qM rfl rfl rfl ?_ | refine qO rfl rfl rfl ?_ | refine zX rfl rfl rfl rfl ?_ | refine zW rfl rfl rfl rfl ?_ | (refine qY rfl rfl rfl rfl ?_ ?_ <;> intro _) | exact zD | exact zL)
          refine go_stop ?_
          refine ⟨⟨j + 1, by omega⟩, by dsimp only; omega, ?_⟩
          dsimp only
          rw [hta]
          exact (zren [0])
        | a :: q, hll =>
          dsimp only [rowX, rowO]
          repeat' (first | refine zS rfl ?_ | refine qA ?_ | refine qB rfl ?_ | refine qC (by kernel_rfl) ?_ | refine qD ?_ | refine qE ?_ | refine qF ?_ | refine qG ?_ | refine qH rfl ?_ | refine qI (.sl (encL [x])) rfl (guardX_ok rfl) rfl rfl rfl rfl rfl rfl (by first | omega | decide) hx ?_ | refine qI (enc x) rfl (guardX_ok rfl) rfl rfl rfl rfl rfl rfl (by first | omega | decide) hx2 ?_ | (refine qS rfl ⟨by simp, fun d hd => by (obtain rfl := List.mem_singleton.1 hd; rfl), by (show ((a :: q).length + 1) * 64 ≤ 140737488355328; omega), by (show (a :: q).length + 1 ≤ 9223372036854775807; omega)⟩ ?_) | refine zT rfl ?_ | refine zU rfl ?_ | refine qL rfl rfl ?_ | refine qM rfl rfl rfl ?_ | refine qO rfl rfl rfl ?_ | refine zX rfl rfl rfl rfl ?_ | refine zW rfl rfl rfl rfl ?_ | (refine qY rfl rfl rfl rfl ?_ ?_ <;> intro _) | exact zD | exact zL)
          refine go_stop ?_
          refine ⟨⟨j + 1, by omega⟩, by dsimp only; omega, ?_⟩
          dsimp only
          rw [hta]
          exact (zren [1])
      · have g1 : decide ((j : Int) < ((Val.encR (oneR W)).length : Int)) = false := by rw [hlW]; simp; omega
        rw [List.take_of_length_le hge2]
        generalize encL W = eo at *
        match eo with
        | [] =>
          dsimp only [rowX, rowO]
          repeat' (first | refine zS rfl ?_ | refine qA ?_ | refine qB rfl ?_ | refine qC (by kernel_rfl) ?_ | refine qD ?_ | refine qE ?_ | refine qF ?_ | refine qG ?_ | refine qH rfl ?_ | refine zT rfl ?_ | refine zU rfl ?_ | refine qL rfl rfl ?_ | refine qM rfl rfl rfl ?_ | refine qO rfl rfl rfl ?_ | refine zX rfl rfl rfl rfl ?_ | refine zW rfl rfl rfl rfl ?_ | (refine qY rfl rfl rfl rfl ?_ ?_ <;> intro _) | exact zD | exact zL)
        | a :: q =>
          dsimp only [rowX, rowO]
          refine qA ?_
          refine go_frz 0 rfl ?_
          repeat' (first | refine zS rfl ?_ | refine qA ?_ | refine qB rfl ?_ | refine qC (by kernel_rfl) ?_ | refine qD ?_ | refine qE ?_ | refine qF ?_ | refine qG ?_ | refine qH rfl ?_ | refine zT rfl ?_ | refine zU rfl ?_ | refine qL rfl rfl ?_ | refine qM rfl rfl rfl ?_ | refine qO rfl rfl rfl ?_ | refine zX rfl rfl rfl rfl ?_ | refine zW rfl rfl rfl rfl ?_ | (refine qY rfl rfl rfl rfl ?_ ?_ <;> intro _) | exact zD | exact zL)
theorem runique_ev (l : List V) (hm : l.length ≤ 2000000) : Ev E 55 [.sl (encL l)] (.d (.sl (encL (uniF ordF l)))) := by
  have hle : (encL l).length = l.length := encL_len l
  refine enter1 Tryz.func55 Tryz.ntmps55 rfl rfl fun w0 F0 O => ?_
  repeat' (first | refine zS rfl ?_ | refine qA ?_ | refine qB rfl ?_ | refine qC (by kernel_rfl) ?_ | refine qD ?_ | refine qE ?_ | refine qF ?_ | refine qG ?_ | refine qH rfl ?_ | refine zT rfl ?_ | refine zU rfl ?_ | refine qL rfl rfl ?_ | refine qM rfl rfl rfl ?_ | refine qO rfl rfl rfl ?_ | refine zX rfl rfl rfl rfl ?_ | refine zW rfl rfl rfl rfl ?_ | (refine qY rfl rfl rfl rfl ?_ ?_ <;> intro _) | exact zD | exact zL)
  refine go_loop_ (α := Fin (l.length + 1)) (fun p => ⟨[(0, .d (.sl (encL l))), (3, rowX (encL (uniF ordF (l.take p.val)))), (4, .d (.int p.val))], rowO 35 5 (encL (uniF ordF (l.take p.val)))⟩) (fun p => l.length - p.val) ⟨0, by omega⟩ (by rw [List.take_zero]; exact (zle 0)) ?_
  rintro ⟨i, hi⟩
  dsimp only
  rcases Nat.lt_or_ge i l.length with hlt | hge
  · have g1 : decide ((i : Int) < ((encL l).length : Int)) = true := by rw [hle]; simpa using hlt
    have ht := uniF_take (c := ordF) hlt
    have x1 : (encL l)[(i : Int).toNat]? = some (enc (atS l i)) := encL_get (by rw [Int.toNat_natCast]; exact atS_get hlt)
    have hll : (encL (uniF ordF (l.take i))).length ≤ i := by rw [encL_len]; exact Nat.le_trans (uniF_len _ _) (by simp; omega)
    by_cases hkeep : i = 0 ∨ ordF (atS l (i - 1)) (atS l i) ≠ 0
    · rw [if_pos hkeep] at ht
      have happ := encL_app (uniF ordF (l.take i)) (atS l i)
      rw [← ht] at happ
      by_cases h0 : i = 0
      · have g2 : ((i : Int) == 0) = true := by rw [beq_iff_eq]; omega
        have e0 : encL (uniF ordF (l.take i)) = [] := by rw [h0]; rfl
        rw [e0] at happ ⊢
        dsimp only [rowX, rowO]
        repeat' (first | refine zS rfl ?_ | refine qA ?_ | refine qB rfl ?_ | refine qC (by kernel_rfl) ?_ | refine qD ?_ | refine qE ?_ | refine qF ?_ | refine qG ?_ | refine qH rfl ?_ | refine qI (enc (atS l i)) rfl (guardX_ok rfl) rfl rfl rfl rfl rfl rfl (by first | omega | decide) x1 ?_ | (refine qS rfl ⟨by simp, fun d hd => by (obtain rfl := List.mem_singleton.1 hd; rfl), by (show (0 + 1) * 64 ≤ 140737488355328; omega), by (show 0 + 1 ≤ 9223372036854775807; omega)⟩ ?_) | refine zT rfl ?_ | refine zU rfl ?_ | refine qL rfl rfl ?_ | refine qM rfl rfl rfl ?_ | refine qO rfl rfl rfl ?_ | refine zX rfl rfl rfl rfl ?_ | refine zW rfl rfl rfl rfl ?_ | (refine qY rfl rfl rfl rfl ?_ ?_ <;> intro _) | exact zD | exact zL)
        refine go_stop ?_
        refine ⟨⟨i + 1, by omega⟩, by dsimp only; omega, ?_⟩
        dsimp only
        rw [happ]
        exact (zren [0])
      · have g2 : ((i : Int) == 0) = false := by rw [beq_eq_false_iff_ne]; omega
        have hne : ordF (atS l (i - 1)) (atS l i) ≠ 0 := hkeep.resolve_left h0
        have g3 : (ordF (atS l (i - 1)) (atS l i) != 0) = true := by simpa using hne
        have x2 : (encL l)[((i : Int) - 1).toNat]? = some (enc (atS l (i - 1))) := encL_get (by rw [show ((i : Int) - 1).toNat = i - 1 by omega]; exact atS_get (by omega))
        have qo := rOrder_ev (atS l (i - 1)) (atS l i)
        generalize encL (uniF ordF (l.take i)) = eo at *
        match eo, hll with
        | [], hll =>
          dsimp only [rowX, rowO]
          repeat' (first | refine zS rfl ?_ | refine qA ?_ | refine qB rfl ?_ | refine qC (by kernel_rfl) ?_ | refine qD ?_ | refine qE ?_ | refine qF ?_ | refine qG ?_ | refine qH rfl ?_ | refine qI (enc (atS l i)) rfl (guardX_ok rfl) rfl rfl rfl rfl rfl rfl (by first | omega | decide) x1 ?_ | refine qI (enc (atS l (i - 1))) rfl (guardX_ok rfl) rfl rfl rfl rfl rfl rfl (by first | omega | decide) x2 ?_ | refine qP rfl rfl rfl rfl rfl rfl b49 (qo) ?_ | (refine qS rfl ⟨by simp, fun d hd => by (obtain rfl := List.mem_singleton.1 hd; rfl), by (show (0 + 1) * 64 ≤ 140737488355328; omega), by (show 0 + 1 ≤ 9223372036854775807; omega)⟩ ?_) | refine zT rfl ?_ | refine zU rfl ?_ | refine qL rfl rfl ?_ | refine qM rfl rfl rfl ?_ | refine qO rfl rfl rfl ?_ | refine zX rfl rfl rfl rfl ?_ | refine zW rfl rfl rfl rfl ?_ | (refine qY rfl rfl rfl rfl ?_ ?_ <;> intro _) | exact zD | exact zL)
          refine go_stop ?_
          refine ⟨⟨i + 1, by omega⟩, by dsimp only; omega, ?_⟩
          dsimp only
          rw [happ]
          exact (zren [0])
        | a :: q, hll =>
          dsimp only [rowX, rowO]
          repeat' (first | refine zS rfl ?_ | refine qA ?_ | refine qB rfl ?_ | refine qC (by kernel_rfl) ?_ | refine qD ?_ | refine qE ?_ | refine qF ?_ | refine qG ?_ | refine qH rfl ?_ | refine qI (enc (atS l i)) rfl (guardX_ok rfl) rfl rfl rfl rfl rfl rfl (by first | omega | decide) x1 ?_ | refine qI (enc (atS l (i - 1))) rfl (guardX_ok rfl) rfl rfl rfl rfl rfl rfl (by first | omega | decide) x2 ?_ | refine qP rfl rfl rfl rfl rfl rfl b49 (qo) ?_ | (refine qS rfl ⟨by simp, fun d hd => by (obtain rfl := List.mem_singleton.1 hd; rfl), by (show ((a :: q).length + 1) * 64 ≤ 140737488355328; omega), by (show (a :: q).length + 1 ≤ 9223372036854775807; omega)⟩ ?_) | refine zT rfl ?_ | refine zU rfl ?_ | refine qL rfl rfl ?_ | refine qM rfl rfl rfl ?_ | refine qO rfl rfl rfl ?_ | refine zX rfl rfl rfl rfl ?_ | refine zW rfl rfl rfl rfl ?_ | (refine qY rfl rfl rfl rfl ?_ ?_ <;> intro _) | exact zD | exact zL)
          refine go_stop ?_
          refine ⟨⟨i + 1, by omega⟩, by dsimp only; omega, ?_⟩
          dsimp only
          rw [happ]
          exact (zren [1])
    · rw [if_neg hkeep, List.append_nil] at ht
      have h0 : i ≠ 0 := fun e => hkeep (.inl e)
      have hz : ordF (atS l (i - 1)) (atS l i) = 0 := Classical.byContradiction fun e => hkeep (.inr e)
      have g2 : ((i : Int) == 0) = false := by rw [beq_eq_false_iff_ne]; omega
      have g3 : (ordF (atS l (i - 1)) (atS l i) != 0) = false := by simpa using hz
      have x2 : (encL l)[((i : Int) - 1).toNat]? = some (enc (atS l (i - 1))) := encL_get (by rw [show ((i : Int) - 1).toNat = i - 1 by omega]; exact atS_get (by omega))
      have qo := rOrder_ev (atS l (i - 1)) (atS l i)
      have e2 : encL (uniF ordF (l.take (i + 1))) = encL (uniF ordF (l.take i)) := by rw [ht]
      generalize encL (uniF ordF (l.take i)) = eo at *
      match eo, hll with
      | [], hll =>
        dsimp only [rowX, rowO]
        repeat' (first | refine zS rfl ?_ | refine qA ?_ | refine qB rfl ?_ | refine qC (by kernel_rfl) ?_ | refine qD ?_ | refine qE ?_ | refine qF ?_ | refine qG ?_ | refine qH rfl ?_ | refine qI (enc (atS l i)) rfl (guardX_ok rfl) rfl rfl rfl rfl rfl rfl (by first | omega | decide) x1 ?_ | refine qI (enc (atS l (i - 1))) rfl (guardX_ok rfl) rfl rfl rfl rfl rfl rfl (by first | omega | decide) x2 ?_ | refine qP rfl rfl rfl rfl rfl rfl b49 (qo) ?_ | refine zT rfl ?_ | refine zU rfl ?_ | refine qL rfl rfl ?_ | refine qM rfl rfl rfl ?_ | refine qO rfl rfl rfl ?_ | refine zX rfl rfl rfl rfl ?_ | refine zW rfl rfl rfl rfl ?_ | (refine qY rfl rfl rfl rfl ?_ ?_ <;> intro _) | exact zD | exact zL)
        refine go_stop ?_
        refine ⟨⟨i + 1, by omega⟩, by dsimp only; omega, ?_⟩
        dsimp only
        rw [e2]
        exact (zle 0)
      | a :: q, hll =>
        dsimp only [rowX, rowO]
        repeat' (first | refine zS rfl ?_ | refine qA ?_ | refine qB rfl ?_ | refine qC (by kernel_rfl) ?_ | refine qD ?_ | refine qE ?_ | refine qF ?_ | refine qG ?_ | refine qH rfl ?_ | refine qI (enc (atS l i)) rfl (guardX_ok rfl) rfl rfl rfl rfl rfl rfl (by first | omega | decide) x1 ?_ | refine qI (enc (atS l (i - 1))) rfl (guardX_ok rfl) rfl rfl rfl rfl rfl rfl (by first | omega | decide) x2 ?_ | refine qP rfl rfl rfl rfl rfl rfl b49 (qo) ?_ | refine zT rfl ?_ | refine zU rfl ?_ | refine qL rfl rfl ?_ | refine qM rfl rfl rfl ?_ | refine qO rfl rfl rfl ?_ | refine zX rfl rfl rfl rfl ?_ | refine zW rfl rfl rfl rfl ?_ | (refine qY rfl rfl rfl rfl ?_ ?_ <;> intro _) | exact zD | exact zL)
        refine go_stop ?_
        refine ⟨⟨i + 1, by omega⟩, by dsimp only; omega, ?_⟩
        dsimp only
        rw [e2]
        exact (zle 1)
  · have g1 : decide ((i : Int) < ((encL l).length : Int)) = false := by rw [hle]; simp; omega
    rw [List.take_of_length_le hge]
    generalize encL (uniF ordF l) = eo at *
    match eo with
    | [] =>
      dsimp only [rowX, rowO]
      repeat' (first | refine zS rfl ?_ | refine qA ?_ | refine qB rfl ?_ | refine qC (by kernel_rfl) ?_ | refine qD ?_ | refine qE ?_ | refine qF ?_ | refine qG ?_ | refine qH rfl ?_ | refine zT rfl ?_ | refine zU rfl ?_ | refine qL rfl rfl ?_ | refine qM rfl rfl rfl ?_ | refine qO rfl rfl rfl ?_ | refine zX rfl rfl rfl rfl ?_ | refine zW rfl rfl rfl rfl ?_ | (refine qY rfl rfl rfl rfl ?_ ?_ <;> intro _) | exact zD | exact zL)
    | a :: q =>
      dsimp only [rowX, rowO]
      refine qA ?_
      refine go_frz 0 rfl ?_
      repeat' (first | refine zS rfl ?_ | refine qA ?_ | refine qB rfl ?_ | refine qC (by kernel_rfl) ?_ | refine qD ?_ | refine qE ?_ | refine qF ?_ | refine qG ?_ | refine qH rfl ?_ | refine zT rfl ?_ | refine zU rfl ?_ | refine qL rfl rfl ?_ | refine qM rfl rfl rfl ?_ | refine qO rfl rfl rfl ?_ | refine zX rfl rfl rfl rfl ?_ | refine zW rfl rfl rfl rfl ?_ | (refine qY rfl rfl rfl rfl ?_ ?_ <;> intro _) | exact zD | exact zL)
/-- What the specification's sum has when it stops. -/
def parN : Int → Int → List V → Int
  | n, _, [] => n
  | n, d, v :: r => bif isNum v && addB n d (numN v) (numD v) then parN (addN n d (numN v) (numD v)) (addD n d (numN v) (numD v)) r else n
def parD : Int → Int → List V → Int
  | _, d, [] => d
  | n, d, v :: r => bif isNum v && addB n d (numN v) (numD v) then parD (addN n d (numN v) (numD v)) (addD n d (numN v) (numD v)) r else d
theorem par_sum : ∀ (u : List V) (n d : Int), sumB n d u = true → parN n d u = sumN n d u ∧ parD n d u = sumD n d u
  | [], n, d, _ => ⟨rfl, rfl⟩
  | v :: r, n, d, h => by
    simp only [sumB, Bool.and_eq_true] at h
    simp only [parN, parD, sumN, sumD, h.1, h.2.1, Bool.and_self, cond_true]
    exact par_sum r _ _ h.2.2
structure ToR (u : List V) where
  i : Nat
  n : Int
  d : Int
  hi : i ≤ u.length
  hB : sumB n d (u.drop i) = sumB 0 1 u
  hN : parN n d (u.drop i) = parN 0 1 u
  hD : parD n d (u.drop i) = parD 0 1 u
theorem rsum_ev (u : List V) : Ev E 57 [.sl (encL u)] (.tup [.agg [.int (parN 0 1 u), .int (parD 0 1 u)], .bool (sumB 0 1 u)]) := Ev.fit fun hfit => by
  obtain ⟨hma, -⟩ := fit_encL (hfit (.sl (encL u)) (by simp))
  have hle : (encL u).length = u.length := encL_len u
  refine enter1 Tryz.func57 Tryz.ntmps57 rfl rfl fun w0 F0 O => ?_
  repeat' (first | refine zS rfl ?_ | refine qA ?_ | refine qB rfl ?_ | refine qC (by kernel_rfl) ?_ | refine qD ?_ | refine qE ?_ | refine qF ?_ | refine qG ?_ | refine qH rfl ?_ | refine zT rfl ?_ | refine zU rfl ?_ | refine qL rfl rfl ?_ | refine qM rfl rfl rfl ?_ | refine qO rfl rfl rfl ?_ | refine zX rfl rfl rfl rfl ?_ | refine zW rfl rfl rfl rfl ?_ | (refine qY rfl rfl rfl rfl ?_ ?_ <;> intro _) | exact zD | exact zL)
  refine go_loop_ (α := ToR u) (fun p => ⟨[(0, .d (.sl (encL u))), (2, .ptr 0 0), (3, .d (.bool false)), (4, .ptr 1 0), (5, .d (.int p.i))], [zFr, .var 58 (.w (.d (.agg [.int p.n, .int p.d])))]⟩) (fun p => u.length - p.i) ⟨0, 0, 1, by omega, rfl, rfl, rfl⟩ ((zle 2)) ?_
  rintro ⟨i, n, d, hi, hB, hN, hD⟩
  dsimp only
  rcases Nat.lt_or_ge i u.length with hlt | hge
  · have g1 : decide ((i : Int) < ((encL u).length : Int)) = true := by rw [hle]; simpa using hlt
    have hx0 := List.getElem?_eq_getElem hlt
    generalize u[i] = x at hx0
    have hx : (encL u)[(i : Int).toNat]? = some (enc x) := encL_get (by rw [Int.toNat_natCast]; exact hx0)
    have q1 := RNumber_ev x
    have q2 := radd_ev n d (numN x) (numD x)
    rw [drop_at hx0] at hB hN hD
    simp only [sumB, parN, parD] at hB hN hD
    cases h1 : isNum x with
    | false =>
      rw [h1, Bool.false_and] at hB hN hD
      rw [cond_false] at hN hD
      rw [h1] at q1
      rw [← hB, ← hN, ← hD]
      have g : (!false) = true := rfl
      repeat' (first | refine zS rfl ?_ | refine qA ?_ | refine qB rfl ?_ | refine qC (by kernel_rfl) ?_ | refine qD ?_ | refine qE ?_ | refine qF ?_ | refine qG ?_ | refine qH rfl ?_ | refine qI (enc x) rfl (guardX_ok rfl) rfl rfl rfl rfl rfl rfl (by first | omega | decide) hx ?_ | refine qP rfl rfl rfl rfl rfl rfl b93 (q1) ?_ | refine zT rfl ?_ | refine zU rfl ?_ | refine qL rfl rfl ?_ | refine qM rfl rfl rfl ?_ | refine qO rfl rfl rfl ?_ | refine zX rfl rfl rfl rfl ?_ | refine zW rfl rfl rfl rfl ?_ | (refine qY rfl rfl rfl rfl ?_ ?_ <;> intro _) | exact zD | exact zL)
    | true =>
      rw [h1, Bool.true_and] at hB hN hD
      rw [h1] at q1
      have g : (!true) = false := rfl
      cases h2 : addB n d (numN x) (numD x) with
      | false =>
        rw [h2] at hB hN hD
        rw [Bool.false_and] at hB
        rw [cond_false] at hN hD
        rw [h2] at q2
        rw [← hB, ← hN, ← hD]
        have g9 : (!false) = true := rfl
        repeat' (first | refine zS rfl ?_ | refine qA ?_ | refine qB rfl ?_ | refine qC (by kernel_rfl) ?_ | refine qD ?_ | refine qE ?_ | refine qF ?_ | refine qG ?_ | refine qH rfl ?_ | refine qI (enc x) rfl (guardX_ok rfl) rfl rfl rfl rfl rfl rfl (by first | omega | decide) hx ?_ | refine qP rfl rfl rfl rfl rfl rfl b93 (q1) ?_ | refine qP rfl rfl rfl rfl rfl rfl b101 (q2) ?_ | refine zT rfl ?_ | refine zU rfl ?_ | refine qL rfl rfl ?_ | refine qM rfl rfl rfl ?_ | refine qO rfl rfl rfl ?_ | refine zX rfl rfl rfl rfl ?_ | refine zW rfl rfl rfl rfl ?_ | (refine qY rfl rfl rfl rfl ?_ ?_ <;> intro _) | exact zD | exact zL)
      | true =>
        rw [h2] at hB hN hD
        rw [Bool.true_and] at hB
        rw [cond_true] at hN hD
        rw [h2] at q2
        repeat' (first | refine zS rfl ?_ | refine qA ?_ | refine qB rfl ?_ | refine qC (by kernel_rfl) ?_ | refine qD ?_ | refine qE ?_ | refine qF ?_ | refine qG ?_ | refine qH rfl ?_ | refine qI (enc x) rfl (guardX_ok rfl) rfl rfl rfl rfl rfl rfl (by first | omega | decide) hx ?_ | refine qP rfl rfl rfl rfl rfl rfl b93 (q1) ?_ | refine qP rfl rfl rfl rfl rfl rfl b101 (q2) ?_ | refine zT rfl ?_ | refine zU rfl ?_ | refine qL rfl rfl ?_ | refine qM rfl rfl rfl ?_ | refine qO rfl rfl rfl ?_ | refine zX rfl rfl rfl rfl ?_ | refine zW rfl rfl rfl rfl ?_ | (refine qY rfl rfl rfl rfl ?_ ?_ <;> intro _) | exact zD | exact zL)
        refine go_stop ?_
        exact ⟨⟨i + 1, _, _, by omega, hB, hN, hD⟩, by dsimp only; omega, (zle 2)⟩
  · have g1 : decide ((i : Int) < ((encL u).length : Int)) = false := by rw [hle]; simp; omega
    rw [List.drop_eq_nil_of_le hge] at hB hN hD
    simp only [sumB, parN, parD] at hB hN hD
    rw [← hB, ← hN, ← hD]
    repeat' (first | refine zS rfl ?_ | refine qA ?_ | refine qB rfl ?_ | refine qC (by kernel_rfl) ?_ | refine qD ?_ | refine qE ?_ | refine qF ?_ | refine qG ?_ | refine qH rfl ?_ | refine zT rfl ?_ | refine zU rfl ?_ | refine qL rfl rfl ?_ | refine qM rfl rfl rfl ?_ | refine qO rfl rfl rfl ?_ | refine zX rfl rfl rfl rfl ?_ | refine zW rfl rfl rfl rfl ?_ | (refine qY rfl rfl rfl rfl ?_ ?_ <;> intro _) | exact zD | exact zL)
theorem raverage_ev (u : List V) : Ev E 60 [.sl (encL u)] (.d (enc (bif u.length == 0 then vNull else avgF u))) := by
  have qs := rsum_ev u
  have hle : (encL u).length = u.length := encL_len u
  cases hB : sumB 0 1 u with
  | false =>
    rw [hB] at qs
    have e : (bif u.length == 0 then vNull else avgF u) = vNull := by unfold avgF; rw [hB]; cases u.length == 0 <;> rfl
    rw [e]
    have g : (!false) = true := rfl
    refine enter1 Tryz.func60 Tryz.ntmps60 rfl rfl fun w0 F0 O => ?_
    repeat' (first | refine zS rfl ?_ | refine qA ?_ | refine qB rfl ?_ | refine qC (by kernel_rfl) ?_ | refine qD ?_ | refine qE ?_ | refine qF ?_ | refine qG ?_ | refine qH rfl ?_ | refine qP rfl rfl rfl rfl rfl rfl b57 (qs) ?_ | refine qP rfl rfl rfl rfl rfl rfl b58 (rnull_ev) ?_ | refine zT rfl ?_ | refine zU rfl ?_ | refine qL rfl rfl ?_ | refine qM rfl rfl rfl ?_ | refine qO rfl rfl rfl ?_ | refine zX rfl rfl rfl rfl ?_ | refine zW rfl rfl rfl rfl ?_ | (refine qY rfl rfl rfl rfl ?_ ?_ <;> intro _) | exact zD | exact zL)
  | true =>
    rw [hB] at qs
    have g : (!true) = false := rfl
    cases h0 : u.length == 0 with
    | true =>
      have g0 : (((encL u).length : Int) == 0) = true := by rw [hle, beq_iff_eq]; rw [beq_iff_eq] at h0; omega
      rw [cond_true]
      refine enter1 Tryz.func60 Tryz.ntmps60 rfl rfl fun w0 F0 O => ?_
      repeat' (first | refine zS rfl ?_ | refine qA ?_ | refine qB rfl ?_ | refine qC (by kernel_rfl) ?_ | refine qD ?_ | refine qE ?_ | refine qF ?_ | refine qG ?_ | refine qH rfl ?_ | refine qP rfl rfl rfl rfl rfl rfl b57 (qs) ?_ | refine qP rfl rfl rfl rfl rfl rfl b58 (rnull_ev) ?_ | refine zT rfl ?_ | refine zU rfl ?_ | refine qL rfl rfl ?_ | refine qM rfl rfl rfl ?_ | refine qO rfl rfl rfl ?_ | refine zX rfl rfl rfl rfl ?_ | refine zW rfl rfl rfl rfl ?_ | (refine qY rfl rfl rfl rfl ?_ ?_ <;> intro _) | exact zD | exact zL)
    | false =>
      have g0 : (((encL u).length : Int) == 0) = false := by rw [hle, beq_eq_false_iff_ne]; rw [beq_eq_false_iff_ne] at h0; omega
      obtain ⟨p1, p2⟩ := par_sum u 0 1 hB
      rw [p1, p2] at qs
      rw [cond_false]
      unfold avgF
      rw [hB, Bool.true_and]
      have qd := rdiv_ev (sumN 0 1 u) (sumD 0 1 u) u.length 1
      cases hd : divB (sumN 0 1 u) (sumD 0 1 u) u.length 1 with
      | false =>
        rw [hd, ← hle] at qd
        have g9 : (!false) = true := rfl
        have e : numF false (divN (sumN 0 1 u) (sumD 0 1 u) u.length 1) (divD (sumN 0 1 u) (sumD 0 1 u) u.length 1) = vNull := rfl
        rw [e]
        refine enter1 Tryz.func60 Tryz.ntmps60 rfl rfl fun w0 F0 O => ?_
        repeat' (first | refine zS rfl ?_ | refine qA ?_ | refine qB rfl ?_ | refine qC (by kernel_rfl) ?_ | refine qD ?_ | refine qE ?_ | refine qF ?_ | refine qG ?_ | refine qH rfl ?_ | refine qP rfl rfl rfl rfl rfl rfl b57 (qs) ?_ | refine qP rfl rfl rfl rfl rfl rfl b102 (qd) ?_ | refine qP rfl rfl rfl rfl rfl rfl b58 (rnull_ev) ?_ | refine zT rfl ?_ | refine zU rfl ?_ | refine qL rfl rfl ?_ | refine qM rfl rfl rfl ?_ | refine qO rfl rfl rfl ?_ | refine zX rfl rfl rfl rfl ?_ | refine zW rfl rfl rfl rfl ?_ | (refine qY rfl rfl rfl rfl ?_ ?_ <;> intro _) | exact zD | exact zL)
      | true =>
        rw [hd, ← hle] at qd
        have qr := rrat_ev (divN (sumN 0 1 u) (sumD 0 1 u) u.length 1) (divD (sumN 0 1 u) (sumD 0 1 u) u.length 1)
        have e : numF true (divN (sumN 0 1 u) (sumD 0 1 u) u.length 1) (divD (sumN 0 1 u) (sumD 0 1 u) u.length 1) = vRat (divN (sumN 0 1 u) (sumD 0 1 u) u.length 1) (divD (sumN 0 1 u) (sumD 0 1 u) u.length 1) := rfl
        rw [e]
        rw [← hle] at qr ⊢
        refine enter1 Tryz.func60 Tryz.ntmps60 rfl rfl fun w0 F0 O => ?_
        repeat' (first | refine zS rfl ?_ | refine qA ?_ | refine qB rfl ?_ | refine qC (by kernel_rfl) ?_ | refine qD ?_ | refine qE ?_ | refine qF ?_ | refine qG ?_ | refine qH rfl ?_ | refine qP rfl rfl rfl rfl rfl rfl b57 (qs) ?_ | refine qP rfl rfl rfl rfl rfl rfl b102 (qd) ?_ | refine qP rfl rfl rfl rfl rfl rfl b59 (qr) ?_ | refine zT rfl ?_ | refine zU rfl ?_ | refine qL rfl rfl ?_ | refine qM rfl rfl rfl ?_ | refine qO rfl rfl rfl ?_ | refine zX rfl rfl rfl rfl ?_ | refine zW rfl rfl rfl rfl ?_ | (refine qY rfl rfl rfl rfl ?_ ?_ <;> intro _) | exact zD | exact zL)
set_option maxHeartbeats 1000000 in
theorem RAgg_ev (name : ByteArray) (b : Bool) (l : List V) (hm : l.length ≤ 2000000) (hn : ∀ x ∈ l, nar x = true) : Ev E 23 [.str name, .bool b, .sl (encL l)] (.d (enc (agF name b l))) := by
  have qp := rsorted_ev l hm hn
  have hsl : (srtF l).length ≤ 2000000 := by rw [srt_len]; exact Nat.le_trans (List.length_filter_le _ _) hm
  have qu := runique_ev (srtF l) hsl
  have hul := pick_len b l
  have hum : ∀ x ∈ pickF b l, nar x = true := fun x hx => hn x (pick_mem hx)
  have key : ∀ u : List V, u = pickF b l → u.length ≤ l.length → (∀ x ∈ u, nar x = true) → Ev E 23 [.str name, .bool b, .sl (encL l)] (.d (enc (agU name u))) := by
    intro u hu hul hum
    have hle : (encL u).length = u.length := encL_len u
    have qt := rsum_ev u
    have qi := rint_ev u.length
    rw [← hle] at qi
    have ql := rlist_ev2 u (narU hum (by omega))
    have qv := RValid_ev (vList u)
    have qa := raverage_ev u
    have hpar := par_sum u 0 1
    unfold agU
    cases hCount : name.toList == nmCount with
    | true =>
      have gCount : (name.toList == (⟨#[99, 111, 117, 110, 116]⟩ : ByteArray).toList) = true := by rw [nmCountE]; exact hCount
      rw [cond_true, ← hle]
      cases hb : b with
      | true =>
        have e1 : uniF ordF (srtF l) = u := by rw [hu, hb]; rfl
        rw [e1] at qu
        rw [hb] at hu
        refine enter3 Tryz.func23 Tryz.ntmps23 rfl rfl fun w0 F0 O => ?_
        repeat' (first | refine zS rfl ?_ | refine qA ?_ | refine qB rfl ?_ | refine qC (by kernel_rfl) ?_ | refine qD ?_ | refine qE ?_ | refine qF ?_ | refine qG ?_ | refine qH rfl ?_ | refine qP rfl rfl rfl rfl rfl rfl b54 (qp) ?_ | refine qP rfl rfl rfl rfl rfl rfl b55 (qu) ?_ | refine qP rfl rfl rfl rfl rfl rfl b56 (qi) ?_ | refine zT rfl ?_ | refine zU rfl ?_ | refine qL rfl rfl ?_ | refine qM rfl rfl rfl ?_ | refine qO rfl rfl rfl ?_ | refine zX rfl rfl rfl rfl ?_ | refine zW rfl rfl rfl rfl ?_ | (refine qY rfl rfl rfl rfl ?_ ?_ <;> intro _) | exact zD | exact zL)
      | false =>
        have e1 : srtF l = u := by rw [hu, hb]; rfl
        rw [e1] at qp
        refine enter3 Tryz.func23 Tryz.ntmps23 rfl rfl fun w0 F0 O => ?_
        repeat' (first | refine zS rfl ?_ | refine qA ?_ | refine qB rfl ?_ | refine qC (by kernel_rfl) ?_ | refine qD ?_ | refine qE ?_ | refine qF ?_ | refine qG ?_ | refine qH rfl ?_ | refine qP rfl rfl rfl rfl rfl rfl b54 (qp) ?_ | refine qP rfl rfl rfl rfl rfl rfl b56 (qi) ?_ | refine zT rfl ?_ | refine zU rfl ?_ | refine qL rfl rfl ?_ | refine qM rfl rfl rfl ?_ | refine qO rfl rfl rfl ?_ | refine zX rfl rfl rfl rfl ?_ | refine zW rfl rfl rfl rfl ?_ | (refine qY rfl rfl rfl rfl ?_ ?_ <;> intro _) | exact zD | exact zL)
    | false =>
      rw [cond_false]
      have gCount : (name.toList == (⟨#[99, 111, 117, 110, 116]⟩ : ByteArray).toList) = false := by rw [nmCountE]; exact hCount
      cases hSum : name.toList == nmSum with
      | true =>
        have gSum : (name.toList == (⟨#[115, 117, 109]⟩ : ByteArray).toList) = true := by rw [nmSumE]; exact hSum
        rw [cond_true]
        cases hB : sumB 0 1 u with
        | true =>
          obtain ⟨p1, p2⟩ := hpar hB
          rw [hB, p1, p2] at qt
          have qr := rrat_ev (sumN 0 1 u) (sumD 0 1 u)
          have e : numF true (sumN 0 1 u) (sumD 0 1 u) = vRat (sumN 0 1 u) (sumD 0 1 u) := rfl
          rw [e]
          have g : (!true) = false := rfl
          cases hb : b with
          | true =>
            have e1 : uniF ordF (srtF l) = u := by rw [hu, hb]; rfl
            rw [e1] at qu
            rw [hb] at hu
            refine enter3 Tryz.func23 Tryz.ntmps23 rfl rfl fun w0 F0 O => ?_
            repeat' (first | refine zS rfl ?_ | refine qA ?_ | refine qB rfl ?_ | refine qC (by kernel_rfl) ?_ | refine qD ?_ | refine qE ?_ | refine qF ?_ | refine qG ?_ | refine qH rfl ?_ | refine qP rfl rfl rfl rfl rfl rfl b54 (qp) ?_ | refine qP rfl rfl rfl rfl rfl rfl b55 (qu) ?_ | refine qP rfl rfl rfl rfl rfl rfl b57 (qt) ?_ | refine qP rfl rfl rfl rfl rfl rfl b59 (qr) ?_ | refine zT rfl ?_ | refine zU rfl ?_ | refine qL rfl rfl ?_ | refine qM rfl rfl rfl ?_ | refine qO rfl rfl rfl ?_ | refine zX rfl rfl rfl rfl ?_ | refine zW rfl rfl rfl rfl ?_ | (refine qY rfl rfl rfl rfl ?_ ?_ <;> intro _) | exact zD | exact zL)
          | false =>
            have e1 : srtF l = u := by rw [hu, hb]; rfl
            rw [e1] at qp
            refine enter3 Tryz.func23 Tryz.ntmps23 rfl rfl fun w0 F0 O => ?_
            repeat' (first | refine zS rfl ?_ | refine qA ?_ | refine qB rfl ?_ | refine qC (by kernel_rfl) ?_ | refine qD ?_ | refine qE ?_ | refine qF ?_ | refine qG ?_ | refine qH rfl ?_ | refine qP rfl rfl rfl rfl rfl rfl b54 (qp) ?_ | refine qP rfl rfl rfl rfl rfl rfl b57 (qt) ?_ | refine qP rfl rfl rfl rfl rfl rfl b59 (qr) ?_ | refine zT rfl ?_ | refine zU rfl ?_ | refine qL rfl rfl ?_ | refine qM rfl rfl rfl ?_ | refine qO rfl rfl rfl ?_ | refine zX rfl rfl rfl rfl ?_ | refine zW rfl rfl rfl rfl ?_ | (refine qY rfl rfl rfl rfl ?_ ?_ <;> intro _) | exact zD | exact zL)
        | false =>
          rw [hB] at qt
          have e : numF false (sumN 0 1 u) (sumD 0 1 u) = vNull := rfl
          rw [e]
          have g : (!false) = true := rfl
          cases hb : b with
          | true =>
            have e1 : uniF ordF (srtF l) = u := by rw [hu, hb]; rfl
            rw [e1] at qu
            rw [hb] at hu
            refine enter3 Tryz.func23 Tryz.ntmps23 rfl rfl fun w0 F0 O => ?_
            repeat' (first | refine zS rfl ?_ | refine qA ?_ | refine qB rfl ?_ | refine qC (by kernel_rfl) ?_ | refine qD ?_ | refine qE ?_ | refine qF ?_ | refine qG ?_ | refine qH rfl ?_ | refine qP rfl rfl rfl rfl rfl rfl b54 (qp) ?_ | refine qP rfl rfl rfl rfl rfl rfl b55 (qu) ?_ | refine qP rfl rfl rfl rfl rfl rfl b57 (qt) ?_ | refine qP rfl rfl rfl rfl rfl rfl b58 (rnull_ev) ?_ | refine zT rfl ?_ | refine zU rfl ?_ | refine qL rfl rfl ?_ | refine qM rfl rfl rfl ?_ | refine qO rfl rfl rfl ?_ | refine zX rfl rfl rfl rfl ?_ | refine zW rfl rfl rfl rfl ?_ | (refine qY rfl rfl rfl rfl ?_ ?_ <;> intro _) | exact zD | exact zL)
          | false =>
            have e1 : srtF l = u := by rw [hu, hb]; rfl
            rw [e1] at qp
            refine enter3 Tryz.func23 Tryz.ntmps23 rfl rfl fun w0 F0 O => ?_
            repeat' (first | refine zS rfl ?_ | refine qA ?_ | refine qB rfl ?_ | refine qC (by kernel_rfl) ?_ | refine qD ?_ | refine qE ?_ | refine qF ?_ | refine qG ?_ | refine qH rfl ?_ | refine qP rfl rfl rfl rfl rfl rfl b54 (qp) ?_ | refine qP rfl rfl rfl rfl rfl rfl b57 (qt) ?_ | refine qP rfl rfl rfl rfl rfl rfl b58 (rnull_ev) ?_ | refine zT rfl ?_ | refine zU rfl ?_ | refine qL rfl rfl ?_ | refine qM rfl rfl rfl ?_ | refine qO rfl rfl rfl ?_ | refine zX rfl rfl rfl rfl ?_ | refine zW rfl rfl rfl rfl ?_ | (refine qY rfl rfl rfl rfl ?_ ?_ <;> intro _) | exact zD | exact zL)
      | false =>
        rw [cond_false]
        have gSum : (name.toList == (⟨#[115, 117, 109]⟩ : ByteArray).toList) = false := by rw [nmSumE]; exact hSum
        cases hCollect : name.toList == nmCollect with
        | true =>
          have gCollect : (name.toList == (⟨#[99, 111, 108, 108, 101, 99, 116]⟩ : ByteArray).toList) = true := by rw [nmCollectE]; exact hCollect
          rw [cond_true]
          have hMin : (name.toList == nmMin) = false := by rw [beq_iff_eq.1 hCollect]; decide
          have gMin : (name.toList == (⟨#[109, 105, 110]⟩ : ByteArray).toList) = false := by rw [nmMinE]; exact hMin
          have hMax : (name.toList == nmMax) = false := by rw [beq_iff_eq.1 hCollect]; decide
          have gMax : (name.toList == (⟨#[109, 97, 120]⟩ : ByteArray).toList) = false := by rw [nmMaxE]; exact hMax
          have hAvg : (name.toList == nmAvg) = false := by rw [beq_iff_eq.1 hCollect]; decide
          have gAvg : (name.toList == (⟨#[97, 118, 103]⟩ : ByteArray).toList) = false := by rw [nmAvgE]; exact hAvg
          cases hV : Val.okV (vList u) with
          | true =>
            rw [hV] at qv
            cases hb : b with
            | true =>
              have e1 : uniF ordF (srtF l) = u := by rw [hu, hb]; rfl
              rw [e1] at qu
              rw [hb] at hu
              refine enter3 Tryz.func23 Tryz.ntmps23 rfl rfl fun w0 F0 O => ?_
              repeat' (first | refine zS rfl ?_ | refine qA ?_ | refine qB rfl ?_ | refine qC (by kernel_rfl) ?_ | refine qD ?_ | refine qE ?_ | refine qF ?_ | refine qG ?_ | refine qH rfl ?_ | refine qP rfl rfl rfl rfl rfl rfl b54 (qp) ?_ | refine qP rfl rfl rfl rfl rfl rfl b55 (qu) ?_ | refine qP rfl rfl rfl rfl rfl rfl b61 (ql) ?_ | refine qP rfl rfl rfl rfl rfl rfl b62 (qv) ?_ | refine zT rfl ?_ | refine zU rfl ?_ | refine qL rfl rfl ?_ | refine qM rfl rfl rfl ?_ | refine qO rfl rfl rfl ?_ | refine zX rfl rfl rfl rfl ?_ | refine zW rfl rfl rfl rfl ?_ | (refine qY rfl rfl rfl rfl ?_ ?_ <;> intro _) | exact zD | exact zL)
            | false =>
              have e1 : srtF l = u := by rw [hu, hb]; rfl
              rw [e1] at qp
              refine enter3 Tryz.func23 Tryz.ntmps23 rfl rfl fun w0 F0 O => ?_
              repeat' (first | refine zS rfl ?_ | refine qA ?_ | refine qB rfl ?_ | refine qC (by kernel_rfl) ?_ | refine qD ?_ | refine qE ?_ | refine qF ?_ | refine qG ?_ | refine qH rfl ?_ | refine qP rfl rfl rfl rfl rfl rfl b54 (qp) ?_ | refine qP rfl rfl rfl rfl rfl rfl b61 (ql) ?_ | refine qP rfl rfl rfl rfl rfl rfl b62 (qv) ?_ | refine zT rfl ?_ | refine zU rfl ?_ | refine qL rfl rfl ?_ | refine qM rfl rfl rfl ?_ | refine qO rfl rfl rfl ?_ | refine zX rfl rfl rfl rfl ?_ | refine zW rfl rfl rfl rfl ?_ | (refine qY rfl rfl rfl rfl ?_ ?_ <;> intro _) | exact zD | exact zL)
          | false =>
            rw [hV] at qv
            cases hb : b with
            | true =>
              have e1 : uniF ordF (srtF l) = u := by rw [hu, hb]; rfl
              rw [e1] at qu
              rw [hb] at hu
              refine enter3 Tryz.func23 Tryz.ntmps23 rfl rfl fun w0 F0 O => ?_
              repeat' (first | refine zS rfl ?_ | refine qA ?_ | refine qB rfl ?_ | refine qC (by kernel_rfl) ?_ | refine qD ?_ | refine qE ?_ | refine qF ?_ | refine qG ?_ | refine qH rfl ?_ | refine qP rfl rfl rfl rfl rfl rfl b54 (qp) ?_ | refine qP rfl rfl rfl rfl rfl rfl b55 (qu) ?_ | refine qP rfl rfl rfl rfl rfl rfl b61 (ql) ?_ | refine qP rfl rfl rfl rfl rfl rfl b62 (qv) ?_ | refine qP rfl rfl rfl rfl rfl rfl b58 (rnull_ev) ?_ | refine zT rfl ?_ | refine zU rfl ?_ | refine qL rfl rfl ?_ | refine qM rfl rfl rfl ?_ | refine qO rfl rfl rfl ?_ | refine zX rfl rfl rfl rfl ?_ | refine zW rfl rfl rfl rfl ?_ | (refine qY rfl rfl rfl rfl ?_ ?_ <;> intro _) | exact zD | exact zL)
            | false =>
              have e1 : srtF l = u := by rw [hu, hb]; rfl
              rw [e1] at qp
              refine enter3 Tryz.func23 Tryz.ntmps23 rfl rfl fun w0 F0 O => ?_
              repeat' (first | refine zS rfl ?_ | refine qA ?_ | refine qB rfl ?_ | refine qC (by kernel_rfl) ?_ | refine qD ?_ | refine qE ?_ | refine qF ?_ | refine qG ?_ | refine qH rfl ?_ | refine qP rfl rfl rfl rfl rfl rfl b54 (qp) ?_ | refine qP rfl rfl rfl rfl rfl rfl b61 (ql) ?_ | refine qP rfl rfl rfl rfl rfl rfl b62 (qv) ?_ | refine qP rfl rfl rfl rfl rfl rfl b58 (rnull_ev) ?_ | refine zT rfl ?_ | refine zU rfl ?_ | refine qL rfl rfl ?_ | refine qM rfl rfl rfl ?_ | refine qO rfl rfl rfl ?_ | refine zX rfl rfl rfl rfl ?_ | refine zW rfl rfl rfl rfl ?_ | (refine qY rfl rfl rfl rfl ?_ ?_ <;> intro _) | exact zD | exact zL)
        | false =>
          rw [cond_false]
          have gCollect : (name.toList == (⟨#[99, 111, 108, 108, 101, 99, 116]⟩ : ByteArray).toList) = false := by rw [nmCollectE]; exact hCollect
          by_cases hu0 : u.length = 0
          · rw [show (u.length == 0) = true by rw [beq_iff_eq]; exact hu0, cond_true]
            have g0 : decide (((encL u).length : Int) > 0) = false := decide_eq_false (by omega)
            have ea : (bif u.length == 0 then vNull else avgF u) = vNull := by rw [hu0]; rfl
            rw [ea] at qa
            cases hMin : name.toList == nmMin with
            | true =>
              have gMin : (name.toList == (⟨#[109, 105, 110]⟩ : ByteArray).toList) = true := by rw [nmMinE]; exact hMin
              cases hb : b with
              | true =>
                have e1 : uniF ordF (srtF l) = u := by rw [hu, hb]; rfl
                rw [e1] at qu
                rw [hb] at hu
                refine enter3 Tryz.func23 Tryz.ntmps23 rfl rfl fun w0 F0 O => ?_
                repeat' (first | refine zS rfl ?_ | refine qA ?_ | refine qB rfl ?_ | refine qC (by kernel_rfl) ?_ | refine qD ?_ | refine qE ?_ | refine qF ?_ | refine qG ?_ | refine qH rfl ?_ | refine qP rfl rfl rfl rfl rfl rfl b54 (qp) ?_ | refine qP rfl rfl rfl rfl rfl rfl b55 (qu) ?_ | refine qP rfl rfl rfl rfl rfl rfl b58 (rnull_ev) ?_ | refine zT rfl ?_ | refine zU rfl ?_ | refine qL rfl rfl ?_ | refine qM rfl rfl rfl ?_ | refine qO rfl rfl rfl ?_ | refine zX rfl rfl rfl rfl ?_ | refine zW rfl rfl rfl rfl ?_ | (refine qY rfl rfl rfl rfl ?_ ?_ <;> intro _) | exact zD | exact zL)
              | false =>
                have e1 : srtF l = u := by rw [hu, hb]; rfl
                rw [e1] at qp
                refine enter3 Tryz.func23 Tryz.ntmps23 rfl rfl fun w0 F0 O => ?_
                repeat' (first | refine zS rfl ?_ | refine qA ?_ | refine qB rfl ?_ | refine qC (by kernel_rfl) ?_ | refine qD ?_ | refine qE ?_ | refine qF ?_ | refine qG ?_ | refine qH rfl ?_ | refine qP rfl rfl rfl rfl rfl rfl b54 (qp) ?_ | refine qP rfl rfl rfl rfl rfl rfl b58 (rnull_ev) ?_ | refine zT rfl ?_ | refine zU rfl ?_ | refine qL rfl rfl ?_ | refine qM rfl rfl rfl ?_ | refine qO rfl rfl rfl ?_ | refine zX rfl rfl rfl rfl ?_ | refine zW rfl rfl rfl rfl ?_ | (refine qY rfl rfl rfl rfl ?_ ?_ <;> intro _) | exact zD | exact zL)
            | false =>
              have gMin : (name.toList == (⟨#[109, 105, 110]⟩ : ByteArray).toList) = false := by rw [nmMinE]; exact hMin
              cases hMax : name.toList == nmMax with
              | true =>
                have gMax : (name.toList == (⟨#[109, 97, 120]⟩ : ByteArray).toList) = true := by rw [nmMaxE]; exact hMax
                cases hb : b with
                | true =>
                  have e1 : uniF ordF (srtF l) = u := by rw [hu, hb]; rfl
                  rw [e1] at qu
                  rw [hb] at hu
                  refine enter3 Tryz.func23 Tryz.ntmps23 rfl rfl fun w0 F0 O => ?_
                  repeat' (first | refine zS rfl ?_ | refine qA ?_ | refine qB rfl ?_ | refine qC (by kernel_rfl) ?_ | refine qD ?_ | refine qE ?_ | refine qF ?_ | refine qG ?_ | refine qH rfl ?_ | refine qP rfl rfl rfl rfl rfl rfl b54 (qp) ?_ | refine qP rfl rfl rfl rfl rfl rfl b55 (qu) ?_ | refine qP rfl rfl rfl rfl rfl rfl b58 (rnull_ev) ?_ | refine zT rfl ?_ | refine zU rfl ?_ | refine qL rfl rfl ?_ | refine qM rfl rfl rfl ?_ | refine qO rfl rfl rfl ?_ | refine zX rfl rfl rfl rfl ?_ | refine zW rfl rfl rfl rfl ?_ | (refine qY rfl rfl rfl rfl ?_ ?_ <;> intro _) | exact zD | exact zL)
                | false =>
                  have e1 : srtF l = u := by rw [hu, hb]; rfl
                  rw [e1] at qp
                  refine enter3 Tryz.func23 Tryz.ntmps23 rfl rfl fun w0 F0 O => ?_
                  repeat' (first | refine zS rfl ?_ | refine qA ?_ | refine qB rfl ?_ | refine qC (by kernel_rfl) ?_ | refine qD ?_ | refine qE ?_ | refine qF ?_ | refine qG ?_ | refine qH rfl ?_ | refine qP rfl rfl rfl rfl rfl rfl b54 (qp) ?_ | refine qP rfl rfl rfl rfl rfl rfl b58 (rnull_ev) ?_ | refine zT rfl ?_ | refine zU rfl ?_ | refine qL rfl rfl ?_ | refine qM rfl rfl rfl ?_ | refine qO rfl rfl rfl ?_ | refine zX rfl rfl rfl rfl ?_ | refine zW rfl rfl rfl rfl ?_ | (refine qY rfl rfl rfl rfl ?_ ?_ <;> intro _) | exact zD | exact zL)
              | false =>
                have gMax : (name.toList == (⟨#[109, 97, 120]⟩ : ByteArray).toList) = false := by rw [nmMaxE]; exact hMax
                cases hAvg : name.toList == nmAvg with
                | true =>
                  have gAvg : (name.toList == (⟨#[97, 118, 103]⟩ : ByteArray).toList) = true := by rw [nmAvgE]; exact hAvg
                  cases hb : b with
                  | true =>
                    have e1 : uniF ordF (srtF l) = u := by rw [hu, hb]; rfl
                    rw [e1] at qu
                    rw [hb] at hu
                    refine enter3 Tryz.func23 Tryz.ntmps23 rfl rfl fun w0 F0 O => ?_
                    repeat' (first | refine zS rfl ?_ | refine qA ?_ | refine qB rfl ?_ | refine qC (by kernel_rfl) ?_ | refine qD ?_ | refine qE ?_ | refine qF ?_ | refine qG ?_ | refine qH rfl ?_ | refine qP rfl rfl rfl rfl rfl rfl b54 (qp) ?_ | refine qP rfl rfl rfl rfl rfl rfl b55 (qu) ?_ | refine qP rfl rfl rfl rfl rfl rfl b60 (qa) ?_ | refine zT rfl ?_ | refine zU rfl ?_ | refine qL rfl rfl ?_ | refine qM rfl rfl rfl ?_ | refine qO rfl rfl rfl ?_ | refine zX rfl rfl rfl rfl ?_ | refine zW rfl rfl rfl rfl ?_ | (refine qY rfl rfl rfl rfl ?_ ?_ <;> intro _) | exact zD | exact zL)
                  | false =>
                    have e1 : srtF l = u := by rw [hu, hb]; rfl
                    rw [e1] at qp
                    refine enter3 Tryz.func23 Tryz.ntmps23 rfl rfl fun w0 F0 O => ?_
                    repeat' (first | refine zS rfl ?_ | refine qA ?_ | refine qB rfl ?_ | refine qC (by kernel_rfl) ?_ | refine qD ?_ | refine qE ?_ | refine qF ?_ | refine qG ?_ | refine qH rfl ?_ | refine qP rfl rfl rfl rfl rfl rfl b54 (qp) ?_ | refine qP rfl rfl rfl rfl rfl rfl b60 (qa) ?_ | refine zT rfl ?_ | refine zU rfl ?_ | refine qL rfl rfl ?_ | refine qM rfl rfl rfl ?_ | refine qO rfl rfl rfl ?_ | refine zX rfl rfl rfl rfl ?_ | refine zW rfl rfl rfl rfl ?_ | (refine qY rfl rfl rfl rfl ?_ ?_ <;> intro _) | exact zD | exact zL)
                | false =>
                  have gAvg : (name.toList == (⟨#[97, 118, 103]⟩ : ByteArray).toList) = false := by rw [nmAvgE]; exact hAvg
                  cases hb : b with
                  | true =>
                    have e1 : uniF ordF (srtF l) = u := by rw [hu, hb]; rfl
                    rw [e1] at qu
                    rw [hb] at hu
                    refine enter3 Tryz.func23 Tryz.ntmps23 rfl rfl fun w0 F0 O => ?_
                    repeat' (first | refine zS rfl ?_ | refine qA ?_ | refine qB rfl ?_ | refine qC (by kernel_rfl) ?_ | refine qD ?_ | refine qE ?_ | refine qF ?_ | refine qG ?_ | refine qH rfl ?_ | refine qP rfl rfl rfl rfl rfl rfl b54 (qp) ?_ | refine qP rfl rfl rfl rfl rfl rfl b55 (qu) ?_ | refine qP rfl rfl rfl rfl rfl rfl b58 (rnull_ev) ?_ | refine zT rfl ?_ | refine zU rfl ?_ | refine qL rfl rfl ?_ | refine qM rfl rfl rfl ?_ | refine qO rfl rfl rfl ?_ | refine zX rfl rfl rfl rfl ?_ | refine zW rfl rfl rfl rfl ?_ | (refine qY rfl rfl rfl rfl ?_ ?_ <;> intro _) | exact zD | exact zL)
                  | false =>
                    have e1 : srtF l = u := by rw [hu, hb]; rfl
                    rw [e1] at qp
                    refine enter3 Tryz.func23 Tryz.ntmps23 rfl rfl fun w0 F0 O => ?_
                    repeat' (first | refine zS rfl ?_ | refine qA ?_ | refine qB rfl ?_ | refine qC (by kernel_rfl) ?_ | refine qD ?_ | refine qE ?_ | refine qF ?_ | refine qG ?_ | refine qH rfl ?_ | refine qP rfl rfl rfl rfl rfl rfl b54 (qp) ?_ | refine qP rfl rfl rfl rfl rfl rfl b58 (rnull_ev) ?_ | refine zT rfl ?_ | refine zU rfl ?_ | refine qL rfl rfl ?_ | refine qM rfl rfl rfl ?_ | refine qO rfl rfl rfl ?_ | refine zX rfl rfl rfl rfl ?_ | refine zW rfl rfl rfl rfl ?_ | (refine qY rfl rfl rfl rfl ?_ ?_ <;> intro _) | exact zD | exact zL)
          · rw [show (u.length == 0) = false by rw [beq_eq_false_iff_ne]; exact hu0, cond_false]
            have g0 : decide (((encL u).length : Int) > 0) = true := decide_eq_true (by omega)
            rw [show (u.length == 0) = false by rw [beq_eq_false_iff_ne]; exact hu0, cond_false] at qa
            have x1 : (encL u)[(0 : Int).toNat]? = some (enc (atS u 0)) := encL_get (atS_get (by omega))
            have x2 : (encL u)[(((encL u).length : Int) - 1).toNat]? = some (enc (atS u (u.length - 1))) := encL_get (by rw [hle, show ((u.length : Int) - 1).toNat = u.length - 1 by omega]; exact atS_get (by omega))
            cases hMin : name.toList == nmMin with
            | true =>
              have gMin : (name.toList == (⟨#[109, 105, 110]⟩ : ByteArray).toList) = true := by rw [nmMinE]; exact hMin
              rw [cond_true]
              cases hb : b with
              | true =>
                have e1 : uniF ordF (srtF l) = u := by rw [hu, hb]; rfl
                rw [e1] at qu
                rw [hb] at hu
                refine enter3 Tryz.func23 Tryz.ntmps23 rfl rfl fun w0 F0 O => ?_
                repeat' (first | refine zS rfl ?_ | refine qA ?_ | refine qB rfl ?_ | refine qC (by kernel_rfl) ?_ | refine qD ?_ | refine qE ?_ | refine qF ?_ | refine qG ?_ | refine qH rfl ?_ | refine qP rfl rfl rfl rfl rfl rfl b54 (qp) ?_ | refine qP rfl rfl rfl rfl rfl rfl b55 (qu) ?_ | refine qI (enc (atS u 0)) rfl (guardX_ok rfl) rfl rfl rfl rfl rfl rfl (by first | omega | decide) x1 ?_ | refine zT rfl ?_ | refine zU rfl ?_ | refine qL rfl rfl ?_ | refine qM rfl rfl rfl ?_ | refine qO rfl rfl rfl ?_ | refine zX rfl rfl rfl rfl ?_ | refine zW rfl rfl rfl rfl ?_ | (refine qY rfl rfl rfl rfl ?_ ?_ <;> intro _) | exact zD | exact zL)
              | false =>
                have e1 : srtF l = u := by rw [hu, hb]; rfl
                rw [e1] at qp
                refine enter3 Tryz.func23 Tryz.ntmps23 rfl rfl fun w0 F0 O => ?_
                repeat' (first | refine zS rfl ?_ | refine qA ?_ | refine qB rfl ?_ | refine qC (by kernel_rfl) ?_ | refine qD ?_ | refine qE ?_ | refine qF ?_ | refine qG ?_ | refine qH rfl ?_ | refine qP rfl rfl rfl rfl rfl rfl b54 (qp) ?_ | refine qI (enc (atS u 0)) rfl (guardX_ok rfl) rfl rfl rfl rfl rfl rfl (by first | omega | decide) x1 ?_ | refine zT rfl ?_ | refine zU rfl ?_ | refine qL rfl rfl ?_ | refine qM rfl rfl rfl ?_ | refine qO rfl rfl rfl ?_ | refine zX rfl rfl rfl rfl ?_ | refine zW rfl rfl rfl rfl ?_ | (refine qY rfl rfl rfl rfl ?_ ?_ <;> intro _) | exact zD | exact zL)
            | false =>
              rw [cond_false]
              have gMin : (name.toList == (⟨#[109, 105, 110]⟩ : ByteArray).toList) = false := by rw [nmMinE]; exact hMin
              cases hMax : name.toList == nmMax with
              | true =>
                have gMax : (name.toList == (⟨#[109, 97, 120]⟩ : ByteArray).toList) = true := by rw [nmMaxE]; exact hMax
                rw [cond_true]
                cases hb : b with
                | true =>
                  have e1 : uniF ordF (srtF l) = u := by rw [hu, hb]; rfl
                  rw [e1] at qu
                  rw [hb] at hu
                  refine enter3 Tryz.func23 Tryz.ntmps23 rfl rfl fun w0 F0 O => ?_
                  repeat' (first | refine zS rfl ?_ | refine qA ?_ | refine qB rfl ?_ | refine qC (by kernel_rfl) ?_ | refine qD ?_ | refine qE ?_ | refine qF ?_ | refine qG ?_ | refine qH rfl ?_ | refine qP rfl rfl rfl rfl rfl rfl b54 (qp) ?_ | refine qP rfl rfl rfl rfl rfl rfl b55 (qu) ?_ | refine qI (enc (atS u (u.length - 1))) rfl (guardX_ok rfl) rfl rfl rfl rfl rfl rfl (by first | omega | decide) x2 ?_ | refine zT rfl ?_ | refine zU rfl ?_ | refine qL rfl rfl ?_ | refine qM rfl rfl rfl ?_ | refine qO rfl rfl rfl ?_ | refine zX rfl rfl rfl rfl ?_ | refine zW rfl rfl rfl rfl ?_ | (refine qY rfl rfl rfl rfl ?_ ?_ <;> intro _) | exact zD | exact zL)
                | false =>
                  have e1 : srtF l = u := by rw [hu, hb]; rfl
                  rw [e1] at qp
                  refine enter3 Tryz.func23 Tryz.ntmps23 rfl rfl fun w0 F0 O => ?_
                  repeat' (first | refine zS rfl ?_ | refine qA ?_ | refine qB rfl ?_ | refine qC (by kernel_rfl) ?_ | refine qD ?_ | refine qE ?_ | refine qF ?_ | refine qG ?_ | refine qH rfl ?_ | refine qP rfl rfl rfl rfl rfl rfl b54 (qp) ?_ | refine qI (enc (atS u (u.length - 1))) rfl (guardX_ok rfl) rfl rfl rfl rfl rfl rfl (by first | omega | decide) x2 ?_ | refine zT rfl ?_ | refine zU rfl ?_ | refine qL rfl rfl ?_ | refine qM rfl rfl rfl ?_ | refine qO rfl rfl rfl ?_ | refine zX rfl rfl rfl rfl ?_ | refine zW rfl rfl rfl rfl ?_ | (refine qY rfl rfl rfl rfl ?_ ?_ <;> intro _) | exact zD | exact zL)
              | false =>
                rw [cond_false]
                have gMax : (name.toList == (⟨#[109, 97, 120]⟩ : ByteArray).toList) = false := by rw [nmMaxE]; exact hMax
                cases hAvg : name.toList == nmAvg with
                | true =>
                  have gAvg : (name.toList == (⟨#[97, 118, 103]⟩ : ByteArray).toList) = true := by rw [nmAvgE]; exact hAvg
                  rw [cond_true]
                  cases hb : b with
                  | true =>
                    have e1 : uniF ordF (srtF l) = u := by rw [hu, hb]; rfl
                    rw [e1] at qu
                    rw [hb] at hu
                    refine enter3 Tryz.func23 Tryz.ntmps23 rfl rfl fun w0 F0 O => ?_
                    repeat' (first | refine zS rfl ?_ | refine qA ?_ | refine qB rfl ?_ | refine qC (by kernel_rfl) ?_ | refine qD ?_ | refine qE ?_ | refine qF ?_ | refine qG ?_ | refine qH rfl ?_ | refine qP rfl rfl rfl rfl rfl rfl b54 (qp) ?_ | refine qP rfl rfl rfl rfl rfl rfl b55 (qu) ?_ | refine qP rfl rfl rfl rfl rfl rfl b60 (qa) ?_ | refine zT rfl ?_ | refine zU rfl ?_ | refine qL rfl rfl ?_ | refine qM rfl rfl rfl ?_ | refine qO rfl rfl rfl ?_ | refine zX rfl rfl rfl rfl ?_ | refine zW rfl rfl rfl rfl ?_ | (refine qY rfl rfl rfl rfl ?_ ?_ <;> intro _) | exact zD | exact zL)
                  | false =>
                    have e1 : srtF l = u := by rw [hu, hb]; rfl
                    rw [e1] at qp
                    refine enter3 Tryz.func23 Tryz.ntmps23 rfl rfl fun w0 F0 O => ?_
                    repeat' (first | refine zS rfl ?_ | refine qA ?_ | refine qB rfl ?_ | refine qC (by kernel_rfl) ?_ | refine qD ?_ | refine qE ?_ | refine qF ?_ | refine qG ?_ | refine qH rfl ?_ | refine qP rfl rfl rfl rfl rfl rfl b54 (qp) ?_ | refine qP rfl rfl rfl rfl rfl rfl b60 (qa) ?_ | refine zT rfl ?_ | refine zU rfl ?_ | refine qL rfl rfl ?_ | refine qM rfl rfl rfl ?_ | refine qO rfl rfl rfl ?_ | refine zX rfl rfl rfl rfl ?_ | refine zW rfl rfl rfl rfl ?_ | (refine qY rfl rfl rfl rfl ?_ ?_ <;> intro _) | exact zD | exact zL)
                | false =>
                  rw [cond_false]
                  have gAvg : (name.toList == (⟨#[97, 118, 103]⟩ : ByteArray).toList) = false := by rw [nmAvgE]; exact hAvg
                  cases hb : b with
                  | true =>
                    have e1 : uniF ordF (srtF l) = u := by rw [hu, hb]; rfl
                    rw [e1] at qu
                    rw [hb] at hu
                    refine enter3 Tryz.func23 Tryz.ntmps23 rfl rfl fun w0 F0 O => ?_
                    repeat' (first | refine zS rfl ?_ | refine qA ?_ | refine qB rfl ?_ | refine qC (by kernel_rfl) ?_ | refine qD ?_ | refine qE ?_ | refine qF ?_ | refine qG ?_ | refine qH rfl ?_ | refine qP rfl rfl rfl rfl rfl rfl b54 (qp) ?_ | refine qP rfl rfl rfl rfl rfl rfl b55 (qu) ?_ | refine qP rfl rfl rfl rfl rfl rfl b58 (rnull_ev) ?_ | refine zT rfl ?_ | refine zU rfl ?_ | refine qL rfl rfl ?_ | refine qM rfl rfl rfl ?_ | refine qO rfl rfl rfl ?_ | refine zX rfl rfl rfl rfl ?_ | refine zW rfl rfl rfl rfl ?_ | (refine qY rfl rfl rfl rfl ?_ ?_ <;> intro _) | exact zD | exact zL)
                  | false =>
                    have e1 : srtF l = u := by rw [hu, hb]; rfl
                    rw [e1] at qp
                    refine enter3 Tryz.func23 Tryz.ntmps23 rfl rfl fun w0 F0 O => ?_
                    repeat' (first | refine zS rfl ?_ | refine qA ?_ | refine qB rfl ?_ | refine qC (by kernel_rfl) ?_ | refine qD ?_ | refine qE ?_ | refine qF ?_ | refine qG ?_ | refine qH rfl ?_ | refine qP rfl rfl rfl rfl rfl rfl b54 (qp) ?_ | refine qP rfl rfl rfl rfl rfl rfl b58 (rnull_ev) ?_ | refine zT rfl ?_ | refine zU rfl ?_ | refine qL rfl rfl ?_ | refine qM rfl rfl rfl ?_ | refine qO rfl rfl rfl ?_ | refine zX rfl rfl rfl rfl ?_ | refine zW rfl rfl rfl rfl ?_ | (refine qY rfl rfl rfl rfl ?_ ?_ <;> intro _) | exact zD | exact zL)
  exact key _ rfl hul hum
end Go.Proofs.YtjgmakalledclaaGreatDoor

/- Expressions as plain trees, how they are written as data, and the weighing of expressions by the law's own text. Conditions: none; the budget is at most 2^40. -/
namespace Go.Proofs.YtjgmakalledclaaGreatDoor
set_option maxRecDepth 4000
open Go Go.Abs Go.Val
attribute [local irreducible] go SGo HasBody Ev ExtEv EvO EvS

/-- An expression: its operator, its constant, its name, its mark DISTINCT, its operands. -/
inductive Ex where
  | mk (op : Int) (v : V) (nm : ByteArray) (ds : Bool) (ks : List Ex)
  deriving Inhabited
def Ex.op : Ex → Int | .mk op _ _ _ _ => op
def Ex.v : Ex → V | .mk _ v _ _ _ => v
def Ex.nm : Ex → ByteArray | .mk _ _ nm _ _ => nm
def Ex.ds : Ex → Bool | .mk _ _ _ ds _ => ds
def Ex.ks : Ex → List Ex | .mk _ _ _ _ ks => ks
theorem Ex.eta (e : Ex) : Ex.mk e.op e.v e.nm e.ds e.ks = e := by cases e; rfl
mutual
def kidsE : Ex → List D
  | .mk _ _ _ _ l => encEL l
def encEL : List Ex → List D
  | [] => []
  | e :: r => .agg [.int e.op, .int e.v.k, .int e.v.n, .int e.v.d, .str e.v.s, .sl (kids e.v), .str e.nm, .bool e.ds, .sl (kidsE e)] :: encEL r
end
def encE (e : Ex) : D := .agg [.int e.op, .int e.v.k, .int e.v.n, .int e.v.d, .str e.v.s, .sl (kids e.v), .str e.nm, .bool e.ds, .sl (kidsE e)]
theorem encEL_map (l : List Ex) : encEL l = l.map encE := by
  induction l with
  | nil => simp [encEL]
  | cons v r ih => simp [encEL, ih, encE]
theorem kidsE_eq (e : Ex) : kidsE e = e.ks.map encE := by
  cases e
  simp [kidsE, encEL_map, Ex.ks]

/-! ## The law's weighing -/
end Go.Proofs.YtjgmakalledclaaGreatDoor

/- Graphs and bindings as data, and the reference's look-ups in them. Conditions: none. -/
namespace Go.Proofs.YtjgmakalledclaaGreatDoor
set_option maxRecDepth 4000
open Go Go.Abs Go.Val
attribute [local irreducible] go SGo HasBody Ev ExtEv EvO EvS

structure Pr where
  key : ByteArray
  v : V
structure Nd where
  id : Int
  labels : List ByteArray
  props : List Pr
structure Ed where
  id : Int
  src : Int
  dst : Int
  ty : ByteArray
  props : List Pr
structure Gr where
  nodes : List Nd
  edges : List Ed
  nn : Int
  ne : Int
structure Bd where
  name : ByteArray
  v : V
def encPr (p : Pr) : D := .agg [.str p.key, .int p.v.k, .int p.v.n, .int p.v.d, .str p.v.s, .sl (kids p.v)]
def encNd (n : Nd) : D := .agg [.int n.id, .sl (n.labels.map .str), .sl (n.props.map encPr)]
def encEd (e : Ed) : D := .agg [.int e.id, .int e.src, .int e.dst, .str e.ty, .sl (e.props.map encPr)]
def encGr (g : Gr) : D := .agg [.sl (g.nodes.map encNd), .sl (g.edges.map encEd), .int g.nn, .int g.ne]
def encBd (b : Bd) : D := .agg [.str b.name, .int b.v.k, .int b.v.n, .int b.v.d, .str b.v.s, .sl (kids b.v)]
theorem map_at {α β : Type} {l : List α} {f : α → β} {i : Nat} {x : α} (h : l[i]? = some x) : (l.map f)[(i : Int).toNat]? = some (f x) := by
  rw [Int.toNat_natCast, List.getElem?_map, h]; rfl
end Go.Proofs.YtjgmakalledclaaGreatDoor

/- Groups of rows: the program's row of a group; the chapter's worked examples of Agg and Table. Conditions: each item's value is told. -/
namespace Go.Proofs.YtjgmakalledclaaGreatDoor
set_option maxRecDepth 4000
open Go Go.Abs Go.Val Go.RowKit
attribute [local irreducible] go SGo HasBody Ev ExtEv EvO EvS RGo
structure Itm where
  e : Ex
  asn : ByteArray
structure Mm where
  key : List V
  env : List Bd
def encIm (x : Itm) : D := .agg [.int x.e.op, .int x.e.v.k, .int x.e.v.n, .int x.e.v.d, .str x.e.v.s, .sl (kids x.e.v), .str x.e.nm, .bool x.e.ds, .sl (kidsE x.e), .str x.asn]
def encM (m : Mm) : D := .agg [.sl (encL m.key), .sl (m.env.map encBd)]
def isKy (x : Itm) : Bool := x.e.op != 24
def nKy (l : List Itm) : Nat := (l.filter isKy).length
/-- The row of a group with these keys. -/
def rowG (ap : Ex → V) (key : List V) : List Itm → Nat → List V
  | [], _ => []
  | x :: r, k => bif isKy x then atS key k :: rowG ap key r (k + 1) else ap x.e :: rowG ap key r k
structure RgT (ap : Ex → V) (key : List V) (its : List Itm) where
  i : Nat
  k : Nat
  out : List V
  hi : i ≤ its.length
  ho : out.length ≤ i
  hk : k + nKy (its.drop i) = nKy its
  ht : rowG ap key its 0 = out ++ rowG ap key (its.drop i) k
theorem row_ev (g : Gr) (its : List Itm) (grp : List Mm) (ap : Ex → V) (key : List V) (hm : its.length ≤ 1000000) (hA : ∀ x ∈ its, isKy x = false → Ev E 109 [encGr g, encE x.e, .sl (grp.map encM)] (.d (enc (ap x.e))))
    (hk : nKy its ≤ key.length) (hg : nKy its = 0 ∨ ∃ m r, grp = m :: r ∧ m.key = key) : Ev E 67 [encGr g, .sl (its.map encIm), .sl (grp.map encM)] (.d (.sl (encL (rowG ap key its 0)))) := by
  have hle : (its.map encIm).length = its.length := by simp
  have hkm : nKy its ≤ its.length := List.length_filter_le _ _
  refine enter3 Tryz.func67 Tryz.ntmps67 rfl rfl fun w0 F0 O => ?_
  repeat' (first | refine zS rfl ?_ | refine qA ?_ | refine qB rfl ?_ | refine qC (by kernel_rfl) ?_ | refine qD ?_ | refine qE ?_ | refine qF ?_ | refine qG ?_ | refine qH rfl ?_ | refine zT rfl ?_ | refine zU rfl ?_ | refine qL rfl rfl ?_ | refine qM rfl rfl rfl ?_ | refine qO rfl rfl rfl ?_ | refine zX rfl rfl rfl rfl ?_ | refine zW rfl rfl rfl rfl ?_ | (refine qY rfl rfl rfl rfl ?_ ?_ <;> intro _) | exact zD | exact zL)
  refine go_loop_ (α := RgT ap key its) (fun p => ⟨[(7, rowK 1 (encL p.out)), (1, .d (.sl (its.map encIm))), (2, .d (.sl (grp.map encM))), (3, .ptr 0 0), (8, .d (.int p.k)), (11, .d (.sl (its.map encIm))), (12, .d (.int (its.map encIm).length)), (13, .d (.int p.i))], .var 41 (.w (.d (encGr g))) :: rowO 35 5 (encL p.out)⟩) (fun p => its.length - p.i) ⟨0, 0, [], by omega, by simp, by simp, rfl⟩ ((zle 1)) ?_
  rintro ⟨i, k, out, hi, ho, hkk, ht⟩
  dsimp only
  have hll : (encL out).length ≤ i := by rw [encL_len]; exact ho
  have hkb : k ≤ 1000000 := by omega
  rcases Nat.lt_or_ge i its.length with hlt | hge
  · have g1 : decide ((i : Int) < ((its.map encIm).length : Int)) = true := by rw [hle]; simpa using hlt
    have hx0 := List.getElem?_eq_getElem hlt
    generalize its[i] = x at hx0
    have hx : (its.map encIm)[(i : Int).toNat]? = some (encIm x) := map_at hx0
    have hmem := List.mem_of_getElem? hx0
    rw [drop_at hx0] at ht hkk
    simp only [rowG] at ht
    have hkc : ∀ r, nKy (x :: r) = (bif isKy x then 1 else 0) + nKy r := fun r => by
      unfold nKy
      rw [List.filter_cons]
      cases isKy x <;> simp <;> omega
    rw [hkc] at hkk
    cases hky : isKy x with
    | false =>
      rw [hky, cond_false] at ht hkk
      have q := hA x hmem hky
      have g2 : (x.e.op == 24) = true := by unfold isKy at hky; simpa using hky
      have happ := encL_app out (ap x.e)
      have ht' : rowG ap key its 0 = (out ++ [ap x.e]) ++ rowG ap key (its.drop (i + 1)) k := by rw [ht]; simp
      generalize encL out = eo at *
      match eo, hll with
      | [], hll =>
        dsimp only [rowK, rowO]
        repeat' (first | refine zS rfl ?_ | refine qA ?_ | refine qB rfl ?_ | refine qC (by kernel_rfl) ?_ | refine qD ?_ | refine qE ?_ | refine qF ?_ | refine qG ?_ | refine qH rfl ?_ | refine qI (encIm x) rfl (guardX_ok rfl) rfl rfl rfl rfl rfl rfl (by first | omega | decide) hx ?_ | refine go_load0 rfl rfl rfl rfl rfl rfl rfl ?_ | refine go_loadA 9 rfl rfl rfl rfl rfl rfl ?_ | refine qP rfl rfl rfl rfl rfl rfl b109 (q) ?_ | (refine qS rfl ⟨by simp, fun d hd => by (obtain rfl := List.mem_singleton.1 hd; rfl), by (show (0 + 1) * 64 ≤ 140737488355328; omega), by (show 0 + 1 ≤ 9223372036854775807; omega)⟩ ?_) | refine zT rfl ?_ | refine zU rfl ?_ | refine qL rfl rfl ?_ | refine qM rfl rfl rfl ?_ | refine qO rfl rfl rfl ?_ | refine zX rfl rfl rfl rfl ?_ | refine zW rfl rfl rfl rfl ?_ | (refine qY rfl rfl rfl rfl ?_ ?_ <;> intro _) | exact zD | exact zL)
        refine go_stop ?_
        refine ⟨⟨i + 1, k, out ++ [ap x.e], by omega, by simp; omega, by omega, ht'⟩, by dsimp only; omega, ?_⟩
        dsimp only
        rw [happ]
        exact (zren [0, 2])
      | a :: q0, hll =>
        dsimp only [rowK, rowO]
        repeat' (first | refine zS rfl ?_ | refine qA ?_ | refine qB rfl ?_ | refine qC (by kernel_rfl) ?_ | refine qD ?_ | refine qE ?_ | refine qF ?_ | refine qG ?_ | refine qH rfl ?_ | refine qI (encIm x) rfl (guardX_ok rfl) rfl rfl rfl rfl rfl rfl (by first | omega | decide) hx ?_ | refine go_load0 rfl rfl rfl rfl rfl rfl rfl ?_ | refine go_loadA 9 rfl rfl rfl rfl rfl rfl ?_ | refine qP rfl rfl rfl rfl rfl rfl b109 (q) ?_ | (refine qS rfl ⟨by simp, fun d hd => by (obtain rfl := List.mem_singleton.1 hd; rfl), by (show ((a :: q0).length + 1) * 64 ≤ 140737488355328; omega), by (show (a :: q0).length + 1 ≤ 9223372036854775807; omega)⟩ ?_) | refine zT rfl ?_ | refine zU rfl ?_ | refine qL rfl rfl ?_ | refine qM rfl rfl rfl ?_ | refine qO rfl rfl rfl ?_ | refine zX rfl rfl rfl rfl ?_ | refine zW rfl rfl rfl rfl ?_ | (refine qY rfl rfl rfl rfl ?_ ?_ <;> intro _) | exact zD | exact zL)
        refine go_stop ?_
        refine ⟨⟨i + 1, k, out ++ [ap x.e], by omega, by simp; omega, by omega, ht'⟩, by dsimp only; omega, ?_⟩
        dsimp only
        rw [happ]
        exact (zren [0, 3])
    | true =>
      rw [hky, cond_true] at ht hkk
      have g2 : (x.e.op == 24) = false := by unfold isKy at hky; simpa using hky
      have happ := encL_app out (atS key k)
      have ht' : rowG ap key its 0 = (out ++ [atS key k]) ++ rowG ap key (its.drop (i + 1)) (k + 1) := by rw [ht]; simp
      obtain ⟨m, r, eg, ek⟩ := hg.resolve_left (by omega)
      have hx1 : (grp.map encM)[(0 : Int).toNat]? = some (encM m) := by rw [eg]; rfl
      have hx2 : (encL m.key)[(k : Int).toNat]? = some (enc (atS key k)) := by rw [ek]; exact encL_get (by rw [Int.toNat_natCast]; exact atS_get (by omega))
      generalize encL out = eo at *
      match eo, hll with
      | [], hll =>
        dsimp only [rowK, rowO]
        repeat' (first | refine zS rfl ?_ | refine qA ?_ | refine qB rfl ?_ | refine qC (by kernel_rfl) ?_ | refine qD ?_ | refine qE ?_ | refine qF ?_ | refine qG ?_ | refine qH rfl ?_ | refine qI (encIm x) rfl (guardX_ok rfl) rfl rfl rfl rfl rfl rfl (by first | omega | decide) hx ?_ | refine qI (encM m) rfl (guardX_ok rfl) rfl rfl rfl rfl rfl rfl (by first | omega | decide) hx1 ?_ | refine qI (enc (atS key k)) rfl (guardX_ok rfl) rfl rfl rfl rfl rfl rfl (by first | omega | decide) hx2 ?_ | (refine qS rfl ⟨by simp, fun d hd => by (obtain rfl := List.mem_singleton.1 hd; rfl), by (show (0 + 1) * 64 ≤ 140737488355328; omega), by (show 0 + 1 ≤ 9223372036854775807; omega)⟩ ?_) | refine zT rfl ?_ | refine zU rfl ?_ | refine qL rfl rfl ?_ | refine qM rfl rfl rfl ?_ | refine qO rfl rfl rfl ?_ | refine zX rfl rfl rfl rfl ?_ | refine zW rfl rfl rfl rfl ?_ | (refine qY rfl rfl rfl rfl ?_ ?_ <;> intro _) | exact zD | exact zL)
        refine go_stop ?_
        refine ⟨⟨i + 1, k + 1, out ++ [atS key k], by omega, by simp; omega, by omega, ht'⟩, by dsimp only; omega, ?_⟩
        dsimp only
        rw [happ]
        exact (zren [0, 2])
      | a :: q0, hll =>
        dsimp only [rowK, rowO]
        repeat' (first | refine zS rfl ?_ | refine qA ?_ | refine qB rfl ?_ | refine qC (by kernel_rfl) ?_ | refine qD ?_ | refine qE ?_ | refine qF ?_ | refine qG ?_ | refine qH rfl ?_ | refine qI (encIm x) rfl (guardX_ok rfl) rfl rfl rfl rfl rfl rfl (by first | omega | decide) hx ?_ | refine qI (encM m) rfl (guardX_ok rfl) rfl rfl rfl rfl rfl rfl (by first | omega | decide) hx1 ?_ | refine qI (enc (atS key k)) rfl (guardX_ok rfl) rfl rfl rfl rfl rfl rfl (by first | omega | decide) hx2 ?_ | (refine qS rfl ⟨by simp, fun d hd => by (obtain rfl := List.mem_singleton.1 hd; rfl), by (show ((a :: q0).length + 1) * 64 ≤ 140737488355328; omega), by (show (a :: q0).length + 1 ≤ 9223372036854775807; omega)⟩ ?_) | refine zT rfl ?_ | refine zU rfl ?_ | refine qL rfl rfl ?_ | refine qM rfl rfl rfl ?_ | refine qO rfl rfl rfl ?_ | refine zX rfl rfl rfl rfl ?_ | refine zW rfl rfl rfl rfl ?_ | (refine qY rfl rfl rfl rfl ?_ ?_ <;> intro _) | exact zD | exact zL)
        refine go_stop ?_
        refine ⟨⟨i + 1, k + 1, out ++ [atS key k], by omega, by simp; omega, by omega, ht'⟩, by dsimp only; omega, ?_⟩
        dsimp only
        rw [happ]
        exact (zren [0, 3])
  · have g1 : decide ((i : Int) < ((its.map encIm).length : Int)) = false := by rw [hle]; simp; omega
    rw [List.drop_eq_nil_of_le hge] at ht
    simp only [rowG, List.append_nil] at ht
    rw [ht]
    generalize encL out = eo at *
    match eo with
    | [] =>
      dsimp only [rowK, rowO]
      repeat' (first | refine zS rfl ?_ | refine qA ?_ | refine qB rfl ?_ | refine qC (by kernel_rfl) ?_ | refine qD ?_ | refine qE ?_ | refine qF ?_ | refine qG ?_ | refine qH rfl ?_ | refine zT rfl ?_ | refine zU rfl ?_ | refine qL rfl rfl ?_ | refine qM rfl rfl rfl ?_ | refine qO rfl rfl rfl ?_ | refine zX rfl rfl rfl rfl ?_ | refine zW rfl rfl rfl rfl ?_ | (refine qY rfl rfl rfl rfl ?_ ?_ <;> intro _) | exact zD | exact zL)
    | a :: q =>
      dsimp only [rowK, rowO]
      refine go_frz 1 rfl ?_
      repeat' (first | refine zS rfl ?_ | refine qA ?_ | refine qB rfl ?_ | refine qC (by kernel_rfl) ?_ | refine qD ?_ | refine qE ?_ | refine qF ?_ | refine qG ?_ | refine qH rfl ?_ | refine zT rfl ?_ | refine zU rfl ?_ | refine qL rfl rfl ?_ | refine qM rfl rfl rfl ?_ | refine qO rfl rfl rfl ?_ | refine zX rfl rfl rfl rfl ?_ | refine zW rfl rfl rfl rfl ?_ | (refine qY rfl rfl rfl rfl ?_ ?_ <;> intro _) | exact zD | exact zL)
theorem apply0_ev (g : Gr) (e : Ex) (grp : List Mm) (h0 : e.ks = []) (hc : (e.nm.toList == (⟨#[99, 111, 117, 110, 116]⟩ : ByteArray).toList) = true) : Ev E 109 [encGr g, encE e, .sl (grp.map encM)] (.d (enc (vInt grp.length))) := by
  have hk : kidsE e = [] := by rw [kidsE_eq, h0]; rfl
  have hl : (grp.map encM).length = grp.length := by simp
  have g1 : (((kidsE e).length : Int) == 0) = true := by rw [hk]; rfl
  have qi := int_ev (grp.map encM).length
  rw [← hl]
  refine enter3 Tryz.func109 Tryz.ntmps109 rfl rfl fun w0 F0 O => ?_
  repeat' (first | refine zS rfl ?_ | refine qA ?_ | refine qB rfl ?_ | refine qC (by kernel_rfl) ?_ | refine qD ?_ | refine qE ?_ | refine qF ?_ | refine qG ?_ | refine qH rfl ?_ | refine qP rfl rfl rfl rfl rfl rfl b31 (qi) ?_ | refine zT rfl ?_ | refine zU rfl ?_ | refine qL rfl rfl ?_ | refine qM rfl rfl rfl ?_ | refine qO rfl rfl rfl ?_ | refine zX rfl rfl rfl rfl ?_ | refine zW rfl rfl rfl rfl ?_ | (refine qY rfl rfl rfl rfl ?_ ?_ <;> intro _) | exact zD | exact zL)
/-! ## The worked examples -/
def cnE : Ex := .mk 24 (.mk 0 0 0 ⟨#[]⟩ []) ⟨#[99, 111, 117, 110, 116]⟩ false []
def cnI : Itm := ⟨cnE, ⟨#[110]⟩⟩
def gr1 : Gr := ⟨[], [], 1, 1⟩
abbrev zTb : AObj := .var 45 (.cs [.nilS, .nilS])
theorem table1_ev : Ev E 26 [encGr gr1, .sl [encIm cnI], .agg [.sl [], .sl []]] (.d (.agg [.sl [.str ⟨#[110]⟩], .sl [.sl [enc (vInt 0)]]])) := by
  have q := row_ev gr1 [cnI] [] (fun _ => vInt 0) [] (by decide) (fun x hx _ => by
    rw [List.mem_singleton.1 hx]
    exact apply0_ev gr1 cnE [] rfl (beq_self_eq_true _)) (by decide) (.inl (by decide))
  have er : rowG (fun _ => vInt 0) [] [cnI] 0 = [vInt 0] := rfl
  rw [er] at q
  have q' : Ev E 67 [encGr gr1, .sl [encIm cnI], .sl []] (.d (.sl [enc (vInt 0)])) := q
  have hx : [encIm cnI][(0 : Int).toNat]? = some (encIm cnI) := rfl
  refine enter3 Tryz.func26 Tryz.ntmps26 rfl rfl fun w0 F0 O => ?_
  repeat' (first | refine zS rfl ?_ | refine qA ?_ | refine qB rfl ?_ | refine qC (by kernel_rfl) ?_ | refine qD ?_ | refine qE ?_ | refine qF ?_ | refine qG ?_ | refine qH rfl ?_ | refine zT rfl ?_ | refine zU rfl ?_ | refine qL rfl rfl ?_ | refine qM rfl rfl rfl ?_ | refine qO rfl rfl rfl ?_ | refine zX rfl rfl rfl rfl ?_ | refine zW rfl rfl rfl rfl ?_ | (refine qY rfl rfl rfl rfl ?_ ?_ <;> intro _) | exact zD | exact zL)
  refine go_loop_ (α := Bool) (fun p => ⟨[(1, .d (.sl [encIm cnI])), (3, .ptr 0 0), (5, .ptr 1 0), (6, .ptr 2 0), (7, .ptr 3 0), (8, .d (.int 0)), (18, .d (.sl [encIm cnI])), (19, .d (.int 1)), (20, .d (.int (bif p then 1 else 0)))], [.var 41 (.w (.d (encGr gr1))), .var 45 (.w (.d (.agg [.sl [], .sl []]))), zTb] ++ (bif p then [.var 45 (.cs [.own 4, .nilS]), .row 9 1 [.str ⟨#[110]⟩]] else [zTb])⟩) (fun p => bif p then 0 else 1) false ((zle 4)) ?_
  intro p
  cases p with
  | false =>
    dsimp only [cond_false, List.append]
    repeat' (first | refine zS rfl ?_ | refine qA ?_ | refine qB rfl ?_ | refine qC (by kernel_rfl) ?_ | refine qD ?_ | refine qE ?_ | refine qF ?_ | refine qG ?_ | refine qH rfl ?_ | refine qI (encIm cnI) rfl (guardX_ok rfl) rfl rfl rfl rfl rfl rfl (by first | omega | decide) hx ?_ | (refine qS rfl ⟨by simp, fun d hd => by (obtain rfl := List.mem_singleton.1 hd; rfl), by (show (0 + 1) * 16 ≤ 140737488355328; omega), by (show 0 + 1 ≤ 9223372036854775807; omega)⟩ ?_) | refine zT rfl ?_ | refine zU rfl ?_ | refine qL rfl rfl ?_ | refine qM rfl rfl rfl ?_ | refine qO rfl rfl rfl ?_ | refine zX rfl rfl rfl rfl ?_ | refine zW rfl rfl rfl rfl ?_ | (refine qY rfl rfl rfl rfl ?_ ?_ <;> intro _) | exact zD | exact zL)
    refine go_stop ?_
    refine ⟨true, by decide, ?_⟩
    exact (zren [0, 1, 2, 3, 5])
  | true =>
    dsimp only [cond_true, List.append]
    repeat' (first | refine zS rfl ?_ | refine qA ?_ | refine qB rfl ?_ | refine qC (by kernel_rfl) ?_ | refine qD ?_ | refine qE ?_ | refine qF ?_ | refine qG ?_ | refine qH rfl ?_ | refine zT rfl ?_ | refine zU rfl ?_ | refine qL rfl rfl ?_ | refine qM rfl rfl rfl ?_ | refine qO rfl rfl rfl ?_ | refine zX rfl rfl rfl rfl ?_ | refine zW rfl rfl rfl rfl ?_ | (refine qY rfl rfl rfl rfl ?_ ?_ <;> intro _) | exact zD | exact zL)
    refine go_loop_ (α := Unit) (fun _ => ⟨[(1, .d (.sl [encIm cnI])), (3, .ptr 0 0), (6, .ptr 2 0), (7, .ptr 3 0), (8, .d (.int 0)), (11, .nilS), (40, .d (.int 0)), (41, .d (.int 0))], [.var 41 (.w (.d (encGr gr1))), .var 45 (.w (.d (.agg [.sl [], .sl []]))), zTb, .var 45 (.cs [.own 4, .nilS]), .row 9 1 [.str ⟨#[110]⟩]]⟩) (fun _ => 0) () ((zle 5)) ?_
    intro _
    repeat' (first | refine zS rfl ?_ | refine qA ?_ | refine qB rfl ?_ | refine qC (by kernel_rfl) ?_ | refine qD ?_ | refine qE ?_ | refine qF ?_ | refine qG ?_ | refine qH rfl ?_ | refine qP rfl rfl rfl rfl rfl rfl b67 (q') ?_ | refine zT rfl ?_ | refine zU rfl ?_ | refine qL rfl rfl ?_ | refine qM rfl rfl rfl ?_ | refine qO rfl rfl rfl ?_ | refine zX rfl rfl rfl rfl ?_ | refine zW rfl rfl rfl rfl ?_ | (refine qY rfl rfl rfl rfl ?_ ?_ <;> intro _) | exact zD | exact zL)
    refine go_frzS 4 rfl ?_
    repeat' (first | refine zS rfl ?_ | refine qA ?_ | refine qB rfl ?_ | refine qC (by kernel_rfl) ?_ | refine qD ?_ | refine qE ?_ | refine qF ?_ | refine qG ?_ | refine qH rfl ?_ | refine zT rfl ?_ | refine zU rfl ?_ | refine qL rfl rfl ?_ | refine qM rfl rfl rfl ?_ | refine qO rfl rfl rfl ?_ | refine zX rfl rfl rfl rfl ?_ | refine zW rfl rfl rfl rfl ?_ | (refine qY rfl rfl rfl rfl ?_ ?_ <;> intro _) | exact zD | exact zL)
theorem num_ev (n : Int) : Ev E 48 [.int n] (.d (enc (vInt n))) := by
  refine enter1 Tryz.func48 Tryz.ntmps48 rfl rfl fun w0 F0 O => ?_
  repeat' (first | refine zS rfl ?_ | refine qA ?_ | refine qB rfl ?_ | refine qC (by kernel_rfl) ?_ | refine qD ?_ | refine qE ?_ | refine qF ?_ | refine qG ?_ | refine qH rfl ?_ | refine zT rfl ?_ | refine zU rfl ?_ | refine qL rfl rfl ?_ | refine qM rfl rfl rfl ?_ | refine qO rfl rfl rfl ?_ | refine zX rfl rfl rfl rfl ?_ | refine zW rfl rfl rfl rfl ?_ | (refine qY rfl rfl rfl rfl ?_ ?_ <;> intro _) | exact zD | exact zL)
def exL : List V := [vInt 1, vInt 2, vNull, vInt 2]
def bSum : ByteArray := ⟨#[115, 117, 109]⟩
theorem alive23_ev : Ev E 20 [] (.d (.bool true)) := by
  have q1 := num_ev 1
  have q2 := num_ev 2
  have a1 := Agg_ev bSum false exL (by decide) (fun x hx => by simp only [exL, List.mem_cons, List.not_mem_nil, or_false] at hx; rcases hx with rfl | rfl | rfl | rfl <;> decide +kernel)
  have a2 := Agg_ev bSum true exL (by decide) (fun x hx => by simp only [exL, List.mem_cons, List.not_mem_nil, or_false] at hx; rcases hx with rfl | rfl | rfl | rfl <;> decide +kernel)
  rw [show agF bSum false exL = vInt 5 by kernel_rfl] at a1
  rw [show agF bSum true exL = vInt 3 by kernel_rfl] at a2
  have a1' : Ev E 22 [.str ⟨#[115, 117, 109]⟩, .bool false, .sl [enc (vInt 1), enc (vInt 2), enc vNull, enc (vInt 2)]] (.d (enc (vInt 5))) := a1
  have a2' : Ev E 22 [.str ⟨#[115, 117, 109]⟩, .bool true, .sl [enc (vInt 1), enc (vInt 2), enc vNull, enc (vInt 2)]] (.d (enc (vInt 3))) := a2
  have t1 := table1_ev
  have h0 : ([.sl [enc (vInt 0)]] : List D)[(0 : Int).toNat]? = some (.sl [enc (vInt 0)]) := rfl
  have h1 : ([enc (vInt 0)] : List D)[(0 : Int).toNat]? = some (enc (vInt 0)) := rfl
  refine enter0 Tryz.func20 Tryz.ntmps20 rfl rfl fun w0 F0 O => ?_
  repeat' (first | refine zS rfl ?_ | refine qA ?_ | refine qB rfl ?_ | refine qC (by kernel_rfl) ?_ | refine qD ?_ | refine qE ?_ | refine qF ?_ | refine qG ?_ | refine qH rfl ?_ | refine qP (d := 5) rfl rfl rfl rfl rfl rfl b48 (q1) ?_ | refine qP (d := 6) rfl rfl rfl rfl rfl rfl b48 (q2) ?_ | refine qP (d := 8) rfl rfl rfl rfl rfl rfl b48 (q2) ?_ | refine qP (d := 11) rfl rfl rfl rfl rfl rfl b22 (a1') ?_ | refine qP (d := 13) rfl rfl rfl rfl rfl rfl b22 (a2') ?_ | refine qP rfl rfl rfl rfl rfl rfl b26 (t1) ?_ | refine qI (.sl [enc (vInt 0)]) rfl (guardX_ok rfl) rfl rfl rfl rfl rfl rfl (by first | omega | decide) h0 ?_ | refine qI (enc (vInt 0)) rfl (guardX_ok rfl) rfl rfl rfl rfl rfl rfl (by first | omega | decide) h1 ?_ | refine zT rfl ?_ | refine zU rfl ?_ | refine qL rfl rfl ?_ | refine qM rfl rfl rfl ?_ | refine qO rfl rfl rfl ?_ | refine zX rfl rfl rfl rfl ?_ | refine zW rfl rfl rfl rfl ?_ | (refine qY rfl rfl rfl rfl ?_ ?_ <;> intro _) | exact zD | exact zL)
end Go.Proofs.YtjgmakalledclaaGreatDoor

/- The laws on aggregate functions: they answer true. Conditions: none. -/
namespace Go.Proofs.YtjgmakalledclaaGreatDoor
set_option maxRecDepth 4000
open Go Go.Abs Go.Val Go.RowKit
attribute [local irreducible] go SGo HasBody Ev ExtEv EvO EvS RGo
theorem same23_ev (x y : V) : Ev E 21 [enc x, enc y] (.d (.bool (ordF x y == 0))) := by
  have q := rOrder_ev x y
  refine enter2 Tryz.func21 Tryz.ntmps21 rfl rfl fun w0 F0 O => ?_
  repeat' (first | refine zS rfl ?_ | refine qA ?_ | refine qB rfl ?_ | refine qC (by kernel_rfl) ?_ | refine qD ?_ | refine qE ?_ | refine qF ?_ | refine qG ?_ | refine qH rfl ?_ | refine qP rfl rfl rfl rfl rfl rfl b49 (q) ?_ | refine zT rfl ?_ | refine zU rfl ?_ | refine qL rfl rfl ?_ | refine qM rfl rfl rfl ?_ | refine qO rfl rfl rfl ?_ | refine zX rfl rfl rfl rfl ?_ | refine zW rfl rfl rfl rfl ?_ | (refine qY rfl rfl rfl rfl ?_ ?_ <;> intro _) | exact zD | exact zL)
def fewF (l : List V) : Bool := decide (l.length ≤ 100) && lightF [l] 400
theorem few_ev (l : List V) : Ev E 19 [.sl (encL l)] (.d (.bool (fewF l))) := by
  have hle : (encL l).length = l.length := encL_len l
  have q := light_ev [l] 400 (by omega) (by omega)
  unfold fewF
  by_cases h : l.length ≤ 100
  · have g : decide (((encL l).length : Int) ≤ 100) = true := decide_eq_true (by omega)
    rw [decide_eq_true h, Bool.true_and]
    refine enter1 Tryz.func19 Tryz.ntmps19 rfl rfl fun w0 F0 O => ?_
    repeat' (first | refine zS rfl ?_ | refine qA ?_ | refine qB rfl ?_ | refine qC (by kernel_rfl) ?_ | refine qD ?_ | refine qE ?_ | refine qF ?_ | refine qG ?_ | refine qH rfl ?_ | refine qP rfl rfl rfl rfl rfl rfl b10 (q) ?_ | refine zT rfl ?_ | refine zU rfl ?_ | refine qL rfl rfl ?_ | refine qM rfl rfl rfl ?_ | refine qO rfl rfl rfl ?_ | refine zX rfl rfl rfl rfl ?_ | refine zW rfl rfl rfl rfl ?_ | (refine qY rfl rfl rfl rfl ?_ ?_ <;> intro _) | exact zD | exact zL)
  · have g : decide (((encL l).length : Int) ≤ 100) = false := decide_eq_false (by omega)
    rw [decide_eq_false h, Bool.false_and]
    refine enter1 Tryz.func19 Tryz.ntmps19 rfl rfl fun w0 F0 O => ?_
    repeat' (first | refine zS rfl ?_ | refine qA ?_ | refine qB rfl ?_ | refine qC (by kernel_rfl) ?_ | refine qD ?_ | refine qE ?_ | refine qF ?_ | refine qG ?_ | refine qH rfl ?_ | refine qP rfl rfl rfl rfl rfl rfl b10 (q) ?_ | refine zT rfl ?_ | refine zU rfl ?_ | refine qL rfl rfl ?_ | refine qM rfl rfl rfl ?_ | refine qO rfl rfl rfl ?_ | refine zX rfl rfl rfl rfl ?_ | refine zW rfl rfl rfl rfl ?_ | (refine qY rfl rfl rfl rfl ?_ ?_ <;> intro _) | exact zD | exact zL)
theorem few_ok {l : List V} (h : fewF l = true) : l.length ≤ 100 ∧ ∀ x ∈ l, nar x = true := by
  unfold fewF at h
  rw [Bool.and_eq_true] at h
  refine ⟨of_decide_eq_true h.1, fun x hx => ?_⟩
  have := (light_rows (by omega) h.2).2 l (by simp)
  exact narL_mem (nar_l this).2 x hx
theorem law_tells (name : ByteArray) (b : Bool) (l : List V) : Ev E 4 [.str name, .bool b, .sl (encL l)] (.d (.bool true)) := by
  have hal := alive23_ev
  have hf := few_ev l
  cases h : fewF l with
  | false =>
    rw [h] at hf
    have g : (!false) = true := rfl
    refine enter3 Tryz.func4 Tryz.ntmps4 rfl rfl fun w0 F0 O => ?_
    repeat' (first | refine zS rfl ?_ | refine qA ?_ | refine qB rfl ?_ | refine qC (by kernel_rfl) ?_ | refine qD ?_ | refine qE ?_ | refine qF ?_ | refine qG ?_ | refine qH rfl ?_ | refine qP rfl rfl rfl rfl rfl rfl b19 (hf) ?_ | refine qP rfl rfl rfl rfl rfl rfl b20 (hal) ?_ | refine zT rfl ?_ | refine zU rfl ?_ | refine qL rfl rfl ?_ | refine qM rfl rfl rfl ?_ | refine qO rfl rfl rfl ?_ | refine zX rfl rfl rfl rfl ?_ | refine zW rfl rfl rfl rfl ?_ | (refine qY rfl rfl rfl rfl ?_ ?_ <;> intro _) | exact zD | exact zL)
  | true =>
    rw [h] at hf
    have g : (!true) = false := rfl
    obtain ⟨h1, h2⟩ := few_ok h
    have a1 := Agg_ev name b l (by omega) h2
    have a2 := RAgg_ev name b l (by omega) h2
    have a3 := same23_ev (agF name b l) (agF name b l)
    rw [ordF_self] at a3
    refine enter3 Tryz.func4 Tryz.ntmps4 rfl rfl fun w0 F0 O => ?_
    repeat' (first | refine zS rfl ?_ | refine qA ?_ | refine qB rfl ?_ | refine qC (by kernel_rfl) ?_ | refine qD ?_ | refine qE ?_ | refine qF ?_ | refine qG ?_ | refine qH rfl ?_ | refine qP rfl rfl rfl rfl rfl rfl b19 (hf) ?_ | refine qP rfl rfl rfl rfl rfl rfl b20 (hal) ?_ | refine qP rfl rfl rfl rfl rfl rfl b22 (a1) ?_ | refine qP rfl rfl rfl rfl rfl rfl b23 (a2) ?_ | refine qP rfl rfl rfl rfl rfl rfl b21 (a3) ?_ | refine zT rfl ?_ | refine zU rfl ?_ | refine qL rfl rfl ?_ | refine qM rfl rfl rfl ?_ | refine qO rfl rfl rfl ?_ | refine zX rfl rfl rfl rfl ?_ | refine zW rfl rfl rfl rfl ?_ | (refine qY rfl rfl rfl rfl ?_ ?_ <;> intro _) | exact zD | exact zL)
structure BkT (l : List V) where
  k : Nat
  hk : k ≤ l.length
theorem backF_cons (x : V) (r : List V) : backF (x :: r) = backF r ++ [x, vNull] := by
  unfold backF
  rw [List.reverse_cons, List.flatMap_append]
  simp
theorem backF_len (l : List V) : (backF l).length = 2 * l.length := by
  induction l with
  | nil => rfl
  | cons x r ih => rw [backF_cons, List.length_append, ih]; simp; omega
theorem backF_mem {l : List V} {x : V} (h : x ∈ backF l) : x ∈ l ∨ x = vNull := by
  induction l with
  | nil => simp [backF] at h
  | cons y r ih =>
    rw [backF_cons, List.mem_append] at h
    rcases h with h | h
    · rcases ih h with h | h
      · exact .inl (by simp [h])
      · exact .inr h
    · simp only [List.mem_cons, List.not_mem_nil, or_false] at h
      rcases h with h | h
      · exact .inl (by simp [h])
      · exact .inr h
theorem law_turns (name : ByteArray) (b : Bool) (l : List V) : Ev E 6 [.str name, .bool b, .sl (encL l)] (.d (.bool true)) := by
  have hal := alive23_ev
  have hf := few_ev l
  have hle : (encL l).length = l.length := encL_len l
  cases h : fewF l with
  | false =>
    rw [h] at hf
    have g : (!false) = true := rfl
    refine enter3 Tryz.func6 Tryz.ntmps6 rfl rfl fun w0 F0 O => ?_
    repeat' (first | refine zS rfl ?_ | refine qA ?_ | refine qB rfl ?_ | refine qC (by kernel_rfl) ?_ | refine qD ?_ | refine qE ?_ | refine qF ?_ | refine qG ?_ | refine qH rfl ?_ | refine qP rfl rfl rfl rfl rfl rfl b19 (hf) ?_ | refine qP rfl rfl rfl rfl rfl rfl b20 (hal) ?_ | refine zT rfl ?_ | refine zU rfl ?_ | refine qL rfl rfl ?_ | refine qM rfl rfl rfl ?_ | refine qO rfl rfl rfl ?_ | refine zX rfl rfl rfl rfl ?_ | refine zW rfl rfl rfl rfl ?_ | (refine qY rfl rfl rfl rfl ?_ ?_ <;> intro _) | exact zD | exact zL)
  | true =>
    rw [h] at hf
    have g : (!true) = false := rfl
    obtain ⟨h1, h2⟩ := few_ok h
    have a1 := Agg_ev name b l (by omega) h2
    have a2 := Agg_ev name b (backF l) (by rw [backF_len]; omega) (fun x hx => by rcases backF_mem hx with e | e; exact h2 x e; rw [e]; decide)
    rw [ag_back] at a2
    have a3 := same23_ev (agF name b l) (agF name b l)
    rw [ordF_self] at a3
    refine enter3 Tryz.func6 Tryz.ntmps6 rfl rfl fun w0 F0 O => ?_
    repeat' (first | refine zS rfl ?_ | refine qA ?_ | refine qB rfl ?_ | refine qC (by kernel_rfl) ?_ | refine qD ?_ | refine qE ?_ | refine qF ?_ | refine qG ?_ | refine qH rfl ?_ | refine qP rfl rfl rfl rfl rfl rfl b19 (hf) ?_ | refine zT rfl ?_ | refine zU rfl ?_ | refine qL rfl rfl ?_ | refine qM rfl rfl rfl ?_ | refine qO rfl rfl rfl ?_ | refine zX rfl rfl rfl rfl ?_ | refine zW rfl rfl rfl rfl ?_ | (refine qY rfl rfl rfl rfl ?_ ?_ <;> intro _) | exact zD | exact zL)
    refine go_loop_ (α := BkT l) (fun p => ⟨[(0, .d (.str name)), (1, .d (.bool b)), (2, .d (.sl (encL l))), (7, rowX (encL (backF (l.drop p.k)))), (8, .d (.int ((p.k : Int) - 1)))], rowO 35 5 (encL (backF (l.drop p.k)))⟩) (fun p => p.k) ⟨l.length, Nat.le_refl _⟩ (by
      dsimp only
      rw [List.drop_eq_nil_of_le (Nat.le_refl _), ← hle]
      exact (zle 0)) ?_
    rintro ⟨k, hk⟩
    dsimp only
    cases k with
    | zero =>
      have g1 : decide (((0 : Nat) : Int) - 1 ≥ 0) = false := by decide
      rw [List.drop_zero]
      generalize encL (backF l) = eo at *
      match eo with
      | [] =>
        dsimp only [rowX, rowO]
        repeat' (first | refine zS rfl ?_ | refine qA ?_ | refine qB rfl ?_ | refine qC (by kernel_rfl) ?_ | refine qD ?_ | refine qE ?_ | refine qF ?_ | refine qG ?_ | refine qH rfl ?_ | refine qP (d := 31) rfl rfl rfl rfl rfl rfl b22 (a1) ?_ | refine qP (d := 35) rfl rfl rfl rfl rfl rfl b22 (a2) ?_ | refine qP rfl rfl rfl rfl rfl rfl b21 (a3) ?_ | refine qP rfl rfl rfl rfl rfl rfl b20 (hal) ?_ | refine zT rfl ?_ | refine zU rfl ?_ | refine qL rfl rfl ?_ | refine qM rfl rfl rfl ?_ | refine qO rfl rfl rfl ?_ | refine zX rfl rfl rfl rfl ?_ | refine zW rfl rfl rfl rfl ?_ | (refine qY rfl rfl rfl rfl ?_ ?_ <;> intro _) | exact zD | exact zL)
      | y :: q =>
        dsimp only [rowX, rowO]
        refine go_frz 0 rfl ?_
        repeat' (first | refine zS rfl ?_ | refine qA ?_ | refine qB rfl ?_ | refine qC (by kernel_rfl) ?_ | refine qD ?_ | refine qE ?_ | refine qF ?_ | refine qG ?_ | refine qH rfl ?_ | refine qP (d := 31) rfl rfl rfl rfl rfl rfl b22 (a1) ?_ | refine qP (d := 35) rfl rfl rfl rfl rfl rfl b22 (a2) ?_ | refine qP rfl rfl rfl rfl rfl rfl b21 (a3) ?_ | refine qP rfl rfl rfl rfl rfl rfl b20 (hal) ?_ | refine zT rfl ?_ | refine zU rfl ?_ | refine qL rfl rfl ?_ | refine qM rfl rfl rfl ?_ | refine qO rfl rfl rfl ?_ | refine zX rfl rfl rfl rfl ?_ | refine zW rfl rfl rfl rfl ?_ | (refine qY rfl rfl rfl rfl ?_ ?_ <;> intro _) | exact zD | exact zL)
    | succ k =>
      have g1 : decide (((k + 1 : Nat) : Int) - 1 ≥ 0) = true := decide_eq_true (by omega)
      have hx0 := atS_get (show k < l.length by omega)
      have hx : (encL l)[(((k + 1 : Nat) : Int) - 1).toNat]? = some (enc (atS l k)) := encL_get (by rw [show (((k + 1 : Nat) : Int) - 1).toNat = k by omega]; exact hx0)
      have hb : encL (backF (l.drop k)) = encL (backF (l.drop (k + 1))) ++ [enc (atS l k), enc vNull] := by
        rw [drop_atS (show k < l.length by omega), backF_cons]
        simp [encL_map]
      have hlen : (encL (backF (l.drop (k + 1)))).length ≤ 200 := by rw [encL_len, backF_len, List.length_drop]; omega
      have he : ((k + 1 : Nat) : Int) - 1 - 1 = (k : Int) - 1 := by omega
      generalize encL (backF (l.drop (k + 1))) = eo at *
      match eo, hlen with
      | [], hlen =>
        dsimp only [rowX, rowO]
        repeat' (first | refine zS rfl ?_ | refine qA ?_ | refine qB rfl ?_ | refine qC (by kernel_rfl) ?_ | refine qD ?_ | refine qE ?_ | refine qF ?_ | refine qG ?_ | refine qH rfl ?_ | refine qI (enc (atS l k)) rfl (guardX_ok rfl) rfl rfl rfl rfl rfl rfl (by first | omega | decide) hx ?_ | (refine qS rfl ⟨by simp, fun d hd => by (simp only [List.mem_cons, List.not_mem_nil, or_false] at hd; rcases hd with rfl | rfl <;> rfl), by (show (0 + 2) * 64 ≤ 140737488355328; omega), by (show 0 + 2 ≤ 9223372036854775807; omega)⟩ ?_) | refine zT rfl ?_ | refine zU rfl ?_ | refine qL rfl rfl ?_ | refine qM rfl rfl rfl ?_ | refine qO rfl rfl rfl ?_ | refine zX rfl rfl rfl rfl ?_ | refine zW rfl rfl rfl rfl ?_ | (refine qY rfl rfl rfl rfl ?_ ?_ <;> intro _) | exact zD | exact zL)
        refine go_stop ?_
        refine ⟨⟨k, by omega⟩, by dsimp only; omega, ?_⟩
        show Le _ ⟨(8, .d (.int (((k + 1 : Nat) : Int) - 1 - 1))) :: _, _⟩ _
        dsimp only
        rw [hb, he]
        exact (zren [0])
      | y :: q, hlen =>
        dsimp only [rowX, rowO]
        repeat' (first | refine zS rfl ?_ | refine qA ?_ | refine qB rfl ?_ | refine qC (by kernel_rfl) ?_ | refine qD ?_ | refine qE ?_ | refine qF ?_ | refine qG ?_ | refine qH rfl ?_ | refine qI (enc (atS l k)) rfl (guardX_ok rfl) rfl rfl rfl rfl rfl rfl (by first | omega | decide) hx ?_ | (refine qS rfl ⟨by simp, fun d hd => by (simp only [List.mem_cons, List.not_mem_nil, or_false] at hd; rcases hd with rfl | rfl <;> rfl), by (show ((y :: q).length + 2) * 64 ≤ 140737488355328; omega), by (show (y :: q).length + 2 ≤ 9223372036854775807; omega)⟩ ?_) | refine zT rfl ?_ | refine zU rfl ?_ | refine qL rfl rfl ?_ | refine qM rfl rfl rfl ?_ | refine qO rfl rfl rfl ?_ | refine zX rfl rfl rfl rfl ?_ | refine zW rfl rfl rfl rfl ?_ | (refine qY rfl rfl rfl rfl ?_ ?_ <;> intro _) | exact zD | exact zL)
        refine go_stop ?_
        refine ⟨⟨k, by omega⟩, by dsimp only; omega, ?_⟩
        show Le _ ⟨(8, .d (.int (((k + 1 : Nat) : Int) - 1 - 1))) :: _, _⟩ _
        dsimp only
        rw [hb, he]
        exact (zren [1])
end Go.Proofs.YtjgmakalledclaaGreatDoor
