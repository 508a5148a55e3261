/- What the program's Table gives: its specification in plain Lean; its comparison of members; sorts of nothing; The program's Table: grouping, walked; What the program's Table gives does not depend on the order of the rows; its rows are small; From rows' readings to items and tables. Conditions: each part's own, as it says. -/
import Derived.Test.YtjgmakalledclaaGreatDoorGC
import Derived.Test.YtjgmakalledclaaGreatDoorGE
import Derived.Test.YtjgmakalledclaaGreatDoorSM
import Derived.Test.YtjgmakalledclaaGreatDoorSR
import Derived.Test.YtjgmakalledclaaGreatDoorEB
set_option linter.unusedVariables false
set_option linter.unusedSimpArgs false
namespace Go.Proofs.YtjgmakalledclaaGreatDoor
set_option maxRecDepth 4000
open Go Go.Abs Go.Val Go.RowKit Go.Proofs.Tryz
attribute [local irreducible] go SGo HasBody Ev ExtEv EvO EvS RGo
def keyF (g : Gr) (its : List Itm) (env : List Bd) : List V := (its.filter isKy).map fun x => valF g env x.e
def memF (g : Gr) (its : List Itm) (cols : List ByteArray) (r : List V) : Mm := ⟨keyF g its (envA cols r), envA cols r⟩
def memC (x y : Mm) : Int := cmpL ordF x.key y.key
theorem memC3 : Cmp3 memC := ⟨fun x y => rowC.anti x.key y.key, fun x y z => rowC.tr x.key y.key z.key⟩
def runF : Nat → List Mm → List (List Mm)
 | 0, _ => []
 | _ + 1, [] => []
 | f + 1, m :: r => (m :: r.takeWhile fun x => memC m x == 0) :: runF f (r.dropWhile fun x => memC m x == 0)
def groF (g : Gr) (its : List Itm) (q : List Mm) : List V := rowG (apG g (q.map (·.env))) (q.headD default).key its 0
def tabR (g : Gr) (its : List Itm) (all : List Mm) : List (List V) :=
 bif nKy its == 0 then [rowG (apG g (all.map (·.env))) [] its 0] else stS (cmpL ordF) ((runF (stS memC all).length (stS memC all)).map (groF g its))
def tabF (g : Gr) (its : List Itm) (t : Tb) : Tb := ⟨its.map (·.asn), tabR g its (t.rows.map (memF g its t.cols))⟩
theorem tcmp_ev (x y : Mm) : Ev E 69 [encM x, encM y] (.d (.int (memC x y))) := by
 have q := OrderRows_ev x.key y.key
 refine ye2 func69 ntmps69 fun _ _ _=>?_
 repeat' (first | refine yz ?_ | refine yp b13 q ?_ | exact zD)
theorem insM0_ev (fn : FuncId) : EvS E 161 [.d (.sl []), .d (.int 0), .d (.int 0), .d (.imm (.func (.func fn) #[] #[]))] [] (.tup []) [] := by
 refine yn func161 ntmps161 fun _ _ _ _=>?_
 repeat' (refine yz ?_)
 refine go_loop_ (α := Unit) (fun _ => ⟨[(2, .d (.int 0)), (8, .d (.int 1))], []⟩) (fun _ => 0) () (zle 0) ?_
 rintro -
 have g : decide ((1 : Int) < 0) = false := rfl
 repeat' (first | refine yz ?_ | refine yo [])
theorem staM0_ev (fn : FuncId) : EvS E 110 [.d (.sl []), .d (.int 0), .d (.imm (.func (.func fn) #[] #[]))] [] (.tup []) [] := by
 have q := insM0_ev fn
 refine yn func110 ntmps110 fun _ _ _ _=>?_
 repeat' (refine yz ?_)
 refine go_loop_ (α := Unit) (fun _ => ⟨[(0, .d (.sl [])), (1, .d (.int 0)), (2, .d (.imm (.func (.func fn) #[] #[]))), (6, .d (.int 20)), (7, .d (.int 0)), (8, .d (.int 20))], []⟩) (fun _ => 0) () (zle 0) ?_
 rintro -
 have g : decide ((20 : Int) ≤ 0) = false := rfl
 have g2 : decide ((20 : Int) < 0) = false := rfl
 repeat' (first | refine yz ?_ | refine yc [] b161 (q) ?_)
 refine go_loop_ (α := Unit) (fun _ => ⟨[(1, .d (.int 0)), (6, .d (.int 20))], []⟩) (fun _ => 0) () (zle 0) ?_
 rintro -
 repeat' (first | refine yz ?_ | refine yo [])
theorem StableM0_ev (fn : FuncId) : EvS E 68 [.d (.sl []), .d (.imm (.func (.func fn) #[] #[]))] [] (.tup []) [] := by
 have q := staM0_ev fn
 refine yn func68 ntmps68 fun _ _ _ _=>?_
 repeat' (first | refine yz ?_ | refine yc [] b110 (q) ?_ | refine yo [])
theorem keyF_len (g : Gr) (its : List Itm) (env : List Bd) : (keyF g its env).length = nKy its := by
 unfold keyF nKy
 rw [List.length_map]
theorem rowG_len (ap : Ex → V) (key : List V) : ∀ (its : List Itm) (k : Nat), (rowG ap key its k).length = its.length
 | [], _ => rfl
 | x :: r, k => by
  simp only [rowG]
  cases isKy x <;> simp [rowG_len ap key r]
theorem runF_mem : ∀ (f : Nat) (l : List Mm), ∀ q ∈ runF f l, q ≠ [] ∧ ∀ m ∈ q, m ∈ l
 | 0, l, q, h => by simp [runF] at h
 | f + 1, [], q, h => by simp [runF] at h
 | f + 1, m :: r, q, h => by
  simp only [runF, List.mem_cons] at h
  rcases h with rfl | h
  ·refine ⟨by simp, fun x hx => ?_⟩
   rcases List.mem_cons.1 hx with e | e
   ·rw [e]; simp
   ·exact List.mem_cons_of_mem _ (List.takeWhile_subset _ e)
  ·obtain ⟨h1, h2⟩ := runF_mem f _ q h
   exact ⟨h1, fun x hx => List.mem_cons_of_mem _ (List.dropWhile_subset _ (h2 x hx))⟩
def aO : List D → AObj
 | [] => .dead
 | x :: r => .row 84 2 (x :: r)
def mV (eo : List D) (env : List Bd) : VC :=
 match eo with
 | [] => .w (.d (.agg [.imm (.slice none 0 0), .sl (env.map encBd)]))
 | _ :: _ => .cs [.own 6, .d (.sl (env.map encBd))]
def cV (eo : List D) : VC :=
 match eo with
 | [] => .cs [.nilS, .nilS]
 | _ :: _ => .cs [.own 4, .nilS]
structure TbOK (g : Gr) (its : List Itm) (t : Tb) : Prop where
 hi : its.length ≤ 1000
 hc : t.cols.length ≤ 1000
 hr : t.rows.length ≤ 1000
 ev : ∀ x ∈ its, ∀ r ∈ t.rows, EvOK g (envA t.cols r) x.e ∧ ∀ y, x.e.ks[0]? = some y → EvOK g (envA t.cols r) y
structure TcT (its : List Itm) where
 i : Nat
 k : Nat
 hi : i ≤ its.length
 hk : k + nKy (its.drop i) = nKy its
structure RnT (g : Gr) (its : List Itm) (S : List Mm) where
 rest : List Mm
 dn : List (List V)
 f : Nat
 hf : rest.length ≤ f
 hrun : (runF S.length S).map (groF g its) = dn ++ (runF f rest).map (groF g its)
 hsub : ∀ m ∈ rest, m ∈ S
 hlen : rest.length ≤ 1000
theorem runF_len : ∀ (f : Nat) (l : List Mm), (runF f l).length ≤ f
 | 0, l => by simp [runF]
 | f + 1, [] => by simp [runF]
 | f + 1, m :: r => by
  simp only [runF, List.length_cons]
  have := runF_len f (r.dropWhile fun x => memC m x == 0)
  omega
theorem tw_mem {α : Type} {p : α → Bool} : ∀ {l : List α} {x : α}, x ∈ l.takeWhile p → p x = true
 | [], x, h => by simp at h
 | y :: r, x, h => by
  rw [List.takeWhile_cons] at h
  split at h
  ·rename_i hp
   rcases List.mem_cons.1 h with e | e
   ·rw [e]; exact hp
   ·exact tw_mem e
  ·simp at h
theorem dw_head {α : Type} {p : α → Bool} : ∀ {l : List α} {x : α} {q : List α}, l.dropWhile p = x :: q → p x = false
 | [], x, q, h => by simp at h
 | y :: r, x, q, h => by
  rw [List.dropWhile_cons] at h
  split at h
  ·exact dw_head h
  ·rename_i hp
   cases h
   simpa using hp
theorem tw_of {α : Type} {p : α → Bool} : ∀ (tw dw : List α), (∀ x ∈ tw, p x = true) → (∀ x q, dw = x :: q → p x = false) → (tw ++ dw).takeWhile p = tw ∧ (tw ++ dw).dropWhile p = dw
 | [], dw, _, h => by
  cases dw with
  | nil => simp
  | cons x q => simp [List.takeWhile_cons, List.dropWhile_cons, h x q rfl]
 | y :: r, dw, h1, h2 => by
  obtain ⟨a, b⟩ := tw_of r dw (fun x hx => h1 x (by simp [hx])) h2
  simp [List.takeWhile_cons, List.dropWhile_cons, h1 y (by simp), a, b]
theorem run_step (m : Mm) (tw dw : List Mm) (f : Nat) (h1 : ∀ x ∈ tw, (memC m x == 0) = true) (h2 : ∀ x q, dw = x :: q → (memC m x == 0) = false) {r : List Mm} (hr : r = tw ++ dw) : runF (f + 1) (m :: r) = (m :: tw) :: runF f dw := by
 obtain ⟨a, b⟩ := tw_of (p := fun x => memC m x == 0) tw dw h1 h2
 simp only [runF]
 rw [hr, a, b]
theorem run_dn {g : Gr} {its : List Itm} {S : List Mm} {dn l : List (List V)} (h : (runF S.length S).map (groF g its) = dn ++ l) (hS : S.length ≤ 1000) : dn.length ≤ 1000000 := by
 have h1 := congrArg List.length h
 rw [List.length_map, List.length_append] at h1
 have := runF_len S.length S
 omega
theorem nKy_cons (x : Itm) (r : List Itm) : nKy (x :: r) = (bif isKy x then 1 else 0) + nKy r := by
 unfold nKy
 rw [List.filter_cons]
 cases isKy x <;> simp <;> omega
theorem keyF_app (g : Gr) (env : List Bd) {its : List Itm} {j : Nat} {x : Itm} (h : its[j]? = some x) : keyF g (its.take (j + 1)) env = keyF g (its.take j) env ++ (bif isKy x then [valF g env x.e] else []) := by
 unfold keyF
 rw [take_app h, List.filter_append, List.map_append]
 cases hx : isKy x <;> simp [hx]
set_option maxHeartbeats 16000000 in
theorem table_ev (g : Gr) (its : List Itm) (t : Tb) (hok : TbOK g its t) (hnar : ∀ r ∈ tabR g its (t.rows.map (memF g its t.cols)), nar (vList r) = true) : Ev E 26 [encGr g, .sl (its.map encIm), encTb t] (.d (encTb (tabF g its t))) := by
 obtain ⟨hi8, hc8, hr30, hev⟩ := hok
 have hle : (its.map encIm).length = its.length := by simp
 have hlr : (Val.encR t.rows).length = t.rows.length := encR_len _
 have hkm : nKy its ≤ its.length := List.length_filter_le _ _
 refine ye3 func26 ntmps26 fun _ _ _=>?_
 repeat' (refine yz ?_)
 refine go_loop_ (α := TcT its) (fun p => ⟨[(1, .d (.sl (its.map encIm))), (3, .ptr 0 0), (5, .ptr 1 0), (6, .ptr 2 0), (7, .ptr 3 0), (8, .d (.int p.k)), (18, .d (.sl (its.map encIm))), (19, .d (.int (its.map encIm).length)), (20, .d (.int p.i))], [.var 41 (.w (.d (encGr g))), .var 45 (.w (.d (encTb t))), zTb, .var 45 (cV ((its.take p.i).map fun x => D.str x.asn))] ++ rowO 9 1 ((its.take p.i).map fun x => D.str x.asn)⟩) (fun p => its.length - p.i) ⟨0, 0, by omega, by simp⟩ (zle 4) ?_
 rintro ⟨i, k, hi, hk⟩
 dsimp only
 have hkb : k ≤ 1000 := by omega
 have hll : ((its.take i).map fun x => D.str x.asn).length ≤ i := by simp; omega
 rcases Nat.lt_or_ge i its.length with hlt | hge
 ·have g1 : decide ((i : Int) < ((its.map encIm).length : Int)) = true := by rw [hle]; simpa using hlt
  have hx0 := List.getElem?_eq_getElem hlt
  generalize its[i] = x at hx0
  have hx : (its.map encIm)[(i : Int).toNat]? = some (encIm x) := map_at hx0
  rw [drop_at hx0, nKy_cons] at hk
  have happ : ((its.take i).map fun x => D.str x.asn) ++ [.str x.asn] = (its.take (i + 1)).map fun x => D.str x.asn := by rw [take_app hx0]; simp
  generalize ((its.take i).map fun x => D.str x.asn) = eo at *
  cases hky : isKy x with
  | false =>
   rw [hky, cond_false, Nat.zero_add] at hk
   have g2 : (x.e.op != 24) = false := hky
   match eo, hll with
   | [], hll =>
    dsimp only [cV, rowO, List.append]
    repeat' (first | refine yz ?_ | refine yi (encIm x) hx ?_ | (refine qS rfl ⟨by simp, fun d hd => by (obtain rfl := List.mem_singleton.1 hd; rfl), by (show (0 + 1) * 16 ≤ 140737488355328; omega), by (show 0 + 1 ≤ 9223372036854775807; omega)⟩ ?_))
    refine go_stop ?_
    refine ⟨⟨i + 1, k, by omega, by omega⟩, by dsimp only; omega, ?_⟩
    dsimp only
    rw [← happ]
    exact (zren [0, 1, 2, 3, 5])
   | a :: q, hll =>
    dsimp only [cV, rowO, List.append]
    repeat' (first | refine yz ?_ | refine yi (encIm x) hx ?_ | (refine qS rfl ⟨by simp, fun d hd => by (obtain rfl := List.mem_singleton.1 hd; rfl), by (show ((a :: q).length + 1) * 16 ≤ 140737488355328; omega), by (show (a :: q).length + 1 ≤ 9223372036854775807; omega)⟩ ?_))
    refine go_stop ?_
    refine ⟨⟨i + 1, k, by omega, by omega⟩, by dsimp only; omega, ?_⟩
    dsimp only
    rw [← happ]
    exact (zren [0, 1, 2, 3, 6])
  | true =>
   rw [hky, cond_true] at hk
   have g2 : (x.e.op != 24) = true := hky
   match eo, hll with
   | [], hll =>
    dsimp only [cV, rowO, List.append]
    repeat' (first | refine yz ?_ | refine yi (encIm x) hx ?_ | (refine qS rfl ⟨by simp, fun d hd => by (obtain rfl := List.mem_singleton.1 hd; rfl), by (show (0 + 1) * 16 ≤ 140737488355328; omega), by (show 0 + 1 ≤ 9223372036854775807; omega)⟩ ?_))
    refine go_stop ?_
    refine ⟨⟨i + 1, k + 1, by omega, by omega⟩, by dsimp only; omega, ?_⟩
    dsimp only
    rw [← happ]
    exact (zren [0, 1, 2, 3, 5])
   | a :: q, hll =>
    dsimp only [cV, rowO, List.append]
    repeat' (first | refine yz ?_ | refine yi (encIm x) hx ?_ | (refine qS rfl ⟨by simp, fun d hd => by (obtain rfl := List.mem_singleton.1 hd; rfl), by (show ((a :: q).length + 1) * 16 ≤ 140737488355328; omega), by (show (a :: q).length + 1 ≤ 9223372036854775807; omega)⟩ ?_))
    refine go_stop ?_
    refine ⟨⟨i + 1, k + 1, by omega, by omega⟩, by dsimp only; omega, ?_⟩
    dsimp only
    rw [← happ]
    exact (zren [0, 1, 2, 3, 6])
 ·have g1 : decide ((i : Int) < ((its.map encIm).length : Int)) = false := by rw [hle]; simp; omega
  rw [List.take_of_length_le hge] at hll ⊢
  have hk0 : k = nKy its := by rw [List.drop_eq_nil_of_le hge] at hk; simpa [nKy] using hk
  subst hk0
  have hcols : encTb (tabF g its t) = .agg [.sl (its.map fun x => D.str x.asn), .sl (Val.encR (tabR g its (t.rows.map (memF g its t.cols))))] := by
   unfold encTb tabF
   rw [List.map_map]
   rfl
  generalize hq : (its.map fun x => D.str x.asn) = cols at hll ⊢
  refine go_weaken (s' := ⟨[(1, .d (.sl (its.map encIm))), (3, .ptr 0 0), (5, .ptr 1 0), (6, .ptr 2 0), (7, .ptr 3 0), (8, .d (.int (nKy its))), (19, .d (.int (its.map encIm).length)), (20, .d (.int i))], [.var 41 (.w (.d (encGr g))), .var 45 (.w (.d (encTb t))), zTb, .var 45 (.cs [.d (.sl (its.map fun x => D.str x.asn)), .nilS]), .dead]⟩) ?_ ?_
  ·cases cols with
   | nil =>
    refine fun a w h => (zle 5) a w (Le.dead a w (Le.objW 3 (c := .cs [.nilS, .nilS]) (c' := .cs [.d (.sl (its.map fun x => D.str x.asn)), .nilS]) rfl rfl ?_ a w h))
    intro j y y' hy hy' w F σ v hv
    match j with
    | 0 => cases hy; cases hy'; rw [hq]; exact rdx_nil hv
    | 1 => cases hy; cases hy'; exact hv
    | j + 2 => cases hy
   | cons a0 q0 =>
    refine fun a w h => (zle 5) a w (Le.objW 3 (c := .cs [.d (.sl (a0 :: q0)), .nilS]) (c' := .cs [.d (.sl (its.map fun x => D.str x.asn)), .nilS]) rfl rfl ?_ a w (frz_le 4 rfl a w h))
    intro j y y' hy hy' w F σ v hv
    match j with
    | 0 => cases hy; cases hy'; rw [hq]; exact hv
    | 1 => cases hy; cases hy'; exact hv
    | j + 2 => cases hy
  ·clear hq hll
   rw [hcols]
   clear hcols
   repeat' (refine yz ?_)
   refine go_loop_ (α := Fin (t.rows.length + 1)) (fun p => ⟨[(1, .d (.sl (its.map encIm))), (3, .ptr 0 0), (5, .ptr 1 0), (6, .ptr 2 0), (7, .ptr 3 0), (8, .d (.int (nKy its))), (11, rowK 4 (((t.rows.take p.val).map (memF g its t.cols)).map encM)), (39, .d (.sl (Val.encR t.rows))), (40, .d (.int (Val.encR t.rows).length)), (41, .d (.int p.val))], [.var 41 (.w (.d (encGr g))), .var 45 (.w (.d (encTb t))), zTb, .var 45 (.cs [.d (.sl (its.map fun x => D.str x.asn)), .nilS]), aO (((t.rows.take p.val).map (memF g its t.cols)).map encM)]⟩) (fun p => t.rows.length - p.val) ⟨0, by omega⟩ (zle 5) ?_
   rintro ⟨i, hi⟩
   dsimp only
   rcases Nat.lt_or_ge i t.rows.length with hlt | hge
   ·have g1 : decide ((i : Int) < ((Val.encR t.rows).length : Int)) = true := by rw [hlr]; simpa using hlt
    have hx0 := List.getElem?_eq_getElem hlt
    generalize t.rows[i] = r at hx0
    have hx : (Val.encR t.rows)[(i : Int).toNat]? = some (encRw r) := encR_get (by rw [Int.toNat_natCast]; exact hx0)
    have qe := env_ev t.cols r (by omega)
    have hE := fun x hx => (hev x hx r (List.mem_of_getElem? hx0)).1
    have happ : ((t.rows.take i).map (memF g its t.cols)).map encM ++ [D.agg [.sl (encL (keyF g its (envA t.cols r))), .sl ((envA t.cols r).map encBd)]] = ((t.rows.take (i + 1)).map (memF g its t.cols)).map encM := by
     rw [take_app hx0, List.map_append, List.map_append]
     rfl
    have hll : (((t.rows.take i).map (memF g its t.cols)).map encM).length ≤ i := by simp; omega
    generalize ((t.rows.take i).map (memF g its t.cols)).map encM = eo at *
    generalize envA t.cols r = ev at *
    match eo, hll with
    | [], hll =>
     dsimp only [rowK, aO]
     repeat' (first | refine go_buildN rfl rfl rfl rfl rfl rfl rfl rfl rfl ?_ | refine yz ?_ | refine yi (encRw r) hx ?_ | refine yp b65 qe ?_)
     refine go_loop_ (α := Fin (its.length + 1)) (fun p => ⟨[(1, .d (.sl (its.map encIm))), (3, .ptr 0 0), (5, .ptr 1 0), (6, .ptr 2 0), (7, .ptr 3 0), (8, .d (.int (nKy its))), (11, .nilS), (14, .ptr 5 0), (39, .d (.sl (Val.encR t.rows))), (40, .d (.int (Val.encR t.rows).length)), (41, .d (.int i)), (50, .d (.sl (its.map encIm))), (51, .d (.int (its.map encIm).length)), (52, .d (.int p.val))], [.var 41 (.w (.d (encGr g))), .var 45 (.w (.d (encTb t))), zTb, .var 45 (.cs [.d (.sl (its.map fun x => D.str x.asn)), .nilS]), .dead, .var 84 (mV (encL (keyF g (its.take p.val) ev)) ev)] ++ rowO 35 5 (encL (keyF g (its.take p.val) ev))⟩) (fun p => its.length - p.val) ⟨0, by omega⟩ (zle 6) ?_
     rintro ⟨j, hj⟩
     dsimp only
     rcases Nat.lt_or_ge j its.length with hjlt | hjge
     ·have g2 : decide ((j : Int) < ((its.map encIm).length : Int)) = true := by rw [hle]; simpa using hjlt
      have hy0 := List.getElem?_eq_getElem hjlt
      generalize its[j] = x at hy0
      have hy : (its.map encIm)[(j : Int).toNat]? = some (encIm x) := map_at hy0
      have hka := keyF_app g ev hy0
      have hkl : (encL (keyF g (its.take j) ev)).length ≤ j := by
       rw [encL_len, keyF_len]
       exact Nat.le_trans (List.length_filter_le _ _) (by simp; omega)
      cases hky : isKy x with
      | false =>
       have g3 : (x.e.op != 24) = false := hky
       rw [hky, cond_false, List.append_nil] at hka
       have e2 : encL (keyF g (its.take (j + 1)) ev) = encL (keyF g (its.take j) ev) := by rw [hka]
       generalize encL (keyF g (its.take j) ev) = ko at *
       match ko, hkl with
       | [], hkl =>
        dsimp only [mV, rowO, List.append]
        repeat' (first | refine yz ?_ | refine yi (encIm x) hy ?_)
        refine go_stop ?_
        refine ⟨⟨j + 1, by omega⟩, by dsimp only; omega, ?_⟩
        dsimp only
        rw [e2]
        exact (zle 6)
       | b :: s, hkl =>
        dsimp only [mV, rowO, List.append]
        repeat' (first | refine yz ?_ | refine yi (encIm x) hy ?_)
        refine go_stop ?_
        refine ⟨⟨j + 1, by omega⟩, by dsimp only; omega, ?_⟩
        dsimp only
        rw [e2]
        exact (zle 7)
      | true =>
       have g3 : (x.e.op != 24) = true := hky
       have qv := Eval_ev g ev x.e (hE x (List.mem_of_getElem? hy0))
       rw [hky, cond_true] at hka
       have hap2 : encL (keyF g (its.take (j + 1)) ev) = encL (keyF g (its.take j) ev) ++ [enc (valF g ev x.e)] := by rw [hka, encL_app]
       generalize encL (keyF g (its.take j) ev) = ko at *
       match ko, hkl with
       | [], hkl =>
        dsimp only [mV, rowO, List.append]
        repeat' (first | refine yq 19 [9,11] ?_ | refine yf 19 0 9 ?_ | refine yf 19 10 1 ?_ | refine yw ?_ | refine rgN ?_ | refine yz ?_ | refine yi (encIm x) hy ?_ | refine go_load0 rfl rfl rfl rfl rfl rfl rfl ?_ | refine yp b66 qv ?_ | refine rgS (id := 19) (i := 9) rfl rfl rfl rfl (⟨by simp, fun d hd => by (obtain rfl := List.mem_singleton.1 hd; rfl), by (show (0 + 1) * 64 ≤ 140737488355328; omega), by (show 0 + 1 ≤ 9223372036854775807; omega)⟩) (by repeat (first | exact trivial | refine ⟨⟨rfl, rfl⟩, ?_⟩ | refine ⟨trivial, ?_⟩)) ?_)
        refine go_stop ?_
        refine ⟨⟨j + 1, by omega⟩, by dsimp only; omega, ?_⟩
        dsimp only
        rw [hap2]
        exact (zren [0, 1, 2, 3, 4, 5, 7])
       | b :: s, hkl =>
        dsimp only [mV, rowO, List.append]
        repeat' (first | refine yq 19 [9,11] ?_ | refine yf 19 0 9 ?_ | refine yf 19 10 1 ?_ | refine yw ?_ | refine rgN ?_ | refine yz ?_ | refine yi (encIm x) hy ?_ | refine go_load0 rfl rfl rfl rfl rfl rfl rfl ?_ | refine yp b66 qv ?_ | refine rgS (id := 19) (i := 9) rfl rfl rfl rfl (⟨by simp, fun d hd => by (obtain rfl := List.mem_singleton.1 hd; rfl), by (show ((b :: s).length + 1) * 64 ≤ 140737488355328; omega), by (show (b :: s).length + 1 ≤ 9223372036854775807; omega)⟩) (by repeat (first | exact trivial | refine ⟨⟨rfl, rfl⟩, ?_⟩ | refine ⟨trivial, ?_⟩)) ?_)
        refine go_stop ?_
        refine ⟨⟨j + 1, by omega⟩, by dsimp only; omega, ?_⟩
        dsimp only
        rw [hap2]
        exact (zren [0, 1, 2, 3, 4, 5, 8])
     ·have g2 : decide ((j : Int) < ((its.map encIm).length : Int)) = false := by rw [hle]; simp; omega
      rw [List.take_of_length_le hjge]
      generalize encL (keyF g its ev) = ko at *
      match ko with
      | [] =>
       dsimp only [mV, rowO, List.append]
       refine go_weaken (Le.objW 5 (c' := .w (.d (.agg [.sl [], .sl (ev.map encBd)]))) rfl rfl ?_) ?_
       ·intro j y y' hy hy' w F σ v hv
        match j with
        | 0 => cases hy; cases hy'; exact rd_nil hv
        | 1 => cases hy; cases hy'; exact hv
        | j + 2 => cases hy
       repeat' (first | refine yz ?_ | (refine qS rfl ⟨by simp, fun d hd => by (obtain rfl := List.mem_singleton.1 hd; rfl), by (show (0 + 1) * 48 ≤ 140737488355328; omega), by (show 0 + 1 ≤ 9223372036854775807; omega)⟩ ?_))
       refine go_stop ?_
       refine ⟨⟨i + 1, by omega⟩, by dsimp only; omega, ?_⟩
       dsimp only
       rw [← happ]
       exact (zren [0, 1, 2, 3, 6])
      | b :: s =>
       dsimp only [mV, rowO, List.append]
       refine go_frz 6 rfl ?_
       repeat' (first | refine yz ?_ | (refine qS rfl ⟨by simp, fun d hd => by (obtain rfl := List.mem_singleton.1 hd; rfl), by (show (0 + 1) * 48 ≤ 140737488355328; omega), by (show 0 + 1 ≤ 9223372036854775807; omega)⟩ ?_))
       refine go_stop ?_
       refine ⟨⟨i + 1, by omega⟩, by dsimp only; omega, ?_⟩
       dsimp only
       rw [← happ]
       exact (zren [0, 1, 2, 3, 7])
    | a :: q, hll =>
     dsimp only [rowK, aO]
     repeat' (first | refine go_buildN rfl rfl rfl rfl rfl rfl rfl rfl rfl ?_ | refine yz ?_ | refine yi (encRw r) hx ?_ | refine yp b65 qe ?_)
     refine go_loop_ (α := Fin (its.length + 1)) (fun p => ⟨[(1, .d (.sl (its.map encIm))), (3, .ptr 0 0), (5, .ptr 1 0), (6, .ptr 2 0), (7, .ptr 3 0), (8, .d (.int (nKy its))), (11, .own 4), (14, .ptr 5 0), (39, .d (.sl (Val.encR t.rows))), (40, .d (.int (Val.encR t.rows).length)), (41, .d (.int i)), (50, .d (.sl (its.map encIm))), (51, .d (.int (its.map encIm).length)), (52, .d (.int p.val))], [.var 41 (.w (.d (encGr g))), .var 45 (.w (.d (encTb t))), zTb, .var 45 (.cs [.d (.sl (its.map fun x => D.str x.asn)), .nilS]), .row 84 2 (a :: q), .var 84 (mV (encL (keyF g (its.take p.val) ev)) ev)] ++ rowO 35 5 (encL (keyF g (its.take p.val) ev))⟩) (fun p => its.length - p.val) ⟨0, by omega⟩ (zle 6) ?_
     rintro ⟨j, hj⟩
     dsimp only
     rcases Nat.lt_or_ge j its.length with hjlt | hjge
     ·have g2 : decide ((j : Int) < ((its.map encIm).length : Int)) = true := by rw [hle]; simpa using hjlt
      have hy0 := List.getElem?_eq_getElem hjlt
      generalize its[j] = x at hy0
      have hy : (its.map encIm)[(j : Int).toNat]? = some (encIm x) := map_at hy0
      have hka := keyF_app g ev hy0
      have hkl : (encL (keyF g (its.take j) ev)).length ≤ j := by
       rw [encL_len, keyF_len]
       exact Nat.le_trans (List.length_filter_le _ _) (by simp; omega)
      cases hky : isKy x with
      | false =>
       have g3 : (x.e.op != 24) = false := hky
       rw [hky, cond_false, List.append_nil] at hka
       have e2 : encL (keyF g (its.take (j + 1)) ev) = encL (keyF g (its.take j) ev) := by rw [hka]
       generalize encL (keyF g (its.take j) ev) = ko at *
       match ko, hkl with
       | [], hkl =>
        dsimp only [mV, rowO, List.append]
        repeat' (first | refine yz ?_ | refine yi (encIm x) hy ?_)
        refine go_stop ?_
        refine ⟨⟨j + 1, by omega⟩, by dsimp only; omega, ?_⟩
        dsimp only
        rw [e2]
        exact (zle 6)
       | b :: s, hkl =>
        dsimp only [mV, rowO, List.append]
        repeat' (first | refine yz ?_ | refine yi (encIm x) hy ?_)
        refine go_stop ?_
        refine ⟨⟨j + 1, by omega⟩, by dsimp only; omega, ?_⟩
        dsimp only
        rw [e2]
        exact (zle 7)
      | true =>
       have g3 : (x.e.op != 24) = true := hky
       have qv := Eval_ev g ev x.e (hE x (List.mem_of_getElem? hy0))
       rw [hky, cond_true] at hka
       have hap2 : encL (keyF g (its.take (j + 1)) ev) = encL (keyF g (its.take j) ev) ++ [enc (valF g ev x.e)] := by rw [hka, encL_app]
       generalize encL (keyF g (its.take j) ev) = ko at *
       match ko, hkl with
       | [], hkl =>
        dsimp only [mV, rowO, List.append]
        repeat' (first | refine yq 19 [9,11] ?_ | refine yf 19 0 9 ?_ | refine yf 19 10 1 ?_ | refine yw ?_ | refine rgN ?_ | refine yz ?_ | refine yi (encIm x) hy ?_ | refine go_load0 rfl rfl rfl rfl rfl rfl rfl ?_ | refine yp b66 qv ?_ | refine rgS (id := 19) (i := 9) rfl rfl rfl rfl (⟨by simp, fun d hd => by (obtain rfl := List.mem_singleton.1 hd; rfl), by (show (0 + 1) * 64 ≤ 140737488355328; omega), by (show 0 + 1 ≤ 9223372036854775807; omega)⟩) (by repeat (first | exact trivial | refine ⟨⟨rfl, rfl⟩, ?_⟩ | refine ⟨trivial, ?_⟩)) ?_)
        refine go_stop ?_
        refine ⟨⟨j + 1, by omega⟩, by dsimp only; omega, ?_⟩
        dsimp only
        rw [hap2]
        exact (zren [0, 1, 2, 3, 4, 5, 7])
       | b :: s, hkl =>
        dsimp only [mV, rowO, List.append]
        repeat' (first | refine yq 19 [9,11] ?_ | refine yf 19 0 9 ?_ | refine yf 19 10 1 ?_ | refine yw ?_ | refine rgN ?_ | refine yz ?_ | refine yi (encIm x) hy ?_ | refine go_load0 rfl rfl rfl rfl rfl rfl rfl ?_ | refine yp b66 qv ?_ | refine rgS (id := 19) (i := 9) rfl rfl rfl rfl (⟨by simp, fun d hd => by (obtain rfl := List.mem_singleton.1 hd; rfl), by (show ((b :: s).length + 1) * 64 ≤ 140737488355328; omega), by (show (b :: s).length + 1 ≤ 9223372036854775807; omega)⟩) (by repeat (first | exact trivial | refine ⟨⟨rfl, rfl⟩, ?_⟩ | refine ⟨trivial, ?_⟩)) ?_)
        refine go_stop ?_
        refine ⟨⟨j + 1, by omega⟩, by dsimp only; omega, ?_⟩
        dsimp only
        rw [hap2]
        exact (zren [0, 1, 2, 3, 4, 5, 8])
     ·have g2 : decide ((j : Int) < ((its.map encIm).length : Int)) = false := by rw [hle]; simp; omega
      rw [List.take_of_length_le hjge]
      generalize encL (keyF g its ev) = ko at *
      match ko with
      | [] =>
       dsimp only [mV, rowO, List.append]
       refine go_weaken (Le.objW 5 (c' := .w (.d (.agg [.sl [], .sl (ev.map encBd)]))) rfl rfl ?_) ?_
       ·intro j y y' hy hy' w F σ v hv
        match j with
        | 0 => cases hy; cases hy'; exact rd_nil hv
        | 1 => cases hy; cases hy'; exact hv
        | j + 2 => cases hy
       repeat' (first | refine yz ?_ | (refine qS rfl ⟨by simp, fun d hd => by (obtain rfl := List.mem_singleton.1 hd; rfl), by (show ((a :: q).length + 1) * 48 ≤ 140737488355328; omega), by (show (a :: q).length + 1 ≤ 9223372036854775807; omega)⟩ ?_))
       refine go_stop ?_
       refine ⟨⟨i + 1, by omega⟩, by dsimp only; omega, ?_⟩
       dsimp only
       rw [← happ]
       exact (zren [0, 1, 2, 3, 6])
      | b :: s =>
       dsimp only [mV, rowO, List.append]
       refine go_frz 6 rfl ?_
       repeat' (first | refine yz ?_ | (refine qS rfl ⟨by simp, fun d hd => by (obtain rfl := List.mem_singleton.1 hd; rfl), by (show ((a :: q).length + 1) * 48 ≤ 140737488355328; omega), by (show (a :: q).length + 1 ≤ 9223372036854775807; omega)⟩ ?_))
       refine go_stop ?_
       refine ⟨⟨i + 1, by omega⟩, by dsimp only; omega, ?_⟩
       dsimp only
       rw [← happ]
       exact (zren [0, 1, 2, 3, 7])
   ·have g1 : decide ((i : Int) < ((Val.encR t.rows).length : Int)) = false := by rw [hlr]; simp; omega
    rw [List.take_of_length_le hge]
    have hal : (t.rows.map (memF g its t.cols)).length ≤ 1000 := by simp; omega
    have hA : ∀ grp : List Mm, (∀ m ∈ grp, m ∈ t.rows.map (memF g its t.cols)) → grp.length ≤ 1000 → ∀ x ∈ its, isKy x = false → Ev E 109 [encGr g, encE x.e, .sl (grp.map encM)] (.d (enc (apG g (grp.map (·.env)) x.e))) := fun grp hsub hlen x hx _ =>
     apply_ev g x.e grp (by omega) (fun y hy m hm => by
      obtain ⟨r, hr, rfl⟩ := List.mem_map.1 (hsub m hm)
      exact (hev x hx r hr).2 y hy)
    have hkeys : ∀ m ∈ t.rows.map (memF g its t.cols), nKy its ≤ m.key.length := fun m hm => by
     obtain ⟨r, hr, rfl⟩ := List.mem_map.1 hm
     exact Nat.le_of_eq (keyF_len _ _ _).symm
    generalize t.rows.map (memF g its t.cols) = all at *
    cases h0 : nKy its == 0 with
    | true =>
     have h00 : nKy its = 0 := by simpa using h0
     have g2 : ((nKy its : Int) == 0) = true := by rw [beq_iff_eq]; omega
     have qr := row_ev g its all (apG g (all.map (·.env))) [] (by omega) (hA all (fun m h => h) hal) (by omega) (.inl h00)
     have eR : tabR g its all = [rowG (apG g (all.map (·.env))) [] its 0] := by unfold tabR; rw [h0]; rfl
     rw [eR]
     generalize all.map encM = eo at *
     match eo with
     | [] =>
      dsimp only [rowK, aO]
      repeat' (first | refine yz ?_ | refine yp b67 qr ?_ | exact zD)
     | a :: q =>
      dsimp only [rowK, aO]
      refine go_frz 4 rfl ?_
      repeat' (first | refine yz ?_ | refine yp b67 qr ?_ | exact zD)
    | false =>
     have g2 : ((nKy its : Int) == 0) = false := by rw [beq_eq_false_iff_ne]; rw [beq_eq_false_iff_ne] at h0; omega
     have eR : tabR g its all = stS (cmpL ordF) ((runF (stS memC all).length (stS memC all)).map (groF g its)) := by unfold tabR; rw [h0]; rfl
     rw [eR] at hnar ⊢
     have q5 := StableM_evS 69 b69 memC (fun x y => tcmp_ev x y) all (by omega)
     obtain ⟨rS, -⟩ := stS_ok memC3 all
     have hSm : ∀ m ∈ stS memC all, m ∈ all := fun m hm => rS.per.subset hm
     have hSl : (stS memC all).length ≤ 1000 := by rw [rS.len]; exact hal
     obtain ⟨S, hS⟩ : ∃ S, stS memC all = S := ⟨_, rfl⟩
     rw [hS] at hnar hSm hSl q5 ⊢
     have hq5 := StableM0_ev 69
     have hQl : ((runF S.length S).map (groF g its)).length ≤ 2000000 := by rw [List.length_map]; exact Nat.le_trans (runF_len _ _) (by omega)
     have hQn : ∀ r ∈ (runF S.length S).map (groF g its), nar (vList r) = true := fun r hr => hnar r ((stS_ok rowC _).1.per.symm.subset hr)
     have qs := SortRows_ev ((runF S.length S).map (groF g its)) hQn hQl
     cases all
     case' nil =>
      have eS : S = [] := by rw [← hS]; exact List.length_eq_zero_iff.1 rS.len
      dsimp only [rowK, aO, List.map_nil]
      repeat' (first | refine yz ?_ | refine yc [] b68 (hq5) ?_)
      refine go_nilD 11 rfl ?_
      refine go_weaken (Le.slotD 11 (d' := .sl (S.map encM)) rfl (fun w F v hv => by rw [eS]; exact hv)) ?_
     case' cons m0 al =>
      have e1 : rowK 4 ((m0 :: al).map encM) = .own 4 := rfl
      have e2 : aO ((m0 :: al).map encM) = .row 84 2 ((m0 :: al).map encM) := rfl
      rw [e1, e2]
      repeat' (first | refine yz ?_ | refine yc [4] b68 (q5) ?_)
      refine go_frz 4 rfl ?_
     all_goals
      refine go_loop_ (α := RnT g its S) (fun p => ⟨[(1, .d (.sl (its.map encIm))), (3, .ptr 0 0), (6, .ptr 2 0), (7, .ptr 3 0), (11, .d (.sl (p.rest.map encM)))], [.var 41 (.w (.d (encGr g))), .var 45 (.w (.d (encTb t))), zTb, .var 45 (.cs [.d (.sl (its.map fun x => D.str x.asn)), rowK 4 (p.dn.map encRw)])] ++ rowO 23 1 (p.dn.map encRw)⟩) (fun p => p.rest.length) ⟨S, [], S.length, Nat.le_refl _, by simp, fun m h => h, hSl⟩ (zle 4) ?_
      rintro ⟨rest, dn, f, hf, hrun, hsub, hlen⟩
      dsimp only
      cases rest with
      | nil =>
       have g3 : decide ((([] : List Mm).map encM).length > (0 : Int)) = false := rfl
       have hd : (runF S.length S).map (groF g its) = dn := by
        rw [hrun]
        cases f <;> simp [runF]
       rw [hd] at qs ⊢
       rw [encR_eq dn] at qs
       generalize dn.map encRw = eo at *
       match eo with
       | [] =>
        dsimp only [rowK, rowO, List.append]
        repeat' (first | refine yz ?_ | refine yp b12 qs ?_ | exact zD)
       | a :: q =>
        dsimp only [rowK, rowO, List.append]
        refine go_frz 4 rfl ?_
        repeat' (first | refine yz ?_ | refine yp b12 qs ?_ | exact zD)
      | cons m r =>
       have hlm : ((m :: r).map encM).length = r.length + 1 := by simp
       have hrl : r.length + 1 ≤ 1000 := by simpa using hlen
       have g3 := yT ((((m :: r).map encM).length : Int) > 0) (by omega)
       obtain ⟨tw, htw⟩ : ∃ tw, (r.takeWhile fun x => memC m x == 0) = tw := ⟨_, rfl⟩
       obtain ⟨dw, hdw⟩ : ∃ dw, (r.dropWhile fun x => memC m x == 0) = dw := ⟨_, rfl⟩
       have hr : r = tw ++ dw := by rw [← htw, ← hdw]; exact (List.takeWhile_append_dropWhile).symm
       have htwp : ∀ x ∈ tw, (memC m x == 0) = true := fun x hx => tw_mem (p := fun x => memC m x == 0) (l := r) (by rw [htw]; exact hx)
       have hdwp : ∀ x q, dw = x :: q → (memC m x == 0) = false := fun x q e => dw_head (p := fun x => memC m x == 0) (l := r) (by rw [hdw]; exact e)
       have hb1 : tw.length ≤ r.length := by rw [hr]; simp
       clear htw hdw
       cases f with
       | zero => simp at hf
       | succ f =>
       have hrun2 : (runF S.length S).map (groF g its) = (dn ++ [groF g its (m :: tw)]) ++ (runF f dw).map (groF g its) := by
        rw [hrun, run_step m tw dw f htwp hdwp hr]
        simp
       have qr := row_ev g its (m :: tw) (apG g ((m :: tw).map (·.env))) m.key (by omega) (hA (m :: tw) (fun x hx => hSm x (hsub x (by rw [hr]; rcases List.mem_cons.1 hx with e | e; rw [e]; simp; exact List.mem_cons_of_mem _ (List.mem_append_left _ e)))) (by simp; omega)) (hkeys m (hSm m (hsub m (by simp)))) (.inr ⟨m, tw, rfl, rfl⟩)
       have etake : ((m :: r).map encM).take (((tw.length + 1 : Nat) : Int)).toNat = (m :: tw).map encM := by
        rw [Int.toNat_natCast, ← List.map_take, hr, List.take_succ_cons, List.take_left']
        rfl
       have edrop : ((m :: r).map encM).drop (((tw.length + 1 : Nat) : Int)).toNat = dw.map encM := by
        rw [Int.toNat_natCast, ← List.map_drop, hr, List.drop_succ_cons, List.drop_left']
        rfl
       rw [← etake] at qr
       have qr' : Ev E 67 [encGr g, .sl (its.map encIm), .sl (((m :: r).map encM).take (((tw.length + 1 : Nat) : Int)).toNat)] (.d (encRw (groF g its (m :: tw)))) := qr
       have hcells : ∀ d ∈ (m :: r).map encM, d.cells.length = 2 := fun d hd => by
        obtain ⟨x, -, rfl⟩ := List.mem_map.1 hd
        rfl
       have happ : dn.map encRw ++ [encRw (groF g its (m :: tw))] = (dn ++ [groF g its (m :: tw)]).map encRw := by simp
       have hdl : (dn.map encRw).length ≤ 1000000 := by rw [List.length_map]; exact run_dn hrun hSl
       have hsub2 : ∀ x ∈ dw, x ∈ S := fun x hx => hsub x (by rw [hr]; exact List.mem_cons_of_mem _ (List.mem_append_right _ hx))
       have hl2 : dw.length ≤ 1000 := by
        have : r.length = tw.length + dw.length := by rw [hr]; simp
        omega
       have hf2 : dw.length ≤ f := by
        have : r.length = tw.length + dw.length := by rw [hr]; simp
        simp only [List.length_cons] at hf
        omega
       have hx1 : ((m :: r).map encM)[(0 : Int).toNat]? = some (encM m) := rfl
       clear qr
       generalize dn.map encRw = eo at *
       match eo, hdl with
       | [], hdl =>
        dsimp only [rowK, rowO, List.append]
        repeat' (refine yz ?_)
        refine go_loop_ (α := Fin (tw.length + 1)) (fun p => ⟨[(1, .d (.sl (its.map encIm))), (3, .ptr 0 0), (6, .ptr 2 0), (7, .ptr 3 0), (11, .d (.sl ((m :: r).map encM))), (17, .d (.int ((p.val + 1 : Nat) : Int)))], [.var 41 (.w (.d (encGr g))), .var 45 (.w (.d (encTb t))), zTb, .var 45 (.cs [.d (.sl (its.map fun x => D.str x.asn)), .nilS])]⟩) (fun p => tw.length - p.val) ⟨0, by omega⟩ (zle 4) ?_
        rintro ⟨k, hk⟩
        dsimp only
        rcases Nat.lt_or_ge k tw.length with hklt | hkge
        ·have g4 := yT (((k + 1 : Nat) : Int) < (((m :: r).map encM).length : Int)) (by omega)
         have hx0 := List.getElem?_eq_getElem hklt
         have hp := htwp _ (List.getElem_mem hklt)
         generalize tw[k] = x at hx0 hp
         have hx2 : ((m :: r).map encM)[((k + 1 : Nat) : Int).toNat]? = some (encM x) := by
          rw [Int.toNat_natCast, List.getElem?_map, List.getElem?_cons_succ, hr, List.getElem?_append_left hklt, hx0]
          rfl
         have qo := OrderRows_ev m.key x.key
         have hp2 : (cmpL ordF m.key x.key == 0) = true := hp
         repeat' (first | refine yz ?_ | refine yi (encM m) hx1 ?_ | refine yi (encM x) hx2 ?_ | refine yp b13 qo ?_ | refine yx ?_)
         refine go_stop ?_
         exact ⟨⟨k + 1, by omega⟩, by dsimp only; omega, (zle 4)⟩
        ·have hkk : k = tw.length := by omega
         subst hkk
         cases dw with
         | nil =>
          have hrr : r.length = tw.length := by rw [hr]; simp
          have g4 := yF (((tw.length + 1 : Nat) : Int) < (((m :: r).map encM).length : Int)) (by omega)
          repeat' (first | (refine qS rfl ⟨⟨by omega, by omega⟩, _, rfl, hcells⟩ ?_) | refine yq 31 [9,11] ?_ | refine yf 31 0 9 ?_ | refine yf 31 10 1 ?_ | refine yw ?_ | refine rgN ?_ | refine yz ?_ | refine yp b67 qr' ?_ | refine rgS (id := 31) (i := 9) rfl rfl rfl rfl (⟨by simp, fun d hd => by (obtain rfl := List.mem_singleton.1 hd; rfl), by (show (0 + 1) * 24 ≤ 140737488355328; omega), by (show 0 + 1 ≤ 9223372036854775807; omega)⟩) (by repeat (first | exact trivial | refine ⟨⟨rfl, rfl⟩, ?_⟩ | refine ⟨trivial, ?_⟩)) ?_ | refine yx ?_)
          refine go_stop ?_
          refine ⟨⟨[], dn ++ [groF g its (m :: tw)], f, hf2, hrun2, hsub2, hl2⟩, by dsimp only; simp only [List.length_cons, List.length_nil]; omega, ?_⟩
          dsimp only
          rw [edrop, ← happ]
          exact (zren [0, 1, 2, 3, 4])
         | cons x q9 =>
          have hrr : r.length = tw.length + (q9.length + 1) := by rw [hr]; simp
          have g4 := yT (((tw.length + 1 : Nat) : Int) < (((m :: r).map encM).length : Int)) (by omega)
          have hx2 : ((m :: r).map encM)[((tw.length + 1 : Nat) : Int).toNat]? = some (encM x) := by
           rw [Int.toNat_natCast, List.getElem?_map, List.getElem?_cons_succ, hr, List.getElem?_append_right (Nat.le_refl _)]
           simp
          have qo := OrderRows_ev m.key x.key
          have hp2 : (cmpL ordF m.key x.key == 0) = false := hdwp x q9 rfl
          repeat' (first | (refine qS rfl ⟨⟨by omega, by omega⟩, _, rfl, hcells⟩ ?_) | refine yq 31 [9,11] ?_ | refine yf 31 0 9 ?_ | refine yf 31 10 1 ?_ | refine yw ?_ | refine rgN ?_ | refine yz ?_ | refine yi (encM m) hx1 ?_ | refine yi (encM x) hx2 ?_ | refine yp b13 qo ?_ | refine yp b67 qr' ?_ | refine rgS (id := 31) (i := 9) rfl rfl rfl rfl (⟨by simp, fun d hd => by (obtain rfl := List.mem_singleton.1 hd; rfl), by (show (0 + 1) * 24 ≤ 140737488355328; omega), by (show 0 + 1 ≤ 9223372036854775807; omega)⟩) (by repeat (first | exact trivial | refine ⟨⟨rfl, rfl⟩, ?_⟩ | refine ⟨trivial, ?_⟩)) ?_ | refine yx ?_)
          refine go_stop ?_
          refine ⟨⟨(x :: q9), dn ++ [groF g its (m :: tw)], f, hf2, hrun2, hsub2, hl2⟩, by dsimp only; simp only [List.length_cons, List.length_nil]; omega, ?_⟩
          dsimp only
          rw [edrop, ← happ]
          exact (zren [0, 1, 2, 3, 4])
       | a :: q, hdl =>
        dsimp only [rowK, rowO, List.append]
        repeat' (refine yz ?_)
        refine go_loop_ (α := Fin (tw.length + 1)) (fun p => ⟨[(1, .d (.sl (its.map encIm))), (3, .ptr 0 0), (6, .ptr 2 0), (7, .ptr 3 0), (11, .d (.sl ((m :: r).map encM))), (17, .d (.int ((p.val + 1 : Nat) : Int)))], [.var 41 (.w (.d (encGr g))), .var 45 (.w (.d (encTb t))), zTb, .var 45 (.cs [.d (.sl (its.map fun x => D.str x.asn)), .own 4]), .row 23 1 (a :: q)]⟩) (fun p => tw.length - p.val) ⟨0, by omega⟩ (zle 5) ?_
        rintro ⟨k, hk⟩
        dsimp only
        rcases Nat.lt_or_ge k tw.length with hklt | hkge
        ·have g4 := yT (((k + 1 : Nat) : Int) < (((m :: r).map encM).length : Int)) (by omega)
         have hx0 := List.getElem?_eq_getElem hklt
         have hp := htwp _ (List.getElem_mem hklt)
         generalize tw[k] = x at hx0 hp
         have hx2 : ((m :: r).map encM)[((k + 1 : Nat) : Int).toNat]? = some (encM x) := by
          rw [Int.toNat_natCast, List.getElem?_map, List.getElem?_cons_succ, hr, List.getElem?_append_left hklt, hx0]
          rfl
         have qo := OrderRows_ev m.key x.key
         have hp2 : (cmpL ordF m.key x.key == 0) = true := hp
         repeat' (first | refine yz ?_ | refine yi (encM m) hx1 ?_ | refine yi (encM x) hx2 ?_ | refine yp b13 qo ?_ | refine yx ?_)
         refine go_stop ?_
         exact ⟨⟨k + 1, by omega⟩, by dsimp only; omega, (zle 5)⟩
        ·have hkk : k = tw.length := by omega
         subst hkk
         cases dw with
         | nil =>
          have hrr : r.length = tw.length := by rw [hr]; simp
          have g4 := yF (((tw.length + 1 : Nat) : Int) < (((m :: r).map encM).length : Int)) (by omega)
          repeat' (first | (refine qS rfl ⟨⟨by omega, by omega⟩, _, rfl, hcells⟩ ?_) | refine yq 31 [9,11] ?_ | refine yf 31 0 9 ?_ | refine yf 31 10 1 ?_ | refine yw ?_ | refine rgN ?_ | refine yz ?_ | refine yp b67 qr' ?_ | refine rgS (id := 31) (i := 9) rfl rfl rfl rfl (⟨by simp, fun d hd => by (obtain rfl := List.mem_singleton.1 hd; rfl), by (show ((a :: q).length + 1) * 24 ≤ 140737488355328; omega), by (show (a :: q).length + 1 ≤ 9223372036854775807; omega)⟩) (by repeat (first | exact trivial | refine ⟨⟨rfl, rfl⟩, ?_⟩ | refine ⟨trivial, ?_⟩)) ?_ | refine yx ?_)
          refine go_stop ?_
          refine ⟨⟨[], dn ++ [groF g its (m :: tw)], f, hf2, hrun2, hsub2, hl2⟩, by dsimp only; simp only [List.length_cons, List.length_nil]; omega, ?_⟩
          dsimp only
          rw [edrop, ← happ]
          exact (zren [0, 1, 2, 3, 5])
         | cons x q9 =>
          have hrr : r.length = tw.length + (q9.length + 1) := by rw [hr]; simp
          have g4 := yT (((tw.length + 1 : Nat) : Int) < (((m :: r).map encM).length : Int)) (by omega)
          have hx2 : ((m :: r).map encM)[((tw.length + 1 : Nat) : Int).toNat]? = some (encM x) := by
           rw [Int.toNat_natCast, List.getElem?_map, List.getElem?_cons_succ, hr, List.getElem?_append_right (Nat.le_refl _)]
           simp
          have qo := OrderRows_ev m.key x.key
          have hp2 : (cmpL ordF m.key x.key == 0) = false := hdwp x q9 rfl
          repeat' (first | (refine qS rfl ⟨⟨by omega, by omega⟩, _, rfl, hcells⟩ ?_) | refine yq 31 [9,11] ?_ | refine yf 31 0 9 ?_ | refine yf 31 10 1 ?_ | refine yw ?_ | refine rgN ?_ | refine yz ?_ | refine yi (encM m) hx1 ?_ | refine yi (encM x) hx2 ?_ | refine yp b13 qo ?_ | refine yp b67 qr' ?_ | refine rgS (id := 31) (i := 9) rfl rfl rfl rfl (⟨by simp, fun d hd => by (obtain rfl := List.mem_singleton.1 hd; rfl), by (show ((a :: q).length + 1) * 24 ≤ 140737488355328; omega), by (show (a :: q).length + 1 ≤ 9223372036854775807; omega)⟩) (by repeat (first | exact trivial | refine ⟨⟨rfl, rfl⟩, ?_⟩ | refine ⟨trivial, ?_⟩)) ?_ | refine yx ?_)
          refine go_stop ?_
          refine ⟨⟨(x :: q9), dn ++ [groF g its (m :: tw)], f, hf2, hrun2, hsub2, hl2⟩, by dsimp only; simp only [List.length_cons, List.length_nil]; omega, ?_⟩
          dsimp only
          rw [edrop, ← happ]
          exact (zren [0, 1, 2, 3, 5])
end Go.Proofs.YtjgmakalledclaaGreatDoor
namespace Go.Proofs.YtjgmakalledclaaGreatDoor
set_option maxRecDepth 4000
open Go Go.Abs Go.Val Go.RowKit Go.Proofs.Tryz
theorem nar_num (b : Bool) (n d : Int) : nar (numF b n d) = true := by
 unfold numF vRat
 cases b with
 | false => rfl
 | true => cases d == 1 <;> rfl
theorem nar_agF (name : ByteArray) (b : Bool) {l : List V} (h : ∀ x ∈ l, nar x = true) : nar (agF name b l) = true := by
 have hu : ∀ x ∈ pickF b l, nar x = true := fun x hx => h x (pick_mem hx)
 unfold agF
 generalize pickF b l = u at hu
 have hat : ∀ k, u.length ≠ 0 → nar (atS u k) = true ∨ u.length ≤ k := fun k _ => by
  rcases Nat.lt_or_ge k u.length with hk | hk
  ·exact .inl (hu _ (List.mem_of_getElem? (atS_get hk)))
  ·exact .inr hk
 unfold agU avgF
 cases name.toList == nmCount with
 | true => rfl
 | false =>
 cases name.toList == nmSum with
 | true => exact nar_num _ _ _
 | false =>
 cases name.toList == nmCollect with
 | true =>
  cases hv : Val.okV (vList u) with
  | true => exact okV_nar hv
  | false => rfl
 | false =>
 cases h0 : u.length == 0 with
 | true => rfl
 | false =>
 have h00 : u.length ≠ 0 := by simpa using h0
 cases name.toList == nmMin with
 | true => exact (hat 0 h00).resolve_right (by omega)
 | false =>
 cases name.toList == nmMax with
 | true => exact (hat (u.length - 1) h00).resolve_right (by omega)
 | false =>
 cases name.toList == nmAvg with
 | true => exact nar_num _ _ _
 | false => rfl
theorem nar_apG (g : Gr) (envs : List (List Bd)) (e : Ex) : nar (apG g envs e) = true := by
 unfold apG
 cases e.ks.length == 0 with
 | true =>
  cases e.nm.toList == nmCount with
  | true => rfl
  | false => exact nar_agF _ _ (fun x hx => by simp at hx)
 | false => exact nar_agF _ _ (fun x hx => by
   unfold argF at hx
   obtain ⟨v, -, rfl⟩ := List.mem_map.1 hx
   exact valF_nar _ _ _)
theorem nar_rowG {ap : Ex → V} {key : List V} (h1 : ∀ e, nar (ap e) = true) (h2 : ∀ v ∈ key, nar v = true) : ∀ (its : List Itm) (k : Nat), ∀ v ∈ rowG ap key its k, nar v = true
 | [], k, v, h => by simp [rowG] at h
 | x :: r, k, v, h => by
  simp only [rowG] at h
  cases hx : isKy x with
  | true =>
   rw [hx, cond_true] at h
   rcases List.mem_cons.1 h with e | e
   ·rw [e]
    rcases Nat.lt_or_ge k key.length with hk | hk
    ·exact h2 _ (List.mem_of_getElem? (atS_get hk))
    ·unfold atS
     rw [List.getD_eq_getElem?_getD, List.getElem?_eq_none hk]
     rfl
   ·exact nar_rowG h1 h2 r (k + 1) v e
  | false =>
   rw [hx, cond_false] at h
   rcases List.mem_cons.1 h with e | e
   ·rw [e]; exact h1 _
   ·exact nar_rowG h1 h2 r k v e
theorem nar_tabR (g : Gr) (its : List Itm) (cols : List ByteArray) (rows : List (List V)) (hi : its.length ≤ 1000) : ∀ r ∈ tabR g its (rows.map (memF g its cols)), nar (vList r) = true := by
 intro r hr
 have key : ∀ (ap : List (List Bd)) (k : List V), (∀ v ∈ k, nar v = true) → nar (vList (rowG (apG g ap) k its 0)) = true := fun ap k hk =>
  narU (nar_rowG (nar_apG g ap) hk its 0) (by rw [rowG_len]; omega)
 unfold tabR at hr
 cases h0 : nKy its == 0 with
 | true =>
  rw [h0, cond_true, List.mem_singleton] at hr
  rw [hr]
  exact key _ [] (fun v hv => by simp at hv)
 | false =>
  rw [h0, cond_false] at hr
  have hr2 := (stS_ok rowC _).1.per.subset hr
  obtain ⟨q, hq, rfl⟩ := List.mem_map.1 hr2
  obtain ⟨hne, hsub⟩ := runF_mem _ _ q hq
  cases q with
  | nil => exact absurd rfl hne
  | cons m tw =>
   refine key _ m.key (fun v hv => ?_)
   have hm := (stS_ok memC3 _).1.per.subset (hsub m (by simp))
   obtain ⟨r0, -, rfl⟩ := List.mem_map.1 hm
   unfold memF keyF at hv
   obtain ⟨x, -, rfl⟩ := List.mem_map.1 hv
   exact valF_nar _ _ _
theorem apG_perm (g : Gr) {a b : List (List Bd)} (h : a.Perm b) (e : Ex) : apG g a e = apG g b e := by
 unfold apG
 rw [h.length_eq]
 have hp : (presF (argF g e a)).Perm (presF (argF g e b)) := by
  unfold presF argF
  exact (h.map _).filter _
 rw [agF_of_perm hp]
theorem rowG_ap {ap ap' : Ex → V} (h : ∀ e, ap e = ap' e) (key : List V) : ∀ (its : List Itm) (k : Nat), rowG ap key its k = rowG ap' key its k
 | [], _ => rfl
 | x :: r, k => by
  simp only [rowG]
  rw [rowG_ap h key r (k + 1), rowG_ap h key r k, h]
theorem groF_perm (g : Gr) (its : List Itm) {q q' : List Mm} (h : q.Perm q') (hk : (q.headD default).key = (q'.headD default).key) : groF g its q = groF g its q' := by
 unfold groF
 rw [hk]
 exact rowG_ap (fun e => apG_perm g (h.map _) e) _ _ _
theorem tw_filter {m : Mm} : ∀ {l : List Mm}, l.Pairwise (fun x y => memC x y ≤ 0) → (∀ x ∈ l, memC m x ≤ 0) → (l.takeWhile (fun x => memC m x == 0) = l.filter fun x => memC m x == 0) ∧ l.dropWhile (fun x => memC m x == 0) = l.filter fun x => !(memC m x == 0)
 | [], _, _ => by simp
 | x :: r, h, hm => by
  rw [List.pairwise_cons] at h
  cases hx : memC m x == 0 with
  | true =>
   obtain ⟨a, b⟩ := tw_filter h.2 fun y hy => hm y (by simp [hy])
   rw [List.takeWhile_cons, List.dropWhile_cons, List.filter_cons, List.filter_cons, hx]
   simp [a, b]
  | false =>
   have hlt : memC m x < 0 := by
    have h1 := hm x (by simp)
    have h2 : memC m x ≠ 0 := by simpa using hx
    omega
   have hall : ∀ y ∈ r, (memC m y == 0) = false := fun y hy => by
    rw [beq_eq_false_iff_ne]
    intro h0
    have h1 := memC3.tr x y m (h.1 y hy) (by have := memC3.anti m y; omega)
    have h2 := memC3.anti m x
    omega
   rw [List.takeWhile_cons, List.dropWhile_cons, List.filter_cons, List.filter_cons, hx]
   have e1 : r.filter (fun x => memC m x == 0) = [] := List.filter_eq_nil_iff.2 fun y hy => by rw [hall y hy]; simp
   have e2 : r.filter (fun x => !(memC m x == 0)) = r := List.filter_eq_self.2 fun y hy => by rw [hall y hy]; rfl
   simp [e1, e2]
theorem memC_key {x y : Mm} (h : memC x y = 0) : x.key = y.key := rowZ _ _ h
theorem memC_congr {x y z : Mm} (h : x.key = y.key) : memC x z = memC y z := by unfold memC; rw [h]
theorem runs_perm (g : Gr) (its : List Itm) : ∀ (f f' : Nat) (S S' : List Mm), S.length ≤ f → S'.length ≤ f' → S.Perm S' → S.Pairwise (fun x y => memC x y ≤ 0) → S'.Pairwise (fun x y => memC x y ≤ 0) → (runF f S).map (groF g its) = (runF f' S').map (groF g its)
 | f, f', [], S', _, _, hp, _, _ => by
  rw [List.nil_perm.1 hp]
  cases f <;> cases f' <;> simp [runF]
 | 0, f', m :: r, S', hf, _, _, _, _ => by simp at hf
 | f + 1, f', m :: r, S', hf, hf', hp, hs, hs' => by
  cases S' with
  | nil => have := hp.length_eq; simp at this
  | cons m' r' =>
  cases f' with
  | zero => simp at hf'
  | succ f' =>
  have hmin : ∀ x ∈ m :: r, memC m x ≤ 0 := fun x hx => by
   rcases List.mem_cons.1 hx with e | e
   ·rw [e]; exact memC3.self m
   ·exact (List.pairwise_cons.1 hs).1 x e
  have hmin' : ∀ x ∈ m' :: r', memC m' x ≤ 0 := fun x hx => by
   rcases List.mem_cons.1 hx with e | e
   ·rw [e]; exact memC3.self m'
   ·exact (List.pairwise_cons.1 hs').1 x e
  have hmm : memC m m' = 0 := by
   have h1 := hmin m' (hp.symm.subset (by simp))
   have h2 := hmin' m (hp.subset (by simp))
   have := memC3.anti m m'
   omega
  have hkey := memC_key hmm
  have hfun : (fun x => memC m' x == 0) = fun x => memC m x == 0 := by funext x; rw [memC_congr hkey]
  obtain ⟨a1, a2⟩ := tw_filter (m := m) (List.pairwise_cons.1 hs).2 fun x hx => hmin x (by simp [hx])
  obtain ⟨b1, b2⟩ := tw_filter (m := m') (List.pairwise_cons.1 hs').2 fun x hx => hmin' x (by simp [hx])
  have hself : (memC m m == 0) = true := by
   have := memC3.anti m m
   rw [beq_iff_eq]; omega
  have hself' : (memC m m' == 0) = true := by rw [hmm]; rfl
  have hfil : ∀ p : Mm → Bool, ((m :: r).filter p).Perm ((m' :: r').filter p) := fun p => hp.filter p
  have g1 : (m :: r.takeWhile fun x => memC m x == 0).Perm (m' :: r'.takeWhile fun x => memC m' x == 0) := by
   rw [a1, b1, hfun]
   have := hfil fun x => memC m x == 0
   rw [List.filter_cons, List.filter_cons, hself, hself'] at this
   exact this
  have g2 : (r.dropWhile fun x => memC m x == 0).Perm (r'.dropWhile fun x => memC m' x == 0) := by
   rw [a2, b2]
   have := hfil fun x => !(memC m x == 0)
   rw [List.filter_cons, List.filter_cons, hself, hself'] at this
   have e : (fun x => !(memC m' x == 0)) = fun x => !(memC m x == 0) := by funext x; rw [memC_congr hkey]
   rw [e]
   exact this
  have l1 : (r.dropWhile fun x => memC m x == 0).length ≤ f := by
   have := (List.dropWhile_sublist (l := r) (fun x => memC m x == 0)).length_le
   simp at hf; omega
  have l2 : (r'.dropWhile fun x => memC m' x == 0).length ≤ f' := by
   have := (List.dropWhile_sublist (l := r') (fun x => memC m' x == 0)).length_le
   simp at hf'; omega
  have s1 : (r.dropWhile fun x => memC m x == 0).Pairwise fun x y => memC x y ≤ 0 := List.Pairwise.sublist (List.dropWhile_sublist _) (List.pairwise_cons.1 hs).2
  have s2 : (r'.dropWhile fun x => memC m' x == 0).Pairwise fun x y => memC x y ≤ 0 := List.Pairwise.sublist (List.dropWhile_sublist _) (List.pairwise_cons.1 hs').2
  have ih := runs_perm g its f f' _ _ l1 l2 g2 s1 s2
  simp only [runF, List.map_cons]
  rw [ih, groF_perm g its g1 hkey]
theorem tabR_perm (g : Gr) (its : List Itm) {a b : List Mm} (h : a.Perm b) : tabR g its a = tabR g its b := by
 unfold tabR
 cases nKy its == 0 with
 | true =>
  simp only [cond_true]
  rw [rowG_ap (fun e => apG_perm g (h.map _) e)]
 | false =>
  simp only [cond_false]
  obtain ⟨r1, s1⟩ := stS_ok memC3 a
  obtain ⟨r2, s2⟩ := stS_ok memC3 b
  rw [runs_perm g its _ _ _ _ (Nat.le_refl _) (Nat.le_refl _) (r1.per.trans (h.trans r2.per.symm)) (srt_pw (by rw [r1.len]; exact s1)) (srt_pw (by rw [r2.len]; exact s2))]
open Go.ChangeShapes Go.WideShapes
theorem ty_itm {x : D} (h : HasTy Tryz.prog 54 x) : ∃ p, x = encIm p := by
 obtain ⟨parts, rfl, hl, hp⟩ := HasTy.struct_inv underlying54 h
 match parts, hl with
 | [p0, p1], _ =>
  obtain ⟨e, rfl⟩ := ty_expr (hp 0 _ p0 rfl rfl)
  obtain ⟨s, rfl⟩ := HasTy.str_inv underlying9 (hp 1 _ p1 rfl rfl)
  exact ⟨⟨e, s⟩, rfl⟩
theorem ty_itms {x : D} (h : HasTy Tryz.prog 42 x) : ∃ l : List Itm, x = .sl (l.map encIm) := by
 obtain ⟨xs, rfl, hx⟩ := HasTy.sl_inv underlying42 h
 obtain ⟨l, rfl⟩ := map_all (f := encIm) fun y hy => ty_itm (hx y hy)
 exact ⟨l, rfl⟩
theorem ty_row1 {x : D} (h : HasTy Tryz.prog 23 x) : ∃ l, x = encRw l := by
 obtain ⟨xs, rfl, hx⟩ := HasTy.sl_inv underlying23 h
 obtain ⟨l, rfl⟩ := map_all (f := enc) fun y hy => ty_val (hx y hy)
 exact ⟨l, by unfold encRw; rw [encL_map]⟩
theorem ty_tb {x : D} (h : HasTy Tryz.prog 45 x) : ∃ p, x = encTb p := by
 obtain ⟨parts, rfl, hl, hp⟩ := HasTy.struct_inv underlying45 h
 match parts, hl with
 | [p0, p1], _ =>
  obtain ⟨c, rfl⟩ := ty_strs (hp 0 _ p0 rfl rfl)
  obtain ⟨xs, rfl, hx⟩ := HasTy.sl_inv underlying25 (hp 1 _ p1 rfl rfl)
  obtain ⟨l, rfl⟩ := map_all (f := encRw) fun y hy => ty_row1 (hx y hy)
  exact ⟨⟨c, l⟩, rfl⟩
def tysT : List TypeId := 42 :: 54 :: 23 :: 25 :: 45 :: tys2
theorem tysT_ok : closedB Tryz.prog tysT = true := by kernel_rfl
end Go.Proofs.YtjgmakalledclaaGreatDoor
