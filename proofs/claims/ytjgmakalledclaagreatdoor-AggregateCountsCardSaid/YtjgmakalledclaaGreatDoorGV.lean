/- The law AggregateSorts answers true; The counts of the groups: what a table of keys and one count gives; The law AggregateCounts answers true. Conditions: each part's own, as it says. -/
import Derived.Test.YtjgmakalledclaaGreatDoorGC
import Derived.Test.YtjgmakalledclaaGreatDoorGT
import Derived.Test.YtjgmakalledclaaGreatDoorSR
set_option linter.unusedVariables false
set_option linter.unusedSimpArgs false
namespace Go.Proofs.YtjgmakalledclaaGreatDoor
set_option maxRecDepth 4000
open Go Go.Abs Go.Val Go.RowKit Go.Proofs.Tryz
attribute [local irreducible] go SGo HasBody Ev ExtEv EvO EvS RGo
theorem ndL_get {l : List Ex} {i : Nat} {x : Ex} (h : l[i]? = some x) : nd x ≤ ndL l := ndL_mem (List.mem_of_getElem? h)
theorem tbOK_of {g : Gr} {its : List Itm} {t : Tb} (h : smF g its t = true) (rows : List (List V)) (hs : ∀ r ∈ rows, r ∈ t.rows) (hl : rows.length ≤ 30) : TbOK g its ⟨t.cols, rows⟩ := by
 unfold smF at h
 simp only [Bool.and_eq_true, decide_eq_true_eq, List.all_eq_true] at h
 obtain ⟨h1, h2, h3, h4, h5, h6⟩ := h
 have h0 : 0 ≤ lightL t.rows 400 := of_decide_eq_true h5
 obtain ⟨-, i2⟩ := lightL_cost t.rows 400 h0
 have hn : ∀ x ∈ its, nd x.e ≤ 1555 := fun x hx => exF_nd 5 x.e (h6 x hx)
 have hb : ∀ r ∈ rows, ∀ b ∈ envA t.cols r, cost b.v ≤ 1048576 := fun r hr b hb => by
  rcases envA_mem t.cols r b hb with e | e
  ·rw [e]; decide
  ·have := costL_mem e
   have := i2 r (hs r hr)
   omega
 have hel : ∀ r : List V, (envA t.cols r).length ≤ 1000000 := fun r => by rw [envA_len]; omega
 refine ⟨by omega, by show t.cols.length ≤ 1000; omega, by show rows.length ≤ 1000; omega, fun x hx r hr => ⟨evOK_sm h1 (hel r) (hb r hr) (by have := hn x hx; omega), fun y hy => evOK_sm h1 (hel r) (hb r hr) ?_⟩⟩
 have a1 := hn x hx
 rw [nd_eq] at a1
 have a2 := ndL_get hy
 omega
end Go.Proofs.YtjgmakalledclaaGreatDoor
namespace Go.Proofs.YtjgmakalledclaaGreatDoor
set_option maxRecDepth 4000
open Go Go.Abs Go.Val Go.RowKit Go.Proofs.Tryz
theorem nKy_cons2 (x : Itm) (r : List Itm) : nKy (x :: r) = (bif isKy x then 1 else 0) + nKy r := by
 unfold nKy
 rw [List.filter_cons]
 cases isKy x <;> simp <;> omega
theorem rowG_cnt (ap : Ex → V) (key : List V) (c : Itm) (hc : isKy c = false) : ∀ (its : List Itm) (k : Nat), (∀ x ∈ its, isKy x = true) → key.length = k + its.length → rowG ap key (its ++ [c]) k = key.drop k ++ [ap c.e]
 | [], k, _, hl => by
  rw [List.nil_append]
  simp only [rowG, hc, cond_false]
  rw [List.drop_eq_nil_of_le (by simp at hl; omega)]
  rfl
 | x :: r, k, h, hl => by
  simp only [List.length_cons] at hl
  rw [List.cons_append]
  simp only [rowG, h x (by simp), cond_true]
  rw [rowG_cnt ap key c hc r (k + 1) (fun y hy => h y (by simp [hy])) (by omega), drop_atS (show k < key.length by omega)]
  rfl
theorem apG_cnt (g : Gr) (envs : List (List Bd)) : apG g envs cnE = vInt envs.length := by
 have h1 : (cnE.ks.length == 0) = true := rfl
 have h2 : (cnE.nm.toList == nmCount) = true := by
  rw [beq_iff_eq]
  exact nmCountE
 unfold apG
 rw [h1, h2]
 rfl
theorem nKy_all : ∀ {its : List Itm}, (∀ x ∈ its, isKy x = true) → nKy its = its.length
 | [], _ => rfl
 | x :: r, h => by
  rw [nKy_cons2, h x (by simp), nKy_all fun y hy => h y (by simp [hy])]
  simp
  omega
theorem nKy_app (a b : List Itm) : nKy (a ++ b) = nKy a + nKy b := by
 unfold nKy
 rw [List.filter_append, List.length_append]
theorem cmpL_app (g : V → V → Int) : ∀ (x y a b : List V), x.length = y.length → cmpL g (x ++ a) (y ++ b) = orI (cmpL g x y) (cmpL g a b)
 | [], [], a, b, _ => by simp [cmpL, orI]
 | [], _ :: _, _, _, h => by simp at h
 | _ :: _, [], _, _, h => by simp at h
 | x :: r, y :: q, a, b, h => by
  simp only [List.cons_append, cmpL]
  rw [cmpL_app g r q a b (by simpa using h)]
  unfold orI
  cases h1 : g x y != 0 with
  | true => rw [cond_true, cond_true, h1]; rfl
  | false => rw [cond_false, cond_false]
def cntR (p : List V × Nat) : List V := p.1 ++ [vInt p.2]
def pairR (q : List Mm) : List V × Nat := ((q.headD default).key, q.length)
theorem groF_cnt (g : Gr) (its : List Itm) (h : ∀ x ∈ its, isKy x = true) {q : List Mm} (hq : ∀ m ∈ q, m.key.length = its.length) (hne : q ≠ []) : groF g (its ++ [cnI]) q = cntR (pairR q) := by
 cases q with
 | nil => exact absurd rfl hne
 | cons m tw =>
  unfold groF cntR pairR
  rw [rowG_cnt _ _ cnI rfl its 0 h (by have := hq m (by simp); simpa using this)]
  show List.drop 0 m.key ++ [apG g ((m :: tw).map (·.env)) cnE] = _
  rw [apG_cnt, List.length_map]
  rfl
theorem run_lt : ∀ (f : Nat) (S : List Mm), S.Pairwise (fun x y => memC x y ≤ 0) → (runF f S).Pairwise fun q q' => memC (q.headD default) (q'.headD default) < 0
 | 0, S, _ => by simp [runF]
 | f + 1, [], _ => by simp [runF]
 | f + 1, m :: r, h => by
  have h1 := List.pairwise_cons.1 h
  have hmin : ∀ x ∈ r, memC m x ≤ 0 := h1.1
  obtain ⟨-, b⟩ := tw_filter (m := m) h1.2 hmin
  simp only [runF, List.pairwise_cons]
  refine ⟨fun q hq => ?_, run_lt f _ (List.Pairwise.sublist (List.dropWhile_sublist _) h1.2)⟩
  obtain ⟨hne, hsub⟩ := runF_mem f _ q hq
  cases q with
  | nil => exact absurd rfl hne
  | cons m' tw' =>
   have hm' := hsub m' (by simp)
   rw [b] at hm'
   obtain ⟨h2, h3⟩ := List.mem_filter.1 hm'
   have h4 := hmin m' h2
   have h5 : memC m m' ≠ 0 := by simpa using h3
   show memC m m' < 0
   omega
theorem run_sum : ∀ (f : Nat) (S : List Mm), S.length ≤ f → ((runF f S).map List.length).sum = S.length
 | 0, S, h => by
  have : S = [] := List.length_eq_zero_iff.1 (by omega)
  rw [this]; rfl
 | f + 1, [], _ => by simp [runF]
 | f + 1, m :: r, h => by
  simp only [List.length_cons] at h
  have e := congrArg List.length (List.takeWhile_append_dropWhile (p := fun x => memC m x == 0) (l := r))
  rw [List.length_append] at e
  simp only [runF, List.map_cons, List.sum_cons, List.length_cons]
  rw [run_sum f _ (by omega)]
  omega
structure CntOK (K N : Nat) (L : List (List V × Nat)) : Prop where
 len : ∀ p ∈ L, p.1.length = K
 one : 0 < K → ∀ p ∈ L, 1 ≤ p.2
 lt : L.Pairwise fun p q => cmpL ordF p.1 q.1 < 0
 sum : (L.map (·.2)).sum = N
 sng : 0 < K ∨ L.length = 1
theorem cnt_tab (g : Gr) (its : List Itm) (all : List Mm) (h : ∀ x ∈ its, isKy x = true) (hk : ∀ m ∈ all, m.key.length = its.length) : ∃ L, tabR g (its ++ [cnI]) all = L.map cntR ∧ CntOK its.length all.length L := by
 have hn : nKy (its ++ [cnI]) = its.length := by
  rw [nKy_app, nKy_all h]
  rfl
 unfold tabR
 rw [hn]
 by_cases h0 : its.length = 0
 ·have e : its = [] := List.length_eq_zero_iff.1 h0
  subst e
  refine ⟨[([], all.length)], ?_, ⟨by simp, by simp, by simp, by simp, .inr rfl⟩⟩
  show [rowG (apG g (all.map (·.env))) [] ([] ++ [cnI]) 0] = _
  rw [rowG_cnt _ _ cnI rfl [] 0 (by simp) (by simp)]
  show [List.drop 0 [] ++ [apG g (all.map (·.env)) cnE]] = _
  rw [apG_cnt, List.length_map]
  rfl
 ·rw [show (its.length == 0) = false by (rw [beq_eq_false_iff_ne]; exact h0), cond_false]
  obtain ⟨r1, s1⟩ := stS_ok memC3 all
  have hp := srt_pw (show Srt memC (stS memC all) 0 (stS memC all).length by rw [r1.len]; exact s1)
  have hS : ∀ m ∈ stS memC all, m.key.length = its.length := fun m hm => hk m (r1.per.subset hm)
  have hSl : (stS memC all).length = all.length := r1.len
  generalize stS memC all = S at hp hS hSl
  have hmap : (runF S.length S).map (groF g (its ++ [cnI])) = ((runF S.length S).map pairR).map cntR := by
   rw [List.map_map]
   refine List.map_congr_left fun q hq => ?_
   obtain ⟨hne, hsub⟩ := runF_mem _ _ q hq
   exact groF_cnt g its h (fun m hm => hS m (hsub m hm)) hne
  have hlen : ∀ p ∈ (runF S.length S).map pairR, p.1.length = its.length := fun p hp' => by
   obtain ⟨q, hq, rfl⟩ := List.mem_map.1 hp'
   obtain ⟨hne, hsub⟩ := runF_mem _ _ q hq
   cases q with
   | nil => exact absurd rfl hne
   | cons m tw => exact hS m (hsub m (by simp))
  have hlt : ((runF S.length S).map pairR).Pairwise fun p q => cmpL ordF p.1 q.1 < 0 := by
   rw [List.pairwise_map]
   exact run_lt S.length S hp
  have hsort : (((runF S.length S).map pairR).map cntR).Pairwise fun x y => cmpL ordF x y ≤ 0 := by
   rw [List.pairwise_map]
   refine List.Pairwise.imp_of_mem (fun {p q} hp' hq' hpq => ?_) hlt
   unfold cntR
   rw [cmpL_app _ _ _ _ _ (by rw [hlen p hp', hlen q hq'])]
   unfold orI
   rw [show (cmpL ordF p.1 q.1 != 0) = true by (rw [bne_iff_ne]; omega), cond_true]
   omega
  refine ⟨(runF S.length S).map pairR, ?_, ⟨hlen, fun _ p hp' => ?_, hlt, ?_, .inl (by omega)⟩⟩
  ·rw [hmap]
   obtain ⟨r2, s2⟩ := stS_ok rowC (((runF S.length S).map pairR).map cntR)
   exact pw_uniq rowC rowZ _ _ r2.per (srt_pw (by rw [r2.len]; exact s2)) hsort
  ·obtain ⟨q, hq, rfl⟩ := List.mem_map.1 hp'
   obtain ⟨hne, -⟩ := runF_mem _ _ q hq
   exact List.length_pos_iff.2 hne
  ·rw [List.map_map, ← hSl]
   exact run_sum S.length S (Nat.le_refl _)
attribute [local irreducible] Ev EvO EvS ExtEv HasBody RGo SGo go
structure CkT (its : List Itm) where
 i : Nat
 hi : i ≤ its.length
 hk : ∀ x ∈ its.take i, isKy x = true
structure CsT (L : List (List V × Nat)) where
 i : Nat
 n : Nat
 hi : i ≤ L.length
 hn : n + ((L.drop i).map (·.2)).sum = (L.map (·.2)).sum
theorem len_sum : ∀ (L : List (List V × Nat)), (∀ p ∈ L, 1 ≤ p.2) → L.length ≤ (L.map (·.2)).sum
 | [], _ => by simp
 | p :: r, h => by
  have h1 := h p (by simp)
  have h2 := len_sum r fun q hq => h q (by simp [hq])
  simp only [List.length_cons, List.map_cons, List.sum_cons]
  omega
theorem cntR_row (p : List V × Nat) : encL (cntR p) = encL p.1 ++ [enc (vInt p.2)] := by
 unfold cntR
 exact encL_app _ _
theorem env_cost {g : Gr} {its : List Itm} {t : Tb} (h : smF g its t = true) : ∀ r ∈ t.rows, ∀ b ∈ envA t.cols r, cost b.v ≤ 1048576 := fun r hr b hb => by
 unfold smF at h
 simp only [Bool.and_eq_true, decide_eq_true_eq] at h
 have h0 : 0 ≤ lightL t.rows 400 := of_decide_eq_true h.2.2.2.2.1
 obtain ⟨-, i2⟩ := lightL_cost t.rows 400 h0
 rcases envA_mem t.cols r b hb with e | e
 ·rw [e]; decide
 ·have := costL_mem e
  have := i2 r hr
  omega
set_option maxHeartbeats 2000000 in
theorem law_counts (g : Gr) (its : List Itm) (t : Tb) : Ev E 9 [encGr g, .sl (its.map encIm), encTb t] (.d (.bool true)) := by
 have hal := alive23_ev
 have hs := small23_ev g its t
 have hlr : (Val.encR t.rows).length = t.rows.length := encR_len _
 have hle : (its.map encIm).length = its.length := by simp
 cases h : smF g its t with
 | false =>
  rw [h] at hs
  have g9 : (!false) = true := rfl
  refine ye3 func9 ntmps9 fun _ _ _=>?_
  repeat' (first | refine yz ?_ | refine yp b24 hs ?_ | refine yp b20 hal ?_ | exact zD)
 | true =>
  rw [h] at hs
  have g9 : (!true) = false := rfl
  obtain ⟨hi8, hr30⟩ : its.length ≤ 8 ∧ t.rows.length ≤ 30 := by
   have h' := h
   unfold smF at h'
   simp only [Bool.and_eq_true, decide_eq_true_eq] at h'
   exact ⟨h'.2.1, h'.2.2.2.1⟩
  refine ye3 func9 ntmps9 fun _ _ _=>?_
  repeat' (first | refine yz ?_ | refine yp b24 hs ?_)
  refine go_loop_ (α := CkT its) (fun p => ⟨[(1, .d (.sl (its.map encIm))), (3, .ptr 0 0), (5, .ptr 1 0), (21, .d (.sl (its.map encIm))), (22, .d (.int (its.map encIm).length)), (23, .d (.int p.i))], [.var 41 (.w (.d (encGr g))), .var 45 (.w (.d (encTb t)))]⟩) (fun p => its.length - p.i) ⟨0, by omega, by simp⟩ (zle 2) ?_
  rintro ⟨i, hi, hky⟩
  dsimp only
  rcases Nat.lt_or_ge i its.length with hlt | hge
  ·have g1 : decide ((i : Int) < ((its.map encIm).length : Int)) = true := by rw [hle]; simpa using hlt
   have hx0 := List.getElem?_eq_getElem hlt
   generalize its[i] = x at hx0
   have hx : (its.map encIm)[(i : Int).toNat]? = some (encIm x) := map_at hx0
   cases hk : isKy x with
   | false =>
    have g2 : (x.e.op == 24) = true := by unfold isKy at hk; simpa using hk
    repeat' (first | refine yz ?_ | refine yi (encIm x) hx ?_ | refine yp b20 hal ?_ | exact zD)
   | true =>
    have g2 : (x.e.op == 24) = false := by unfold isKy at hk; simpa using hk
    repeat' (first | refine yz ?_ | refine yi (encIm x) hx ?_)
    refine go_stop ?_
    exact ⟨⟨i + 1, by omega, fun y hy => by
     rw [take_app hx0] at hy
     rcases List.mem_append.1 hy with e | e
     ·exact hky y e
     ·rw [List.mem_singleton.1 e]; exact hk⟩, by dsimp only; omega, (zle 2)⟩
  ·have g1 : decide ((i : Int) < ((its.map encIm).length : Int)) = false := by rw [hle]; simp; omega
   rw [List.take_of_length_le hge] at hky
   have ok0 := tbOK_of h t.rows (fun r hr => hr) hr30
   have hg : smG g 12 16 = true := by
    have h' := h
    unfold smF at h'
    rw [Bool.and_eq_true] at h'
    exact h'.1
   have ok1 : TbOK g (its ++ [cnI]) t := ⟨by simp; omega, ok0.hc, ok0.hr, fun x hx r hr => by
    rcases List.mem_append.1 hx with e | e
    ·exact ok0.ev x e r hr
    ·rw [List.mem_singleton.1 e]
     refine ⟨evOK_sm hg (by rw [envA_len]; have : t.cols.length ≤ 1000 := ok0.hc; omega) (env_cost h r hr) (by decide), fun y hy => ?_⟩
     cases hy⟩
   have q0 := table_ev g (its ++ [cnI]) t ok1 (nar_tabR g (its ++ [cnI]) t.cols t.rows ok1.hi)
   obtain ⟨L, eL, hL⟩ := cnt_tab g its (t.rows.map (memF g (its ++ [cnI]) t.cols)) hky (fun m hm => by
    obtain ⟨r, -, rfl⟩ := List.mem_map.1 hm
    show (keyF g (its ++ [cnI]) (envA t.cols r)).length = its.length
    rw [keyF_len, nKy_app, nKy_all hky]
    rfl)
   rw [List.length_map] at hL
   obtain ⟨l1, l2, l3, l4, l5⟩ := hL
   have qT : ∀ z : List D, z = (its ++ [cnI]).map encIm → Ev E 26 [encGr g, .sl z, encTb t] (.d (.agg [.sl ((its ++ [cnI]).map fun x => D.str x.asn), .sl (Val.encR (L.map cntR))])) := fun z e => by
    rw [e, ← eL]
    have e2 : encTb (tabF g (its ++ [cnI]) t) = .agg [.sl ((its ++ [cnI]).map fun x => D.str x.asn), .sl (Val.encR (tabR g (its ++ [cnI]) (t.rows.map (memF g (its ++ [cnI]) t.cols))))] := by
     unfold encTb tabF
     rw [List.map_map]
     rfl
    rw [← e2]
    exact q0
   clear q0 eL ok1
   have hLR : (Val.encR (L.map cntR)).length = L.length := by rw [encR_len, List.length_map]
   have hLm : L.length ≤ 1000000 := by
    rcases l5 with h0 | h0
    ·have := len_sum L (l2 h0)
     omega
    ·omega
   generalize ((its ++ [cnI]).map fun x => D.str x.asn) = cols at qT
   have hcI : ∀ d ∈ its.map encIm, d.cells.length = 10 := fun d hd => by
    obtain ⟨x, -, rfl⟩ := List.mem_map.1 hd
    rfl
   have s0 : ([] : List D).length = 0 := rfl
   have s1 : (([] : List D) ++ its.map encIm).length = its.length := hle
   have sum_le : ∀ {i : Nat} {p : List V × Nat}, L[i]? = some p → ∀ n, n + ((L.drop i).map (·.2)).sum = (L.map (·.2)).sum → n + p.2 ≤ 30 := fun {i p} hp n hn => by
    rw [drop_at hp, List.map_cons, List.sum_cons, l4] at hn
    omega
   by_cases hl0 : its.map encIm = []
   ·have ez : (([] ++ [encIm cnI]) : List D) = (its ++ [cnI]).map encIm := by rw [List.map_append, hl0]; rfl
    have hzl : (([] ++ [encIm cnI]) : List D).length = its.length + 1 := by rw [ez]; simp
    have qT' := qT _ ez
    clear qT
    repeat' (first | refine go_buildOwn (n := 0) rfl rfl rfl rfl rfl rfl rfl (by decide) (by decide) ?_ | (refine go_append0o rfl rfl rfl rfl rfl rfl rfl rfl (congrArg (fun z => X.d (D.sl z)) hl0) ?_) | (refine qS rfl ⟨by simp, fun d hd => by (obtain rfl := List.mem_singleton.1 hd; rfl), by (show (([] : List D).length + 1) * 136 ≤ 140737488355328; omega), by (show ([] : List D).length + 1 ≤ 9223372036854775807; omega)⟩ ?_) | refine yz ?_)
    refine go_frzS 3 rfl ?_
    repeat' (first | refine yz ?_ | refine yp b26 qT' ?_)
    refine go_loop_ (α := CsT L) (fun p => ⟨[(1, .d (.sl (its.map encIm))), (3, .ptr 0 0), (5, .ptr 1 0), (9, .d (.sl ([] ++ [encIm cnI]))), (10, .ptr 2 0), (11, .d (.int p.n)), (45, .d (.sl (Val.encR (L.map cntR)))), (46, .d (.int (Val.encR (L.map cntR)).length)), (47, .d (.int p.i))], [.var 41 (.w (.d (encGr g))), .var 45 (.w (.d (encTb t))), .var 45 (.w (.d (.agg [.sl cols, .sl (Val.encR (L.map cntR))])))]⟩) (fun p => L.length - p.i) ⟨0, 0, by omega, by simp⟩ (zren [0, 1, 4]) ?_
    rintro ⟨i, n, hi, hn⟩
    dsimp only
    rcases Nat.lt_or_ge i L.length with hlt | hge2
    ·have g3 := yT ((i : Int) < ((Val.encR (L.map cntR)).length : Int)) (by omega)
     have hp0 := List.getElem?_eq_getElem hlt
     have hpm := List.getElem_mem hlt
     have hprev : ∀ j, j + 1 = i → ∃ p', L[j]? = some p' ∧ cmpL ordF p'.1 (L[i]).1 < 0 := fun j hj => by
      subst hj
      exact ⟨L[j], List.getElem?_eq_getElem (by omega), List.pairwise_iff_getElem.1 l3 j (j + 1) (by omega) hlt (by omega)⟩
     generalize L[i] = p at hp0 hpm hprev
     have hx : (Val.encR (L.map cntR))[(i : Int).toNat]? = some (encRw (cntR p)) := encR_get (by rw [Int.toNat_natCast, List.getElem?_map, hp0]; rfl)
     have hpl := l1 p hpm
     have hrl : (encL (cntR p)).length = its.length + 1 := by rw [encL_len]; unfold cntR; simp [hpl]
     have g4 : (((encL (cntR p)).length : Int) != ((([] ++ [encIm cnI]) : List D).length : Int)) = false := by rw [hrl, hzl]; simp
     have hx2 : (encL (cntR p))[((its.map encIm).length : Int).toNat]? = some (enc (vInt p.2)) := by
      rw [cntR_row, Int.toNat_natCast, hle, ← hpl, ← encL_len p.1, List.getElem?_append_right (Nat.le_refl _)]
      simp
     have hsum := sum_le hp0 n hn
     have hn2 : (n + p.2) + ((L.drop (i + 1)).map (·.2)).sum = (L.map (·.2)).sum := by
      rw [drop_at hp0, List.map_cons, List.sum_cons] at hn
      omega
     have n1 : (vInt (p.2 : Int)).n = (p.2 : Int) := rfl
     by_cases hK : 0 < its.length
     ·have g5 := yT (((its.map encIm).length : Int) > 0) (by omega)
      have hp1 := l2 hK p hpm
      have g6 := yF ((p.2 : Int) < 1) (by omega)
      cases i with
      | zero =>
       have g7 : decide (((0 : Nat) : Int) > 0) = false := by decide
       repeat' (first | refine yz ?_ | refine qI (encRw (cntR p)) rfl (guardX_ok rfl) rfl rfl rfl rfl rfl rfl (by first | omega | decide) hx ?_ | refine qI (enc (vInt p.2)) rfl (guardX_ok rfl) rfl rfl rfl rfl rfl rfl (by first | omega | decide) hx2 ?_ | refine yx ?_)
       refine go_stop ?_
       exact ⟨⟨0 + 1, n + p.2, by omega, hn2⟩, by dsimp only; omega, (zle 3)⟩
      | succ j =>
       have g7 := yT (((j + 1 : Nat) : Int) > 0) (by omega)
       obtain ⟨p', hp', hlt'⟩ := hprev j rfl
       have hpl' := l1 p' (List.mem_of_getElem? hp')
       have hxp : (Val.encR (L.map cntR))[(((j + 1 : Nat) : Int) - 1).toNat]? = some (encRw (cntR p')) := encR_get (by rw [show (((j + 1 : Nat) : Int) - 1).toNat = j by omega, List.getElem?_map, hp']; rfl)
       have hrl' : (encL (cntR p')).length = its.length + 1 := by rw [encL_len]; unfold cntR; simp [hpl']
       have et : ∀ q : List V × Nat, q.1.length = its.length → (encL (cntR q)).take ((its.map encIm).length : Int).toNat = encL q.1 := fun q hq => by
        rw [cntR_row, Int.toNat_natCast, hle, List.take_left']
        rw [encL_len]; exact hq
       have qo0 := rOrderRows_ev p'.1 p.1
       have qo : Ev E 14 [.sl ((encL (cntR p')).take ((its.map encIm).length : Int).toNat), .sl ((encL (cntR p)).take ((its.map encIm).length : Int).toNat)] (.d (.int (cmpL ordF p'.1 p.1))) := by
        rw [et p' hpl', et p hpl]
        exact qo0
       have g8 := yF (cmpL ordF p'.1 p.1 ≥ 0) (by omega)
       repeat' (first | (refine qS rfl ⟨⟨by omega, by omega⟩, _, rfl, encL_cells _⟩ ?_) | refine yz ?_ | refine qI (encRw (cntR p)) rfl (guardX_ok rfl) rfl rfl rfl rfl rfl rfl (by first | omega | decide) hx ?_ | refine qI (enc (vInt p.2)) rfl (guardX_ok rfl) rfl rfl rfl rfl rfl rfl (by first | omega | decide) hx2 ?_ | refine qI (encRw (cntR p')) rfl (guardX_ok rfl) rfl rfl rfl rfl rfl rfl (by first | omega | decide) hxp ?_ | refine yp b14 qo ?_ | refine yx ?_)
       refine go_stop ?_
       exact ⟨⟨j + 1 + 1, n + p.2, by omega, hn2⟩, by dsimp only; omega, (zle 3)⟩
     ·have g5 := yF (((its.map encIm).length : Int) > 0) (by omega)
      have hi0 : i = 0 := by have := l5.resolve_left hK; omega
      subst hi0
      have g7 : decide (((0 : Nat) : Int) > 0) = false := by decide
      cases g6 : decide ((p.2 : Int) < 1) with
      | false =>
       repeat' (first | refine yz ?_ | refine qI (encRw (cntR p)) rfl (guardX_ok rfl) rfl rfl rfl rfl rfl rfl (by first | omega | decide) hx ?_ | refine qI (enc (vInt p.2)) rfl (guardX_ok rfl) rfl rfl rfl rfl rfl rfl (by first | omega | decide) hx2 ?_ | refine yx ?_)
       refine go_stop ?_
       exact ⟨⟨0 + 1, n + p.2, by omega, hn2⟩, by dsimp only; omega, (zle 3)⟩
      | true =>
       repeat' (first | refine yz ?_ | refine qI (encRw (cntR p)) rfl (guardX_ok rfl) rfl rfl rfl rfl rfl rfl (by first | omega | decide) hx ?_ | refine qI (enc (vInt p.2)) rfl (guardX_ok rfl) rfl rfl rfl rfl rfl rfl (by first | omega | decide) hx2 ?_ | refine yx ?_)
       refine go_stop ?_
       exact ⟨⟨0 + 1, n + p.2, by omega, hn2⟩, by dsimp only; omega, (zle 3)⟩
    ·have g3 := yF ((i : Int) < ((Val.encR (L.map cntR)).length : Int)) (by omega)
     rw [List.drop_eq_nil_of_le hge2, List.map_nil, List.sum_nil, l4] at hn
     have g4 : ((n : Int) == ((Val.encR t.rows).length : Int)) = true := by rw [hlr, beq_iff_eq]; omega
     by_cases hK : 0 < its.length
     ·have g5 := yT (((its.map encIm).length : Int) > 0) (by omega)
      repeat' (first | refine yz ?_ | refine yp b20 hal ?_ | refine yx ?_ | exact zD)
     ·have g5 := yF (((its.map encIm).length : Int) > 0) (by omega)
      have g6 : (((Val.encR (L.map cntR)).length : Int) == 1) = true := by rw [hLR, beq_iff_eq]; have := l5.resolve_left hK; omega
      repeat' (first | refine yz ?_ | refine yp b20 hal ?_ | refine yx ?_ | exact zD)
   ·have ez : (([] ++ its.map encIm ++ [encIm cnI]) : List D) = (its ++ [cnI]).map encIm := by rw [List.map_append]; rfl
    have hzl : (([] ++ its.map encIm ++ [encIm cnI]) : List D).length = its.length + 1 := by rw [ez]; simp
    have qT' := qT _ ez
    clear qT
    repeat' (first | refine go_buildOwn (n := 0) rfl rfl rfl rfl rfl rfl rfl (by decide) (by decide) ?_ | (refine qS rfl ⟨hl0, hcI, by (show (([] : List D).length + (its.map encIm).length) * 136 ≤ 140737488355328; omega), by (show ([] : List D).length + (its.map encIm).length ≤ 9223372036854775807; omega)⟩ ?_) | (refine qS rfl ⟨by simp, fun d hd => by (obtain rfl := List.mem_singleton.1 hd; rfl), by (show ((([] ++ its.map encIm) : List D).length + 1) * 136 ≤ 140737488355328; omega), by (show (([] ++ its.map encIm) : List D).length + 1 ≤ 9223372036854775807; omega)⟩ ?_) | refine yz ?_)
    refine go_frzS 4 rfl ?_
    repeat' (first | refine yz ?_ | refine yp b26 qT' ?_)
    refine go_loop_ (α := CsT L) (fun p => ⟨[(1, .d (.sl (its.map encIm))), (3, .ptr 0 0), (5, .ptr 1 0), (9, .d (.sl ([] ++ its.map encIm ++ [encIm cnI]))), (10, .ptr 2 0), (11, .d (.int p.n)), (45, .d (.sl (Val.encR (L.map cntR)))), (46, .d (.int (Val.encR (L.map cntR)).length)), (47, .d (.int p.i))], [.var 41 (.w (.d (encGr g))), .var 45 (.w (.d (encTb t))), .var 45 (.w (.d (.agg [.sl cols, .sl (Val.encR (L.map cntR))])))]⟩) (fun p => L.length - p.i) ⟨0, 0, by omega, by simp⟩ (zren [0, 1, 5]) ?_
    rintro ⟨i, n, hi, hn⟩
    dsimp only
    rcases Nat.lt_or_ge i L.length with hlt | hge2
    ·have g3 := yT ((i : Int) < ((Val.encR (L.map cntR)).length : Int)) (by omega)
     have hp0 := List.getElem?_eq_getElem hlt
     have hpm := List.getElem_mem hlt
     have hprev : ∀ j, j + 1 = i → ∃ p', L[j]? = some p' ∧ cmpL ordF p'.1 (L[i]).1 < 0 := fun j hj => by
      subst hj
      exact ⟨L[j], List.getElem?_eq_getElem (by omega), List.pairwise_iff_getElem.1 l3 j (j + 1) (by omega) hlt (by omega)⟩
     generalize L[i] = p at hp0 hpm hprev
     have hx : (Val.encR (L.map cntR))[(i : Int).toNat]? = some (encRw (cntR p)) := encR_get (by rw [Int.toNat_natCast, List.getElem?_map, hp0]; rfl)
     have hpl := l1 p hpm
     have hrl : (encL (cntR p)).length = its.length + 1 := by rw [encL_len]; unfold cntR; simp [hpl]
     have g4 : (((encL (cntR p)).length : Int) != ((([] ++ its.map encIm ++ [encIm cnI]) : List D).length : Int)) = false := by rw [hrl, hzl]; simp
     have hx2 : (encL (cntR p))[((its.map encIm).length : Int).toNat]? = some (enc (vInt p.2)) := by
      rw [cntR_row, Int.toNat_natCast, hle, ← hpl, ← encL_len p.1, List.getElem?_append_right (Nat.le_refl _)]
      simp
     have hsum := sum_le hp0 n hn
     have hn2 : (n + p.2) + ((L.drop (i + 1)).map (·.2)).sum = (L.map (·.2)).sum := by
      rw [drop_at hp0, List.map_cons, List.sum_cons] at hn
      omega
     have n1 : (vInt (p.2 : Int)).n = (p.2 : Int) := rfl
     by_cases hK : 0 < its.length
     ·have g5 := yT (((its.map encIm).length : Int) > 0) (by omega)
      have hp1 := l2 hK p hpm
      have g6 := yF ((p.2 : Int) < 1) (by omega)
      cases i with
      | zero =>
       have g7 : decide (((0 : Nat) : Int) > 0) = false := by decide
       repeat' (first | refine yz ?_ | refine qI (encRw (cntR p)) rfl (guardX_ok rfl) rfl rfl rfl rfl rfl rfl (by first | omega | decide) hx ?_ | refine qI (enc (vInt p.2)) rfl (guardX_ok rfl) rfl rfl rfl rfl rfl rfl (by first | omega | decide) hx2 ?_ | refine yx ?_)
       refine go_stop ?_
       exact ⟨⟨0 + 1, n + p.2, by omega, hn2⟩, by dsimp only; omega, (zle 3)⟩
      | succ j =>
       have g7 := yT (((j + 1 : Nat) : Int) > 0) (by omega)
       obtain ⟨p', hp', hlt'⟩ := hprev j rfl
       have hpl' := l1 p' (List.mem_of_getElem? hp')
       have hxp : (Val.encR (L.map cntR))[(((j + 1 : Nat) : Int) - 1).toNat]? = some (encRw (cntR p')) := encR_get (by rw [show (((j + 1 : Nat) : Int) - 1).toNat = j by omega, List.getElem?_map, hp']; rfl)
       have hrl' : (encL (cntR p')).length = its.length + 1 := by rw [encL_len]; unfold cntR; simp [hpl']
       have et : ∀ q : List V × Nat, q.1.length = its.length → (encL (cntR q)).take ((its.map encIm).length : Int).toNat = encL q.1 := fun q hq => by
        rw [cntR_row, Int.toNat_natCast, hle, List.take_left']
        rw [encL_len]; exact hq
       have qo0 := rOrderRows_ev p'.1 p.1
       have qo : Ev E 14 [.sl ((encL (cntR p')).take ((its.map encIm).length : Int).toNat), .sl ((encL (cntR p)).take ((its.map encIm).length : Int).toNat)] (.d (.int (cmpL ordF p'.1 p.1))) := by
        rw [et p' hpl', et p hpl]
        exact qo0
       have g8 := yF (cmpL ordF p'.1 p.1 ≥ 0) (by omega)
       repeat' (first | (refine qS rfl ⟨⟨by omega, by omega⟩, _, rfl, encL_cells _⟩ ?_) | refine yz ?_ | refine qI (encRw (cntR p)) rfl (guardX_ok rfl) rfl rfl rfl rfl rfl rfl (by first | omega | decide) hx ?_ | refine qI (enc (vInt p.2)) rfl (guardX_ok rfl) rfl rfl rfl rfl rfl rfl (by first | omega | decide) hx2 ?_ | refine qI (encRw (cntR p')) rfl (guardX_ok rfl) rfl rfl rfl rfl rfl rfl (by first | omega | decide) hxp ?_ | refine yp b14 qo ?_ | refine yx ?_)
       refine go_stop ?_
       exact ⟨⟨j + 1 + 1, n + p.2, by omega, hn2⟩, by dsimp only; omega, (zle 3)⟩
     ·have g5 := yF (((its.map encIm).length : Int) > 0) (by omega)
      have hi0 : i = 0 := by have := l5.resolve_left hK; omega
      subst hi0
      have g7 : decide (((0 : Nat) : Int) > 0) = false := by decide
      cases g6 : decide ((p.2 : Int) < 1) with
      | false =>
       repeat' (first | refine yz ?_ | refine qI (encRw (cntR p)) rfl (guardX_ok rfl) rfl rfl rfl rfl rfl rfl (by first | omega | decide) hx ?_ | refine qI (enc (vInt p.2)) rfl (guardX_ok rfl) rfl rfl rfl rfl rfl rfl (by first | omega | decide) hx2 ?_ | refine yx ?_)
       refine go_stop ?_
       exact ⟨⟨0 + 1, n + p.2, by omega, hn2⟩, by dsimp only; omega, (zle 3)⟩
      | true =>
       repeat' (first | refine yz ?_ | refine qI (encRw (cntR p)) rfl (guardX_ok rfl) rfl rfl rfl rfl rfl rfl (by first | omega | decide) hx ?_ | refine qI (enc (vInt p.2)) rfl (guardX_ok rfl) rfl rfl rfl rfl rfl rfl (by first | omega | decide) hx2 ?_ | refine yx ?_)
       refine go_stop ?_
       exact ⟨⟨0 + 1, n + p.2, by omega, hn2⟩, by dsimp only; omega, (zle 3)⟩
    ·have g3 := yF ((i : Int) < ((Val.encR (L.map cntR)).length : Int)) (by omega)
     rw [List.drop_eq_nil_of_le hge2, List.map_nil, List.sum_nil, l4] at hn
     have g4 : ((n : Int) == ((Val.encR t.rows).length : Int)) = true := by rw [hlr, beq_iff_eq]; omega
     by_cases hK : 0 < its.length
     ·have g5 := yT (((its.map encIm).length : Int) > 0) (by omega)
      repeat' (first | refine yz ?_ | refine yp b20 hal ?_ | refine yx ?_ | exact zD)
     ·have g5 := yF (((its.map encIm).length : Int) > 0) (by omega)
      have g6 : (((Val.encR (L.map cntR)).length : Int) == 1) = true := by rw [hLR, beq_iff_eq]; have := l5.resolve_left hK; omega
      repeat' (first | refine yz ?_ | refine yp b20 hal ?_ | refine yx ?_ | exact zD)
end Go.Proofs.YtjgmakalledclaaGreatDoor
