/- The law AggregateSorts answers true. Conditions: none. -/
import Derived.Test.YtjgmakalledclaaGreatDoorGC
import Derived.Test.YtjgmakalledclaaGreatDoorGT
import Derived.Test.YtjgmakalledclaaGreatDoorSR
set_option linter.unusedVariables false
set_option linter.unusedSimpArgs false
namespace Go.Proofs.YtjgmakalledclaaGreatDoor
set_option maxRecDepth 4000
open Go Go.Abs Go.Val Go.RowKit Go.Proofs.Tryz
attribute [local irreducible] go SGo HasBody Ev ExtEv EvO EvS RGo
theorem ndL_get {l : List Ex} {i : Nat} {x : Ex} (h : l[i]? = some x) : nd x ≤ ndL l := ndL_mem (List.mem_of_getElem? h)
theorem tbOK_of {g : Gr} {its : List Itm} {t : Tb} (h : smF g its t = true) (rows : List (List V)) (hs : ∀ r ∈ rows, r ∈ t.rows) (hl : rows.length ≤ 30) : TbOK g its ⟨t.cols, rows⟩ := by
 unfold smF at h
 simp only [Bool.and_eq_true, decide_eq_true_eq, List.all_eq_true] at h
 obtain ⟨h1, h2, h3, h4, h5, h6⟩ := h
 have h0 : 0 ≤ lightL t.rows 400 := of_decide_eq_true h5
 obtain ⟨-, i2⟩ := lightL_cost t.rows 400 h0
 have hn : ∀ x ∈ its, nd x.e ≤ 1555 := fun x hx => exF_nd 5 x.e (h6 x hx)
 have hb : ∀ r ∈ rows, ∀ b ∈ envA t.cols r, cost b.v ≤ 1048576 := fun r hr b hb => by
  rcases envA_mem t.cols r b hb with e | e
  ·rw [e]; decide
  ·have := costL_mem e
   have := i2 r (hs r hr)
   omega
 have hel : ∀ r : List V, (envA t.cols r).length ≤ 1000000 := fun r => by rw [envA_len]; omega
 refine ⟨by omega, by show t.cols.length ≤ 1000; omega, by show rows.length ≤ 1000; omega, fun x hx r hr => ⟨evOK_sm h1 (hel r) (hb r hr) (by have := hn x hx; omega), fun y hy => evOK_sm h1 (hel r) (hb r hr) ?_⟩⟩
 have a1 := hn x hx
 rw [nd_eq] at a1
 have a2 := ndL_get hy
 omega
structure ScT (c : List ByteArray) where
 i : Nat
 hi : i ≤ c.length
theorem sameT_ev (a : Tb) : Ev E 25 [encTb a, encTb a] (.d (.bool true)) := Ev.fit fun hfit => by
 have hf := (hfit (encTb a) (by simp)).aggs
 have hmx := ((hf (.sl (a.cols.map .str)) (by simp)).sls).1
 have hle : (a.cols.map D.str).length = a.cols.length := by simp
 have g0 : (((a.cols.map D.str).length : Int) != ((a.cols.map D.str).length : Int)) = false := by simp
 have q := SameRows_ev a.rows a.rows
 rw [sameZ_iff.2 rfl] at q
 refine ye2 func25 ntmps25 fun _ _ _=>?_
 repeat' (refine yz ?_)
 refine go_loop_ (α := ScT a.cols) (fun p => ⟨[(2, .ptr 0 0), (3, .ptr 1 0), (5, .d (.int p.i))], [.var 45 (.w (.d (encTb a))), .var 45 (.w (.d (encTb a)))]⟩) (fun p => a.cols.length - p.i) ⟨0, by omega⟩ (zle 2) ?_
 rintro ⟨i, hi⟩
 dsimp only
 rcases Nat.lt_or_ge i a.cols.length with hlt | hge
 ·have g1 : decide ((i : Int) < ((a.cols.map D.str).length : Int)) = true := by rw [hle]; simpa using hlt
  have hx0 := List.getElem?_eq_getElem hlt
  generalize a.cols[i] = x at hx0
  have hx : (a.cols.map D.str)[(i : Int).toNat]? = some (.str x) := map_at hx0
  have g2 : (!(x.toList == x.toList)) = false := by simp
  repeat' (first | refine yz ?_ | refine yi (.str x) hx ?_)
  refine go_stop ?_
  exact ⟨⟨i + 1, by omega⟩, by dsimp only; omega, (zle 2)⟩
 ·have g1 : decide ((i : Int) < ((a.cols.map D.str).length : Int)) = false := by rw [hle]; simp; omega
  repeat' (first | refine yz ?_ | refine yp b15 q ?_ | exact zD)
theorem law_sorts (g : Gr) (its : List Itm) (t : Tb) : Ev E 8 [encGr g, .sl (its.map encIm), encTb t] (.d (.bool true)) := by
 have hal := alive23_ev
 have hs := small23_ev g its t
 have hlr : (Val.encR t.rows).length = t.rows.length := encR_len _
 cases h : smF g its t with
 | false =>
  rw [h] at hs
  have g9 : (!false) = true := rfl
  refine ye3 func8 ntmps8 fun _ _ _=>?_
  repeat' (first | refine yz ?_ | refine yp b24 hs ?_ | refine yp b20 hal ?_ | exact zD)
 | true =>
  rw [h] at hs
  have g9 : (!true) = false := rfl
  have hr30 : t.rows.length ≤ 30 := by
   unfold smF at h
   simp only [Bool.and_eq_true, decide_eq_true_eq] at h
   exact h.2.2.2.1
  have ok1 := tbOK_of h t.rows (fun r hr => hr) hr30
  have ok2 := tbOK_of h t.rows.reverse (fun r hr => List.mem_reverse.1 hr) (by simpa using hr30)
  have q1 := table_ev g its t ok1 (nar_tabR g its t.cols t.rows ok1.hi)
  have q2 := table_ev g its ⟨t.cols, t.rows.reverse⟩ ok2 (nar_tabR g its t.cols t.rows.reverse ok1.hi)
  have et : tabF g its ⟨t.cols, t.rows.reverse⟩ = tabF g its t := by
   unfold tabF
   simp only
   rw [tabR_perm g its ((List.reverse_perm t.rows).map _)]
  rw [et] at q2
  have q3 := sameT_ev (tabF g its t)
  generalize tabF g its t = R at q1 q2 q3
  refine ye3 func8 ntmps8 fun _ _ _=>?_
  repeat' (first | refine yz ?_ | refine yp b24 hs ?_)
  refine go_loop_ (α := Fin (t.rows.length + 1)) (fun p => ⟨[(7, rowK 2 ((t.rows.drop p.val).reverse.map encRw)), (1, .d (.sl (its.map encIm))), (3, .ptr 0 0), (5, .ptr 1 0), (8, .d (.int ((p.val : Int) - 1)))], [.var 41 (.w (.d (encGr g))), .var 45 (.w (.d (encTb t)))] ++ rowO 23 1 ((t.rows.drop p.val).reverse.map encRw)⟩) (fun p => p.val) ⟨t.rows.length, by omega⟩ (by
   dsimp only
   rw [List.drop_eq_nil_of_le (Nat.le_refl _), ← hlr]
   exact (zle 2)) ?_
  rintro ⟨k, hk⟩
  dsimp only
  cases k with
  | zero =>
   have g1 : decide (((0 : Nat) : Int) - 1 ≥ 0) = false := by decide
   rw [List.drop_zero]
   have q2' : Ev E 26 [encGr g, .sl (its.map encIm), .agg [.sl (t.cols.map .str), .sl (t.rows.reverse.map encRw)]] (.d (encTb R)) := q2
   generalize t.rows.reverse.map encRw = eo at *
   match eo with
   | [] =>
    dsimp only [rowK, rowO, List.append]
    repeat' (first | refine yz ?_ | refine qP (d := 34) rfl rfl rfl rfl rfl rfl b26 (q1) ?_ | refine qP (d := 41) rfl rfl rfl rfl rfl rfl b26 (q2') ?_ | refine yp b25 q3 ?_ | refine yp b20 hal ?_ | exact zD)
   | y :: q =>
    dsimp only [rowK, rowO, List.append]
    refine go_frz 2 rfl ?_
    repeat' (first | refine yz ?_ | refine qP (d := 34) rfl rfl rfl rfl rfl rfl b26 (q1) ?_ | refine qP (d := 41) rfl rfl rfl rfl rfl rfl b26 (q2') ?_ | refine yp b25 q3 ?_ | refine yp b20 hal ?_ | exact zD)
  | succ k =>
   have g1 := yT (((k + 1 : Nat) : Int) - 1 ≥ 0) (by omega)
   have hx0 := atS_get (show k < t.rows.length by omega)
   have hx : (Val.encR t.rows)[(((k + 1 : Nat) : Int) - 1).toNat]? = some (encRw (atS t.rows k)) := encR_get (by rw [show (((k + 1 : Nat) : Int) - 1).toNat = k by omega]; exact hx0)
   have hb : (t.rows.drop k).reverse.map encRw = (t.rows.drop (k + 1)).reverse.map encRw ++ [encRw (atS t.rows k)] := by
    rw [drop_atS (show k < t.rows.length by omega)]
    simp
   have hlen : ((t.rows.drop (k + 1)).reverse.map encRw).length ≤ 30 := by simp; omega
   have he : ((k + 1 : Nat) : Int) - 1 - 1 = (k : Int) - 1 := by omega
   generalize (t.rows.drop (k + 1)).reverse.map encRw = eo at *
   match eo, hlen with
   | [], hlen =>
    dsimp only [rowK, rowO, List.append]
    repeat' (first | refine yz ?_ | refine qI (encRw (atS t.rows k)) rfl (guardX_ok rfl) rfl rfl rfl rfl rfl rfl (by first | omega | decide) hx ?_ | (refine qS rfl ⟨by simp, fun d hd => by (obtain rfl := List.mem_singleton.1 hd; rfl), by (show (0 + 1) * 24 ≤ 140737488355328; omega), by (show 0 + 1 ≤ 9223372036854775807; omega)⟩ ?_))
    refine go_stop ?_
    refine ⟨⟨k, by omega⟩, by dsimp only; omega, ?_⟩
    show Le _ ⟨(8, .d (.int (((k + 1 : Nat) : Int) - 1 - 1))) :: _, _⟩ _
    dsimp only
    rw [hb, he]
    exact (zren [0, 1, 2])
   | y :: q, hlen =>
    dsimp only [rowK, rowO, List.append]
    repeat' (first | refine yz ?_ | refine qI (encRw (atS t.rows k)) rfl (guardX_ok rfl) rfl rfl rfl rfl rfl rfl (by first | omega | decide) hx ?_ | (refine qS rfl ⟨by simp, fun d hd => by (obtain rfl := List.mem_singleton.1 hd; rfl), by (show ((y :: q).length + 1) * 24 ≤ 140737488355328; omega), by (show (y :: q).length + 1 ≤ 9223372036854775807; omega)⟩ ?_))
    refine go_stop ?_
    refine ⟨⟨k, by omega⟩, by dsimp only; omega, ?_⟩
    show Le _ ⟨(8, .d (.int (((k + 1 : Nat) : Int) - 1 - 1))) :: _, _⟩ _
    dsimp only
    rw [hb, he]
    exact (zren [0, 1, 3])
end Go.Proofs.YtjgmakalledclaaGreatDoor
