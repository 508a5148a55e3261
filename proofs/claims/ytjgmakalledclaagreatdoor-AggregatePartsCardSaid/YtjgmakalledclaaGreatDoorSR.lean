/- The library's stable sort of a row of the caller's, walked: elements of type graphdb/api.Row; The library's stable sort of a row of the caller's, walked (its merge in place): elements of type graphdb/api.Row; The library's stable sort of a row of the caller's, walked (as a whole): elements of type graphdb/api.Row; Rows of values: their order, both texts; the program's sort of rows; Rows of values: the specification's sort; the same rows and the same bags, both texts. Conditions: each part's own, as it says. -/
import Derived.Test.YtjgmakalledclaaGreatDoorMC
import Derived.Test.YtjgmakalledclaaGreatDoorGC
set_option linter.unusedVariables false
set_option linter.unusedSimpArgs false
/- The library's stable sort of a row of the caller's, walked: elements of type graphdb/api.Row. Conditions: the comparison answers for all elements; the row is no longer than 2^60. -/
namespace Go.Proofs.YtjgmakalledclaaGreatDoor
set_option maxRecDepth 4000
open Go Go.Abs Go.Val Go.RowKit
attribute [local irreducible] go SGo HasBody Ev ExtEv EvO EvS RGo
def encRw (r : List V) : D := .sl (encL r)
end Go.Proofs.YtjgmakalledclaaGreatDoor

/- The library's stable sort of a row of the caller's, walked (its merge in place): elements of type graphdb/api.Row. Conditions: the comparison answers for all elements; the row is no longer than 2^60. -/
namespace Go.Proofs.YtjgmakalledclaaGreatDoor
set_option maxRecDepth 4000
open Go Go.Abs Go.Val Go.RowKit
attribute [local irreducible] go SGo HasBody Ev ExtEv EvO EvS RGo
end Go.Proofs.YtjgmakalledclaaGreatDoor

/- The library's stable sort of a row of the caller's, walked (as a whole): elements of type graphdb/api.Row. Conditions: the comparison answers for all elements; the row is no longer than 2^60. -/
namespace Go.Proofs.YtjgmakalledclaaGreatDoor
set_option maxRecDepth 4000
open Go Go.Abs Go.Val Go.RowKit
attribute [local irreducible] go SGo HasBody Ev ExtEv EvO EvS RGo
end Go.Proofs.YtjgmakalledclaaGreatDoor

/- Rows of values: their order, both texts; the program's sort of rows. Conditions: no list of more than two million elements. -/
namespace Go.Proofs.YtjgmakalledclaaGreatDoor
set_option maxRecDepth 4000
open Go Go.Abs Go.Val Go.RowKit
attribute [local irreducible] go SGo HasBody Ev ExtEv EvO EvS RGo

theorem rOrderRows_ev (a b : List V) : Ev E 14 [encRw a, encRw b] (.d (.int (cmpL ordF a b))) := by
  have q := lists_ev a b (fun x _ y _ => rOrder_ev x y)
  unfold encRw
  refine enter2 Tryz.func14 Tryz.ntmps14 rfl rfl fun w0 F0 O => ?_
  repeat' (first | refine zS rfl ?_ | refine qA ?_ | refine qB rfl ?_ | refine qC (by kernel_rfl) ?_ | refine qD ?_ | refine qE ?_ | refine qF ?_ | refine qG ?_ | refine qH rfl ?_ | refine qP rfl rfl rfl rfl rfl rfl b44 (q) ?_ | refine zT rfl ?_ | refine zU rfl ?_ | refine qL rfl rfl ?_ | refine qM rfl rfl rfl ?_ | refine qO rfl rfl rfl ?_ | refine zX rfl rfl rfl rfl ?_ | refine zW rfl rfl rfl rfl ?_ | (refine qY rfl rfl rfl rfl ?_ ?_ <;> intro _) | exact zD | exact zL)
theorem encR_eq (l : List (List V)) : Val.encR l = l.map encRw := rfl
end Go.Proofs.YtjgmakalledclaaGreatDoor

/- Rows of values: the specification's sort; the same rows and the same bags, both texts. Conditions: no list of more than two million elements. -/
namespace Go.Proofs.YtjgmakalledclaaGreatDoor
set_option maxRecDepth 4000
open Go Go.Abs Go.Val Go.RowKit
attribute [local irreducible] go SGo HasBody Ev ExtEv EvO EvS RGo

structure RsT (l : List (List V)) (R : List (List V)) where
  i : Nat
  out : List (List V)
  hi : i ≤ l.length
  hl : out.length = i
  ht : rsF (cmpL ordF) out (l.drop i) = R
structure ShT (x : List V) (n : Nat) (R : List (List V)) where
  k : Nat
  l1 : List (List V)
  hl : l1.length = n + 1
  hk : k ≤ n
  ht : shR (cmpL ordF) x k l1 = R
theorem row_ne {l : List (List V)} {n : Nat} (h : l.length = n + 1) : ∃ a q, l.map encRw = a :: q := by
  cases l with
  | nil => simp at h
  | cons x r => exact ⟨encRw x, r.map encRw, rfl⟩
theorem rSortRows_ev (l : List (List V)) (hn : ∀ r ∈ l, nar (vList r) = true) (hm : l.length ≤ 2000000) : Ev E 16 [.sl (Val.encR l)] (.d (.sl (Val.encR (stS (cmpL ordF) l)))) := by
  have hle : (Val.encR l).length = l.length := encR_len l
  rw [← rs_stS rowC rowZ l]
  generalize hR : rsF (cmpL ordF) [] l = R
  rw [encR_eq R]
  refine enter1 Tryz.func16 Tryz.ntmps16 rfl rfl fun w0 F0 O => ?_
  repeat' (first | refine zS rfl ?_ | refine qA ?_ | refine qB rfl ?_ | refine qC (by kernel_rfl) ?_ | refine qD ?_ | refine qE ?_ | refine qF ?_ | refine qG ?_ | refine qH rfl ?_ | refine zT rfl ?_ | refine zU rfl ?_ | refine qL rfl rfl ?_ | refine qM rfl rfl rfl ?_ | refine qO rfl rfl rfl ?_ | refine zX rfl rfl rfl rfl ?_ | refine zW rfl rfl rfl rfl ?_ | (refine qY rfl rfl rfl rfl ?_ ?_ <;> intro _) | exact zD | exact zL)
  refine go_loop_ (α := RsT l R) (fun p => ⟨[(0, .d (.sl (Val.encR l))), (3, rowX (p.out.map encRw)), (4, .d (.int p.i))], rowO 23 1 (p.out.map encRw)⟩) (fun p => l.length - p.i) ⟨0, [], by omega, rfl, by simpa using hR⟩ ((zle 0)) ?_
  rintro ⟨i, out, hi, hl, ht⟩
  dsimp only
  rcases Nat.lt_or_ge i l.length with hlt | hge
  · have g1 : decide ((i : Int) < ((Val.encR l).length : Int)) = true := by rw [hle]; simpa using hlt
    have hx0 := List.getElem?_eq_getElem hlt
    generalize l[i] = x at hx0
    have hx : (Val.encR l)[(i : Int).toNat]? = some (encRw x) := encR_get (by rw [Int.toNat_natCast]; exact hx0)
    have hcx : Ev E 45 [encRw x] (.d (encRw x)) := rcopy_ev (vList x) (hn x (List.mem_of_getElem? hx0))
    rw [drop_at hx0] at ht
    simp only [rsF] at ht
    have hL0 : (out ++ [x]).length = i + 1 := by simp [hl]
    have eout : out.map encRw ++ [encRw x] = (out ++ [x]).map encRw := by simp
    have hlen : (out.map encRw).length = i := by simp [hl]
    rw [hl] at ht
    generalize out ++ [x] = l0 at ht hL0 eout
    generalize hR2 : shR (cmpL ordF) x i l0 = R2 at ht
    cases hq : out.map encRw
    case' nil =>
      rw [hq] at eout hlen
      dsimp only [rowX, rowO]
      rw [List.nil_append] at eout
      repeat' (first | refine zS rfl ?_ | refine qA ?_ | refine qB rfl ?_ | refine qC (by kernel_rfl) ?_ | refine qD ?_ | refine qE ?_ | refine qF ?_ | refine qG ?_ | refine qH rfl ?_ | refine qI (encRw x) rfl (guardX_ok rfl) rfl rfl rfl rfl rfl rfl (by first | omega | decide) hx ?_ | refine qP rfl rfl rfl rfl rfl rfl b45 (hcx) ?_ | (refine qS rfl ⟨by simp, fun d hd => by (obtain rfl := List.mem_singleton.1 hd; rfl), by (show (0 + 1) * 24 ≤ 140737488355328; omega), by (show 0 + 1 ≤ 9223372036854775807; omega)⟩ ?_) | refine zT rfl ?_ | refine zU rfl ?_ | refine qL rfl rfl ?_ | refine qM rfl rfl rfl ?_ | refine qO rfl rfl rfl ?_ | refine zX rfl rfl rfl rfl ?_ | refine zW rfl rfl rfl rfl ?_ | (refine qY rfl rfl rfl rfl ?_ ?_ <;> intro _) | exact zD | exact zL)
      refine go_loop_ (α := ShT x i R2) (fun p => ⟨[(0, .d (.sl (Val.encR l))), (3, .own 0), (4, .d (.int i)), (5, .d (.int p.k)), (6, .d (encRw x))], [.row 23 1 (p.l1.map encRw)]⟩) (fun p => p.k) ⟨i, l0, hL0, Nat.le_refl _, hR2⟩ (by dsimp only; rw [← eout, ← hlen]; exact (zren [0])) ?_
    case' cons a q =>
      rw [hq] at eout hlen
      dsimp only [rowX, rowO]
      repeat' (first | refine zS rfl ?_ | refine qA ?_ | refine qB rfl ?_ | refine qC (by kernel_rfl) ?_ | refine qD ?_ | refine qE ?_ | refine qF ?_ | refine qG ?_ | refine qH rfl ?_ | refine qI (encRw x) rfl (guardX_ok rfl) rfl rfl rfl rfl rfl rfl (by first | omega | decide) hx ?_ | refine qP rfl rfl rfl rfl rfl rfl b45 (hcx) ?_ | (refine qS rfl ⟨by simp, fun d hd => by (obtain rfl := List.mem_singleton.1 hd; rfl), by (show ((a :: q).length + 1) * 24 ≤ 140737488355328; omega), by (show (a :: q).length + 1 ≤ 9223372036854775807; omega)⟩ ?_) | refine zT rfl ?_ | refine zU rfl ?_ | refine qL rfl rfl ?_ | refine qM rfl rfl rfl ?_ | refine qO rfl rfl rfl ?_ | refine zX rfl rfl rfl rfl ?_ | refine zW rfl rfl rfl rfl ?_ | (refine qY rfl rfl rfl rfl ?_ ?_ <;> intro _) | exact zD | exact zL)
      refine go_loop_ (α := ShT x i R2) (fun p => ⟨[(0, .d (.sl (Val.encR l))), (3, .own 0), (4, .d (.int i)), (5, .d (.int p.k)), (6, .d (encRw x))], [.row 23 1 (p.l1.map encRw)]⟩) (fun p => p.k) ⟨i, l0, hL0, Nat.le_refl _, hR2⟩ (by dsimp only; rw [← eout, ← hlen]; exact (zren [1])) ?_
    all_goals
      rintro ⟨k, l1, hl1, hk, ht1⟩
      dsimp only
      have hL1 : (l1.map encRw).length = i + 1 := by rw [List.length_map, hl1]
      have stop : ∀ k : Nat, k ≤ i → l1.set k x = R2 → (((l1.map encRw).set (k : Int).toNat (subD (encRw (atS l1 k)) 0 (encRw x))) = R2.map encRw) := fun k _ e => by
        rw [← e, List.map_set]; rfl
      cases k with
      | zero =>
        simp only [shR] at ht1
        have g2 : decide (((0 : Nat) : Int) > 0) = false := by decide
        have x2 := row_get (en := encRw) (l := l1) (i := ((0 : Nat) : Int)) (p := 0) (by omega) rfl
        have hR2l : R2.length = i + 1 := by rw [← ht1, List.length_set, hl1]
        obtain ⟨a, q, e⟩ := row_ne hR2l
        have e2 := stop 0 (by omega) ht1
        repeat' (first | refine zS rfl ?_ | refine qA ?_ | refine qB rfl ?_ | refine qC (by kernel_rfl) ?_ | refine qD ?_ | refine qE ?_ | refine qF ?_ | refine qG ?_ | refine qH rfl ?_ | refine qZ _ rfl rfl rfl rfl rfl rfl x2 rfl rfl rfl ?_ | (refine qS rfl ?_ ?_; (rw [hL1]; omega)) | refine zT rfl ?_ | refine zU rfl ?_ | refine qL rfl rfl ?_ | refine qM rfl rfl rfl ?_ | refine qO rfl rfl rfl ?_ | refine zX rfl rfl rfl rfl ?_ | refine zW rfl rfl rfl rfl ?_ | (refine qY rfl rfl rfl rfl ?_ ?_ <;> intro _) | exact zD | exact zL)
        refine go_stop ?_
        refine ⟨⟨i + 1, R2, by omega, hR2l, ht⟩, by dsimp only; omega, ?_⟩
        show Le _ ⟨_, [.row 23 1 (((l1.map encRw).set ((0 : Nat) : Int).toNat (subD (encRw (atS l1 0)) 0 (encRw x))))]⟩ _
        rw [e2, e]
        exact (zle 1)
      | succ k =>
        simp only [shR] at ht1
        have g2 : decide (((k + 1 : Nat) : Int) > 0) = true := decide_eq_true (by omega)
        have x1 := row_get (en := encRw) (l := l1) (i := ((k + 1 : Nat) : Int) - 1) (p := k) (by omega) (by omega)
        have x2 := row_get (en := encRw) (l := l1) (i := ((k + 1 : Nat) : Int)) (p := k + 1) (by omega) rfl
        have q := rOrderRows_ev (atS l1 k) x
        by_cases hc : cmpL ordF (atS l1 k) x > 0
        · rw [if_pos hc] at ht1
          have g3 : decide (cmpL ordF (atS l1 k) x > 0) = true := decide_eq_true hc
          repeat' (first | refine qW _ rfl rfl rfl rfl rfl rfl x1 rfl ?_ | refine zS rfl ?_ | refine qA ?_ | refine qB rfl ?_ | refine qC (by kernel_rfl) ?_ | refine qD ?_ | refine qE ?_ | refine qF ?_ | refine qG ?_ | refine qH rfl ?_ | refine qZ _ rfl rfl rfl rfl rfl rfl x2 rfl rfl rfl ?_ | refine qP rfl rfl rfl rfl rfl rfl b14 (q) ?_ | (refine qS rfl ?_ ?_; (rw [hL1]; omega)) | refine zT rfl ?_ | refine zU rfl ?_ | refine qL rfl rfl ?_ | refine qM rfl rfl rfl ?_ | refine qO rfl rfl rfl ?_ | refine zX rfl rfl rfl rfl ?_ | refine zW rfl rfl rfl rfl ?_ | (refine qY rfl rfl rfl rfl ?_ ?_ <;> intro _) | exact zD | exact zL)
          refine go_stop ?_
          refine ⟨⟨k, l1.set (k + 1) (atS l1 k), by rw [List.length_set, hl1], by omega, ht1⟩, by dsimp only; omega, ?_⟩
          show Le _ ⟨(5, .d (.int (((k + 1 : Nat) : Int) - 1))) :: _, [.row 23 1 (((l1.map encRw).set ((k + 1 : Nat) : Int).toNat (subD (encRw (atS l1 (k + 1))) 0 (encRw (atS l1 k)))))]⟩ _
          rw [show ((l1.map encRw).set ((k + 1 : Nat) : Int).toNat (subD (encRw (atS l1 (k + 1))) 0 (encRw (atS l1 k)))) = (l1.set (k + 1) (atS l1 k)).map encRw by rw [List.map_set]; rfl, show ((k + 1 : Nat) : Int) - 1 = (k : Int) by omega]
          exact (zle 1)
        · rw [if_neg hc] at ht1
          have g3 : decide (cmpL ordF (atS l1 k) x > 0) = false := decide_eq_false hc
          have hR2l : R2.length = i + 1 := by rw [← ht1, List.length_set, hl1]
          obtain ⟨a, q0, e⟩ := row_ne hR2l
          have e2 := stop (k + 1) (by omega) ht1
          repeat' (first | refine qW _ rfl rfl rfl rfl rfl rfl x1 rfl ?_ | refine zS rfl ?_ | refine qA ?_ | refine qB rfl ?_ | refine qC (by kernel_rfl) ?_ | refine qD ?_ | refine qE ?_ | refine qF ?_ | refine qG ?_ | refine qH rfl ?_ | refine qZ _ rfl rfl rfl rfl rfl rfl x2 rfl rfl rfl ?_ | refine qP rfl rfl rfl rfl rfl rfl b14 (q) ?_ | (refine qS rfl ?_ ?_; (rw [hL1]; omega)) | refine zT rfl ?_ | refine zU rfl ?_ | refine qL rfl rfl ?_ | refine qM rfl rfl rfl ?_ | refine qO rfl rfl rfl ?_ | refine zX rfl rfl rfl rfl ?_ | refine zW rfl rfl rfl rfl ?_ | (refine qY rfl rfl rfl rfl ?_ ?_ <;> intro _) | exact zD | exact zL)
          refine go_stop ?_
          refine ⟨⟨i + 1, R2, by omega, hR2l, ht⟩, by dsimp only; omega, ?_⟩
          show Le _ ⟨_, [.row 23 1 (((l1.map encRw).set ((k + 1 : Nat) : Int).toNat (subD (encRw (atS l1 (k + 1))) 0 (encRw x))))]⟩ _
          rw [e2, e]
          exact (zle 1)
  · have g1 : decide ((i : Int) < ((Val.encR l).length : Int)) = false := by rw [hle]; simp; omega
    rw [List.drop_eq_nil_of_le hge] at ht
    simp only [rsF] at ht
    rw [ht]
    generalize R.map encRw = out at *
    match out with
    | [] =>
      dsimp only [rowX, rowO]
      repeat' (first | refine zS rfl ?_ | refine qA ?_ | refine qB rfl ?_ | refine qC (by kernel_rfl) ?_ | refine qD ?_ | refine qE ?_ | refine qF ?_ | refine qG ?_ | refine qH rfl ?_ | refine zT rfl ?_ | refine zU rfl ?_ | refine qL rfl rfl ?_ | refine qM rfl rfl rfl ?_ | refine qO rfl rfl rfl ?_ | refine zX rfl rfl rfl rfl ?_ | refine zW rfl rfl rfl rfl ?_ | (refine qY rfl rfl rfl rfl ?_ ?_ <;> intro _) | exact zD | exact zL)
    | a :: q =>
      dsimp only [rowX, rowO]
      refine qA ?_
      refine go_frz 0 rfl ?_
      repeat' (first | refine zS rfl ?_ | refine qA ?_ | refine qB rfl ?_ | refine qC (by kernel_rfl) ?_ | refine qD ?_ | refine qE ?_ | refine qF ?_ | refine qG ?_ | refine qH rfl ?_ | refine zT rfl ?_ | refine zU rfl ?_ | refine qL rfl rfl ?_ | refine qM rfl rfl rfl ?_ | refine qO rfl rfl rfl ?_ | refine zX rfl rfl rfl rfl ?_ | refine zW rfl rfl rfl rfl ?_ | (refine qY rfl rfl rfl rfl ?_ ?_ <;> intro _) | exact zD | exact zL)
end Go.Proofs.YtjgmakalledclaaGreatDoor
