/- The library's stable sort of a row of the caller's, walked: elements of type graphdb/api.Row; The library's stable sort of a row of the caller's, walked (its merge in place): elements of type graphdb/api.Row; The library's stable sort of a row of the caller's, walked (as a whole): elements of type graphdb/api.Row; Rows of values: their order, both texts; the program's sort of rows; Rows of values: the specification's sort; the same rows and the same bags, both texts. Conditions: each part's own, as it says. -/
import Derived.Test.YtjgmakalledclaaGreatDoorMC
import Derived.Test.YtjgmakalledclaaGreatDoorGC
import Derived.Test.YtjgmakalledclaaGreatDoorMB
set_option linter.unusedVariables false
set_option linter.unusedSimpArgs false
namespace Go.Proofs.YtjgmakalledclaaGreatDoor
set_option maxRecDepth 4000
open Go Go.Abs Go.Val Go.RowKit Go.Proofs.Tryz
attribute [local irreducible] go SGo HasBody Ev ExtEv EvO EvS RGo
def encRw (r : List V) : D := .sl (encL r)
theorem subR : ∀ x y : (List V), subD (encRw x) 0 (encRw y) = encRw y := fun x y => rfl
theorem swpR_evS (fn : FuncId) (l : List (List V)) (a b n : Nat) {A B K : Int} (hA : A = a) (hB : B = b) (hK : K = n) (h1 : a + n ≤ l.length) (h2 : b + n ≤ l.length) (hm : l.length ≤ 1152921504606846976) :
  EvS E 220 [.own 0, .d (.int A), .d (.int B), .d (.int K), .d (.imm (.func (.func fn) #[] #[]))] [.row 23 1 (l.map encRw)] (.tup []) [.row 23 1 ((swR a b n 0 l).map encRw)] := by
 subst hA hB hK
 refine yn func220 ntmps220 fun _ _ _ _=>?_
 repeat' (refine yz ?_)
 refine go_loop_ (α := SwT l a b n) (fun p => ⟨[(0, .own 0), (1, .d (.int a)), (2, .d (.int b)), (3, .d (.int n)), (10, .d (.int p.i))], [.row 23 1 (p.l1.map encRw)]⟩) (fun p => n - p.i) ⟨0, l, rfl, by omega, rfl⟩ (zle 1) ?_
 rintro ⟨i, l', hl, hi, ht⟩
 dsimp only
 have hL : (l'.map encRw).length = l'.length := by simp
 rcases Nat.lt_or_ge i n with hlt | hge
 ·have g : decide ((i : Int) < (n : Int)) = true := by simpa using hlt
  have x1 := row_get (en := encRw) (l := l') (i := (a : Int) + (i : Int)) (p := a + i) (by omega) (by omega)
  have x2 := row_get (en := encRw) (l := l') (i := (b : Int) + (i : Int)) (p := b + i) (by omega) (by omega)
  have x3 := sw_get2 subR (l := l') (i := (a : Int) + (i : Int)) (j := (b : Int) + (i : Int)) (p := a + i) (q := b + i) (by omega) (by omega) (by omega) (by omega)
  have e := sw_row subR (l := l') (i := (a : Int) + (i : Int)) (j := (b : Int) + (i : Int)) (p := a + i) (q := b + i) (by omega) (by omega)
  have hL2 : ((l'.map encRw).set ((a : Int) + (i : Int)).toNat (subD (encRw (atS l' (a + i))) 0 (encRw (atS l' (b + i))))).length = l'.length := by simp
  repeat' (first | refine yl x2 ?_ | refine yl x1 ?_ | refine yu 3 [21,23] [0] ?_ | refine yf 3 0 4 ?_ | refine yk 3 4 4 ?_ | refine yf 3 8 13 ?_ | refine yw ?_ | refine yf 3 22 1 ?_ | refine rgN ?_ | refine yv ?_ | refine yz ?_)
  refine go_stop ?_
  refine ⟨⟨i + 1, swS l' (a + i) (b + i), by rw [swS_len]; exact hl, by omega, by rw [← ht]; conv => rhs; rw [swR, if_pos hlt]⟩, by dsimp only; omega, ?_⟩
  show Le _ ⟨_, [.row 23 1 (((l'.map encRw).set ((a : Int) + (i : Int)).toNat (subD (encRw (atS l' (a + i))) 0 (encRw (atS l' (b + i))))).set ((b : Int) + (i : Int)).toNat (subD (encRw (atS l' (b + i))) 0 (encRw (atS l' (a + i)))))]⟩ _
  rw [e]
  exact (zle 1)
 ·have g : decide ((i : Int) < (n : Int)) = false := by simpa using hge
  have e0 : swR a b n i l' = l' := by rw [swR, if_neg (by omega)]
  rw [e0] at ht
  subst ht
  repeat' (first | refine yz ?_ | refine yo [0])
theorem rotR_evS (fn : FuncId) (l : List (List V)) (a m b : Nat) {A M B : Int} (hA : A = a) (hM : M = m) (hB : B = b) (h1 : a < m) (h2 : m < b) (h3 : b ≤ l.length) (hm : l.length ≤ 1152921504606846976) :
  EvS E 179 [.own 0, .d (.int A), .d (.int M), .d (.int B), .d (.imm (.func (.func fn) #[] #[]))] [.row 23 1 (l.map encRw)] (.tup []) [.row 23 1 ((rotL m (m - a) (b - m) l).map encRw)] := by
 subst hA hM hB
 refine yn func179 ntmps179 fun _ _ _ _=>?_
 repeat' (refine yz ?_)
 refine go_loop_ (α := RoZ l m (rotL m (m - a) (b - m) l)) (fun p => ⟨[(0, .own 0), (2, .d (.int m)), (4, .d (.imm (.func (.func fn) #[] #[]))), (10, .d (.int p.i)), (11, .d (.int p.j))], [.row 23 1 (p.l1.map encRw)]⟩) (fun p => p.i.toNat + p.j.toNat) ⟨(m : Int) - a, (b : Int) - m, l, rfl, by omega, by omega, by omega, by omega, by rw [show ((m : Int) - a).toNat = m - a by omega, show ((b : Int) - m).toNat = b - m by omega]⟩ (zle 1) ?_
 rintro ⟨i, j, l', hl, hi, hj, him, hjm, ht⟩
 dsimp only
 cases hne : (i != j) with
 | false =>
  have hij : i = j := by simpa using hne
  have q := swpR_evS fn l' (m - i.toNat) m i.toNat (A := (m : Int) - i) (B := m) (K := i) (by omega) rfl (by omega) (by omega) (by omega) (by omega)
  have e : rotL m i.toNat j.toNat l' = swR (m - i.toNat) m i.toNat 0 l' := by rw [rotL, if_neg (by omega), if_neg (by omega)]
  rw [← ht, e]
  repeat' (first | refine yz ?_ | refine yc [0] b220 (q) ?_ | refine yo [0])
 | true =>
  have hij : i ≠ j := by simpa using hne
  by_cases hgt : j < i
  ·have g := yT (i > j) hgt
   have q := swpR_evS fn l' (m - i.toNat) m j.toNat (A := (m : Int) - i) (B := m) (K := j) (by omega) rfl (by omega) (by omega) (by omega) (by omega)
   have e : rotL m i.toNat j.toNat l' = rotL m (i - j).toNat j.toNat (swR (m - i.toNat) m j.toNat 0 l') := by
    conv => lhs; rw [rotL, if_pos (by omega)]
    rw [show (i - j).toNat = i.toNat - j.toNat by omega]
   repeat' (first | refine yz ?_ | refine yc [0] b220 (q) ?_)
   refine go_stop ?_
   exact ⟨⟨i - j, j, swR (m - i.toNat) m j.toNat 0 l', by rw [swR_len]; exact hl, by omega, hj, by omega, hjm, by rw [← ht, e]⟩, by dsimp only; omega, (zle 1)⟩
  ·have g := yF (i > j) hgt
   have q := swpR_evS fn l' (m - i.toNat) (m + j.toNat - i.toNat) i.toNat (A := (m : Int) - i) (B := (m : Int) + j - i) (K := i) (by omega) (by omega) (by omega) (by omega) (by omega) (by omega)
   have e : rotL m i.toNat j.toNat l' = rotL m i.toNat (j - i).toNat (swR (m - i.toNat) (m + j.toNat - i.toNat) i.toNat 0 l') := by
    conv => lhs; rw [rotL, if_neg (by omega), if_pos (by omega)]
    rw [show (j - i).toNat = j.toNat - i.toNat by omega]
   repeat' (first | refine yz ?_ | refine yc [0] b220 (q) ?_)
   refine go_stop ?_
   exact ⟨⟨i, j - i, swR (m - i.toNat) (m + j.toNat - i.toNat) i.toNat 0 l', by rw [swR_len]; exact hl, hi, by omega, him, by omega, by rw [← ht, e]⟩, by dsimp only; omega, (zle 1)⟩
set_option maxHeartbeats 2000000 in
theorem insR_evS (fn : FuncId) (hb : HasBody E fn) (c : (List V) → (List V) → Int) (hcmp : ∀ x y, Ev E fn [encRw x, encRw y] (.d (.int (c x y)))) (l : List (List V)) (a b : Nat) {A B : Int} (hA : A = a) (hB : B = b) (h2 : b ≤ l.length) (h1 : a ≤ l.length) (hm : l.length ≤ 1152921504606846976) :
  EvS E 130 [.own 0, .d (.int A), .d (.int B), .d (.imm (.func (.func fn) #[] #[]))] [.row 23 1 (l.map encRw)] (.tup []) [.row 23 1 ((insF c a b l).map encRw)] := by
 subst hA hB
 refine yn func130 ntmps130 fun _ _ _ _=>?_
 repeat' (refine yz ?_)
 refine go_loop_ (α := InIZ c l a b) (fun p => ⟨[(0, .own 0), (1, .d (.int a)), (2, .d (.int b)), (3, .d (.imm (.func (.func fn) #[] #[]))), (8, .d (.int p.i))], [.row 23 1 (p.l1.map encRw)]⟩) (fun p => b - p.i) ⟨a + 1, l, rfl, Nat.le_refl _, rfl⟩ (zle 1) ?_
 rintro ⟨i, l1, hl, hi, ht⟩
 dsimp only
 rcases Nat.lt_or_ge i b with hlt | hge
 ·have g : decide ((i : Int) < (b : Int)) = true := by simpa using hlt
  have ht2 : insI c a (b - (i + 1)) (i + 1) (insJ c a i l1) = insF c a b l := by rw [← ht, show b - i = (b - (i + 1)) + 1 by omega]; rfl
  repeat' (refine yz ?_)
  refine go_loop_ (α := InJZ c l a i (insJ c a i l1)) (fun p => ⟨[(0, .own 0), (1, .d (.int a)), (2, .d (.int b)), (3, .d (.imm (.func (.func fn) #[] #[]))), (8, .d (.int i)), (9, .d (.int p.j))], [.row 23 1 (p.l1.map encRw)]⟩) (fun p => p.j.toNat) ⟨i, l1, hl, Int.le_refl _, by omega, rfl⟩ (zle 1) ?_
  rintro ⟨j, l', hl', hj, ha, htj⟩
  dsimp only
  by_cases hja : (a : Int) < j
  ·have g1 := yT (j > (a : Int)) hja
   have hL : (l'.map encRw).length = l'.length := by simp
   have x1 := row_get (en := encRw) (l := l') (i := j) (p := j.toNat) (by omega) rfl
   have x2 := row_get (en := encRw) (l := l') (i := j - 1) (p := j.toNat - 1) (by omega) (by omega)
   have q := hcmp (atS l' j.toNat) (atS l' (j.toNat - 1))
   by_cases hc : c (atS l' j.toNat) (atS l' (j.toNat - 1)) < 0
   ·have g2 := yT (c (atS l' j.toNat) (atS l' (j.toNat - 1)) < 0) hc
    have x3 := sw_get2 subR (l := l') (i := j) (j := j - 1) (p := j.toNat) (q := j.toNat - 1) (by omega) (by omega) rfl (by omega)
    have e := sw_row subR (l := l') (i := j) (j := j - 1) (p := j.toNat) (q := j.toNat - 1) rfl (by omega)
    have hL2 : ((l'.map encRw).set j.toNat (subD (encRw (atS l' j.toNat)) 0 (encRw (atS l' (j.toNat - 1))))).length = l'.length := by simp
    repeat' (first | refine yl x1 ?_ | refine yl x2 ?_ | refine yu 6 [15,17] [0] ?_ | refine yf 6 0 2 ?_ | refine yk 6 2 3 ?_ | refine yf 6 5 10 ?_ | refine yw ?_ | refine yf 6 16 1 ?_ | refine rgN ?_ | refine yv ?_ | refine yz ?_ | refine yp hb q ?_ | refine yx ?_)
    refine go_stop ?_
    refine ⟨⟨j - 1, swS l' j.toNat (j.toNat - 1), by rw [swS_len]; exact hl', by omega, by omega, by rw [← htj, show (j - 1).toNat = j.toNat - 1 by omega]; exact (insJ_go (by omega) hc).symm⟩, by dsimp only; omega, ?_⟩
    show Le _ ⟨_, [.row 23 1 (((l'.map encRw).set j.toNat (subD (encRw (atS l' j.toNat)) 0 (encRw (atS l' (j.toNat - 1))))).set (j - 1).toNat (subD (encRw (atS l' (j.toNat - 1))) 0 (encRw (atS l' j.toNat))))]⟩ _
    rw [e]
    exact (zle 1)
   ·have g2 := yF (c (atS l' j.toNat) (atS l' (j.toNat - 1)) < 0) hc
    have e : insJ c a j.toNat l' = l' := insJ_end (fun h => hc h.2)
    rw [e] at htj
    repeat' (first | refine yl x1 ?_ | refine yl x2 ?_ | refine yz ?_ | refine yp hb q ?_ | refine yx ?_)
    refine go_stop ?_
    exact ⟨⟨i + 1, l', hl', by omega, by rw [htj]; exact ht2⟩, by dsimp only; omega, (zle 1)⟩
  ·have g1 := yF (j > (a : Int)) hja
   have e : insJ c a j.toNat l' = l' := insJ_end (fun h => by omega)
   rw [e] at htj
   repeat' (first | refine yz ?_ | refine yx ?_)
   refine go_stop ?_
   exact ⟨⟨i + 1, l', hl', by omega, by rw [htj]; exact ht2⟩, by dsimp only; omega, (zle 1)⟩
 ·have g : decide ((i : Int) < (b : Int)) = false := by simpa using hge
  rw [show b - i = 0 by omega] at ht
  have ht' : l1 = insF c a b l := ht
  rw [← ht']
  repeat' (first | refine yz ?_ | refine yo [0])
set_option maxHeartbeats 4000000 in
theorem symR_evS (fn : FuncId) (hb : HasBody E fn) (c : (List V) → (List V) → Int) (hcmp : ∀ x y, Ev E fn [encRw x, encRw y] (.d (.int (c x y)))) : ∀ (n : Nat) (l : List (List V)) (a m b : Nat) {A M B : Int} (_ : A = a) (_ : M = m) (_ : B = b) (_ : b - a ≤ n) (_ : a < m) (_ : m < b) (_ : b ≤ l.length) (_ : l.length ≤ 1152921504606846976),
  EvS E 131 [.own 0, .d (.int A), .d (.int M), .d (.int B), .d (.imm (.func (.func fn) #[] #[]))] [.row 23 1 (l.map encRw)] (.tup []) [.row 23 1 ((symM c n a m b l).map encRw)]
 | 0, l, a, m, b, A, M, B, hA, hM, hB, h0, h1, h2, h3, hm => by omega
 | n + 1, l, a, m, b, A, M, B, hA, hM, hB, h0, h1, h2, h3, hm => by
  subst hA hM hB
  have hL : (l.map encRw).length = l.length := by simp
  by_cases e1 : m - a = 1
  ·have g0 : ((m : Int) - (a : Int) == 1) = true := by simp; omega
   have eR : symM c (n + 1) a m b l = mvU (bsF (fun h => decide (c (atS l h) (atS l a) < 0)) m b - 1) a l := by simp only [symM]; rw [if_pos e1]
   rw [eR]
   have hR0 := bsF_ok (fun h => decide (c (atS l h) (atS l a) < 0)) m b (by omega)
   generalize hR : bsF (fun h => decide (c (atS l h) (atS l a) < 0)) m b = R at hR0
   obtain ⟨hR1, hR2, -, -⟩ := hR0
   refine yn func131 ntmps131 fun _ _ _ _=>?_
   repeat' (refine yz ?_)
   refine go_loop_ (α := BsZ (fun h => decide (c (atS l h) (atS l a) < 0)) m b R) (fun p => ⟨[(0, .own 0), (1, .d (.int a)), (4, .d (.imm (.func (.func fn) #[] #[]))), (10, .d (.int p.i)), (11, .d (.int p.j))], [.row 23 1 (l.map encRw)]⟩) (fun p => (p.j - p.i).toNat) ⟨m, b, Int.le_refl _, by omega, Int.le_refl _, hR⟩ (zle 1) ?_
   rintro ⟨i, j, hi, hij, hj, ht⟩
   dsimp only
   by_cases hlt : i < j
   ·have g1 := yT (i < j) hlt
    have x1 := row_get (en := encRw) (l := l) (i := (i + j) / 2) (p := (i.toNat + j.toNat) / 2) (by omega) (by omega)
    have x2 := row_get (en := encRw) (l := l) (i := (a : Int)) (p := a) (by omega) (by omega)
    have q := hcmp (atS l ((i.toNat + j.toNat) / 2)) (atS l a)
    rw [bsF, if_pos (by omega)] at ht
    by_cases hc : c (atS l ((i.toNat + j.toNat) / 2)) (atS l a) < 0
    ·have g2 := yT (c (atS l ((i.toNat + j.toNat) / 2)) (atS l a) < 0) hc
     rw [g2, cond_true] at ht
     repeat' (first | refine go_half _ rfl rfl rfl rfl rfl rfl rfl (by omega) (by omega) ?_ | refine yl x1 ?_ | refine yl x2 ?_ | refine yz ?_ | refine yp hb q ?_)
     refine go_stop ?_
     exact ⟨⟨(i + j) / 2 + 1, j, by omega, by omega, hj, by rw [← ht, show ((i + j) / 2 + 1).toNat = (i.toNat + j.toNat) / 2 + 1 by omega]⟩, by dsimp only; omega, (zle 1)⟩
    ·have g2 := yF (c (atS l ((i.toNat + j.toNat) / 2)) (atS l a) < 0) hc
     rw [g2, cond_false] at ht
     repeat' (first | refine go_half _ rfl rfl rfl rfl rfl rfl rfl (by omega) (by omega) ?_ | refine yl x1 ?_ | refine yl x2 ?_ | refine yz ?_ | refine yp hb q ?_)
     refine go_stop ?_
     exact ⟨⟨i, (i + j) / 2, hi, by omega, by omega, by rw [← ht, show ((i + j) / 2).toNat = (i.toNat + j.toNat) / 2 by omega]⟩, by dsimp only; omega, (zle 1)⟩
   ·have g1 := yF (i < j) hlt
    rw [bsF, if_neg (by omega)] at ht
    repeat' (refine yz ?_)
    refine go_loop_ (α := MuZ l a (R - 1) (mvU (R - 1) a l)) (fun p => ⟨[(0, .own 0), (10, .d (.int i)), (13, .d (.int p.k))], [.row 23 1 (p.l1.map encRw)]⟩) (fun p => R - p.k) ⟨a, l, rfl, Nat.le_refl _, by omega, rfl⟩ (zle 1) ?_
    rintro ⟨k, l', hl, hk, hke, ht2⟩
    dsimp only
    have hL' : (l'.map encRw).length = l'.length := by simp
    by_cases hk2 : k < R - 1
    ·have g3 := yT ((k : Int) < i - 1) (by omega)
     have x1 := row_get (en := encRw) (l := l') (i := (k : Int)) (p := k) (by omega) (by omega)
     have x2 := row_get (en := encRw) (l := l') (i := (k : Int) + 1) (p := k + 1) (by omega) (by omega)
     have x3 := sw_get2 subR (l := l') (i := (k : Int)) (j := (k : Int) + 1) (p := k) (q := k + 1) (by omega) (by omega) (by omega) (by omega)
     have e := sw_row subR (l := l') (i := (k : Int)) (j := (k : Int) + 1) (p := k) (q := k + 1) (by omega) (by omega)
     have hL2 : ((l'.map encRw).set ((k : Int)).toNat (subD (encRw (atS l' k)) 0 (encRw (atS l' (k + 1))))).length = l'.length := by simp
     repeat' (first | refine yl x1 ?_ | refine yl x2 ?_ | refine yu 11 [15,17] [0] ?_ | refine yf 11 0 2 ?_ | refine yk 11 2 3 ?_ | refine yf 11 5 10 ?_ | refine yw ?_ | refine yf 11 16 1 ?_ | refine rgN ?_ | refine yv ?_ | refine yz ?_)
     refine go_stop ?_
     refine ⟨⟨k + 1, swS l' k (k + 1), by rw [swS_len]; exact hl, by omega, by omega, by rw [← ht2]; conv => rhs; rw [mvU, if_pos hk2]⟩, by dsimp only; omega, ?_⟩
     show Le _ ⟨_, [.row 23 1 (((l'.map encRw).set ((k : Int)).toNat (subD (encRw (atS l' k)) 0 (encRw (atS l' (k + 1))))).set ((k : Int) + 1).toNat (subD (encRw (atS l' (k + 1))) 0 (encRw (atS l' k))))]⟩ _
     rw [e]
     exact (zle 1)
    ·have g3 := yF ((k : Int) < i - 1) (by omega)
     rw [mvU, if_neg hk2] at ht2
     rw [← ht2]
     repeat' (first | refine yz ?_ | refine retS0 [0] rfl rfl rfl rfl)
  ·have g0 : ((m : Int) - (a : Int) == 1) = false := by simp; omega
   by_cases e2 : b - m = 1
   ·have g00 : ((b : Int) - (m : Int) == 1) = true := by simp; omega
    have eR : symM c (n + 1) a m b l = mvD (bsF (fun h => !decide (c (atS l m) (atS l h) < 0)) a m) m l := by simp only [symM]; rw [if_neg e1, if_pos e2]
    rw [eR]
    have hR0 := bsF_ok (fun h => !decide (c (atS l m) (atS l h) < 0)) a m (by omega)
    generalize hR : bsF (fun h => !decide (c (atS l m) (atS l h) < 0)) a m = R at hR0
    obtain ⟨hR1, hR2, -, -⟩ := hR0
    refine yn func131 ntmps131 fun _ _ _ _=>?_
    repeat' (refine yz ?_)
    refine go_loop_ (α := BsZ (fun h => !decide (c (atS l m) (atS l h) < 0)) a m R) (fun p => ⟨[(0, .own 0), (2, .d (.int m)), (4, .d (.imm (.func (.func fn) #[] #[]))), (14, .d (.int p.i)), (15, .d (.int p.j))], [.row 23 1 (l.map encRw)]⟩) (fun p => (p.j - p.i).toNat) ⟨a, m, Int.le_refl _, by omega, Int.le_refl _, hR⟩ (zle 1) ?_
    rintro ⟨i, j, hi, hij, hj, ht⟩
    dsimp only
    by_cases hlt : i < j
    ·have g1 := yT (i < j) hlt
     have x1 := row_get (en := encRw) (l := l) (i := (i + j) / 2) (p := (i.toNat + j.toNat) / 2) (by omega) (by omega)
     have x2 := row_get (en := encRw) (l := l) (i := (m : Int)) (p := m) (by omega) (by omega)
     have q := hcmp (atS l m) (atS l ((i.toNat + j.toNat) / 2))
     rw [bsF, if_pos (by omega)] at ht
     by_cases hc : c (atS l m) (atS l ((i.toNat + j.toNat) / 2)) < 0
     ·have g2 := yT (c (atS l m) (atS l ((i.toNat + j.toNat) / 2)) < 0) hc
      rw [g2, Bool.not_true, cond_false] at ht
      have g9 : (!decide (c (atS l m) (atS l ((i.toNat + j.toNat) / 2)) < 0)) = false := by rw [g2]; rfl
      repeat' (first | refine go_half _ rfl rfl rfl rfl rfl rfl rfl (by omega) (by omega) ?_ | refine yl x1 ?_ | refine yl x2 ?_ | refine yz ?_ | refine yp hb q ?_)
      refine go_stop ?_
      exact ⟨⟨i, (i + j) / 2, hi, by omega, by omega, by rw [← ht, show ((i + j) / 2).toNat = (i.toNat + j.toNat) / 2 by omega]⟩, by dsimp only; omega, (zle 1)⟩
     ·have g2 := yF (c (atS l m) (atS l ((i.toNat + j.toNat) / 2)) < 0) hc
      rw [g2, Bool.not_false, cond_true] at ht
      have g9 : (!decide (c (atS l m) (atS l ((i.toNat + j.toNat) / 2)) < 0)) = true := by rw [g2]; rfl
      repeat' (first | refine go_half _ rfl rfl rfl rfl rfl rfl rfl (by omega) (by omega) ?_ | refine yl x1 ?_ | refine yl x2 ?_ | refine yz ?_ | refine yp hb q ?_)
      refine go_stop ?_
      exact ⟨⟨(i + j) / 2 + 1, j, by omega, by omega, hj, by rw [← ht, show ((i + j) / 2 + 1).toNat = (i.toNat + j.toNat) / 2 + 1 by omega]⟩, by dsimp only; omega, (zle 1)⟩
    ·have g1 := yF (i < j) hlt
     rw [bsF, if_neg (by omega)] at ht
     repeat' (refine yz ?_)
     refine go_loop_ (α := MdZ l R m (mvD R m l)) (fun p => ⟨[(0, .own 0), (14, .d (.int i)), (17, .d (.int p.k))], [.row 23 1 (p.l1.map encRw)]⟩) (fun p => p.k.toNat) ⟨m, l, rfl, Int.le_refl _, by omega, rfl⟩ (zle 1) ?_
     rintro ⟨k, l', hl, hk, hki, ht2⟩
     dsimp only
     have hL' : (l'.map encRw).length = l'.length := by simp
     by_cases hk2 : R < k.toNat
     ·have g3 := yT (k > i) (by omega)
      have x1 := row_get (en := encRw) (l := l') (i := k) (p := k.toNat) (by omega) rfl
      have x2 := row_get (en := encRw) (l := l') (i := k - 1) (p := k.toNat - 1) (by omega) (by omega)
      have x3 := sw_get2 subR (l := l') (i := k) (j := k - 1) (p := k.toNat) (q := k.toNat - 1) (by omega) (by omega) rfl (by omega)
      have e := sw_row subR (l := l') (i := k) (j := k - 1) (p := k.toNat) (q := k.toNat - 1) rfl (by omega)
      have hL2 : ((l'.map encRw).set k.toNat (subD (encRw (atS l' k.toNat)) 0 (encRw (atS l' (k.toNat - 1))))).length = l'.length := by simp
      repeat' (first | refine yl x1 ?_ | refine yl x2 ?_ | refine yu 23 [15,17] [0] ?_ | refine yf 23 0 2 ?_ | refine yk 23 2 3 ?_ | refine yf 23 5 10 ?_ | refine yw ?_ | refine yf 23 16 1 ?_ | refine rgN ?_ | refine yv ?_ | refine yz ?_)
      refine go_stop ?_
      refine ⟨⟨k - 1, swS l' k.toNat (k.toNat - 1), by rw [swS_len]; exact hl, by omega, by omega, by rw [← ht2, show (k - 1).toNat = k.toNat - 1 by omega]; exact (mvD_go hk2).symm⟩, by dsimp only; omega, ?_⟩
      show Le _ ⟨_, [.row 23 1 (((l'.map encRw).set k.toNat (subD (encRw (atS l' k.toNat)) 0 (encRw (atS l' (k.toNat - 1))))).set (k - 1).toNat (subD (encRw (atS l' (k.toNat - 1))) 0 (encRw (atS l' k.toNat))))]⟩ _
      rw [e]
      exact (zle 1)
     ·have g3 := yF (k > i) (by omega)
      rw [mvD_end hk2] at ht2
      rw [← ht2]
      repeat' (first | refine yz ?_ | refine retS0 [0] rfl rfl rfl rfl)
   ·have g00 : ((b : Int) - (m : Int) == 1) = false := by simp; omega
    obtain ⟨mid, hmid⟩ : ∃ mid, mid = (a + b) / 2 := ⟨_, rfl⟩
    have eh : ((a : Int) + (b : Int)) / 2 = (mid : Int) := by omega
    rw [symM_big e1 e2 hmid]
    have hs : ∀ s0 r0 : Nat, symS c a m b l = bsF (fun h => !decide (c (atS l (mid + m - 1 - h)) (atS l h) < 0)) s0 r0 → s0 ≤ r0 → s0 ≤ symS c a m b l ∧ symS c a m b l ≤ r0 := by
     intro s0 r0 h hle
     rw [h]
     have := bsF_ok (fun h => !decide (c (atS l (mid + m - 1 - h)) (atS l h) < 0)) s0 r0 hle
     exact ⟨this.1, this.2.1⟩
    by_cases hmm : m > mid
    ·have gm := yT ((m : Int) > (mid : Int)) (by omega)
     have hS0 : symS c a m b l = bsF (fun h => !decide (c (atS l (mid + m - 1 - h)) (atS l h) < 0)) (mid + m - b) mid := by unfold symS; rw [← hmid, if_pos hmm, if_pos hmm]
     obtain ⟨hS1, hS2⟩ := hs _ _ hS0 (by omega)
     generalize symS c a m b l = S at hS0 hS1 hS2 hs ⊢
     refine yn func131 ntmps131 fun _ _ _ _=>?_
     repeat' (first | refine go_half _ rfl rfl rfl rfl rfl rfl eh (by omega) (by omega) ?_ | refine yz ?_)
     refine go_loop_ (α := BsZ (fun h => !decide (c (atS l (mid + m - 1 - h)) (atS l h) < 0)) ((mid : Int) + m - b) mid S) (fun p => ⟨[(0, .own 0), (1, .d (.int a)), (2, .d (.int m)), (3, .d (.int b)), (4, .d (.imm (.func (.func fn) #[] #[]))), (18, .d (.int mid)), (19, .d (.int ((mid : Int) + m))), (20, .d (.int p.i)), (21, .d (.int p.j)), (22, .d (.int ((mid : Int) + m - 1)))], [.row 23 1 (l.map encRw)]⟩) (fun p => (p.j - p.i).toNat) ⟨(mid : Int) + m - b, mid, Int.le_refl _, by omega, Int.le_refl _, by rw [hS0, show ((mid : Int) + m - b).toNat = mid + m - b by omega, Int.toNat_natCast]⟩ (zle 1) ?_
     rintro ⟨i, j, hi, hij, hj, ht⟩
     dsimp only
     by_cases hlt : i < j
     ·have g1 := yT (i < j) hlt
      have x1 := row_get (en := encRw) (l := l) (i := (mid : Int) + m - 1 - (i + j) / 2) (p := mid + m - 1 - (i.toNat + j.toNat) / 2) (by omega) (by omega)
      have x2 := row_get (en := encRw) (l := l) (i := (i + j) / 2) (p := (i.toNat + j.toNat) / 2) (by omega) (by omega)
      have q := hcmp (atS l (mid + m - 1 - (i.toNat + j.toNat) / 2)) (atS l ((i.toNat + j.toNat) / 2))
      rw [bsF, if_pos (by omega)] at ht
      by_cases hc : c (atS l (mid + m - 1 - (i.toNat + j.toNat) / 2)) (atS l ((i.toNat + j.toNat) / 2)) < 0
      ·have g2 := yT (c (atS l (mid + m - 1 - (i.toNat + j.toNat) / 2)) (atS l ((i.toNat + j.toNat) / 2)) < 0) hc
       rw [g2, Bool.not_true, cond_false] at ht
       have g9 : (!decide (c (atS l (mid + m - 1 - (i.toNat + j.toNat) / 2)) (atS l ((i.toNat + j.toNat) / 2)) < 0)) = false := by rw [g2]; rfl
       repeat' (first | refine go_half _ rfl rfl rfl rfl rfl rfl rfl (by omega) (by omega) ?_ | refine yl x1 ?_ | refine yl x2 ?_ | refine yz ?_ | refine yp hb q ?_)
       refine go_stop ?_
       exact ⟨⟨i, (i + j) / 2, hi, by omega, by omega, by rw [← ht, show ((i + j) / 2).toNat = (i.toNat + j.toNat) / 2 by omega]⟩, by dsimp only; omega, (zle 1)⟩
      ·have g2 := yF (c (atS l (mid + m - 1 - (i.toNat + j.toNat) / 2)) (atS l ((i.toNat + j.toNat) / 2)) < 0) hc
       rw [g2, Bool.not_false, cond_true] at ht
       have g9 : (!decide (c (atS l (mid + m - 1 - (i.toNat + j.toNat) / 2)) (atS l ((i.toNat + j.toNat) / 2)) < 0)) = true := by rw [g2]; rfl
       repeat' (first | refine go_half _ rfl rfl rfl rfl rfl rfl rfl (by omega) (by omega) ?_ | refine yl x1 ?_ | refine yl x2 ?_ | refine yz ?_ | refine yp hb q ?_)
       refine go_stop ?_
       exact ⟨⟨(i + j) / 2 + 1, j, by omega, by omega, hj, by rw [← ht, show ((i + j) / 2 + 1).toNat = (i.toNat + j.toNat) / 2 + 1 by omega]⟩, by dsimp only; omega, (zle 1)⟩
     ·have g1 := yF (i < j) hlt
      rw [bsF, if_neg (by omega)] at ht
      have hiS : i = (S : Int) := by omega
      subst hiS
      have ee : (mid : Int) + m - S = ((mid + m - S : Nat) : Int) := by omega
      have Q0 : S < m → S < mid → EvS E 179 [.own 0, .d (.int (S : Int)), .d (.int (m : Int)), .d (.int ((mid : Int) + m - S)), .d (.imm (.func (.func fn) #[] #[]))] [.row 23 1 (l.map encRw)] (.tup []) [.row 23 1 ((rotL m (m - S) (mid + m - S - m) l).map encRw)] := fun k1 k2 => rotR_evS fn l S m (mid + m - S) rfl rfl ee (by omega) (by omega) (by omega) hm
      have Q1 : ∀ l' : List (List V), l'.length = l.length → a < S → S < mid → EvS E 131 [.own 0, .d (.int (a : Int)), .d (.int (S : Int)), .d (.int (mid : Int)), .d (.imm (.func (.func fn) #[] #[]))] [.row 23 1 (l'.map encRw)] (.tup []) [.row 23 1 ((symM c n a S mid l').map encRw)] := fun l' e k3 k2 => symR_evS fn hb c hcmp n l' a S mid rfl rfl rfl (by omega) k3 k2 (by omega) (by omega)
      have Q2 : ∀ l' : List (List V), l'.length = l.length → S < m → mid + m - S < b → EvS E 131 [.own 0, .d (.int (mid : Int)), .d (.int ((mid : Int) + m - S)), .d (.int (b : Int)), .d (.imm (.func (.func fn) #[] #[]))] [.row 23 1 (l'.map encRw)] (.tup []) [.row 23 1 ((symM c n mid (mid + m - S) b l').map encRw)] := fun l' e k1 k4 => symR_evS fn hb c hcmp n l' mid (mid + m - S) b rfl ee rfl (by omega) (by omega) k4 (by omega) (by omega)
      by_cases k1 : S < m
      ·have k1d := yT ((S : Int) < (m : Int)) (by omega)
       have k1e := yT ((mid : Int) < (mid : Int) + m - S) (by omega)
       by_cases k2 : S < mid
       ·have k2d := yT ((S : Int) < (mid : Int)) (by omega)
        have k2e := yT ((m : Int) < (mid : Int) + m - S) (by omega)
        by_cases k3 : a < S
        ·have k3d := yT ((a : Int) < (S : Int)) (by omega)
         by_cases k4 : mid + m - S < b
         ·have k4d := yT ((mid : Int) + m - S < (b : Int)) (by omega)
          rw [symR, if_pos (by omega), symA, if_pos (by omega), symB, if_pos (by omega)]
          repeat' (first | refine yz ?_ | refine yc [0] b179 (Q0 k1 k2) ?_ | refine yc [0] b131 (Q1 _ (rotL_len _ _ _ _) k3 k2) ?_ | refine go_callS [0] rfl rfl rfl rfl (FnX.plain _) b131 ((Q2 _ (by rw [symM_len, rotL_len]) k1 k4)) rfl rfl rfl rfl rfl ?_ | refine endS0 [0] rfl rfl rfl rfl | refine yx ?_)
         ·have k4d := yF ((mid : Int) + m - S < (b : Int)) (by omega)
          rw [symR, if_pos (by omega), symA, if_pos (by omega), symB, if_neg (by omega)]
          repeat' (first | refine yz ?_ | refine yc [0] b179 (Q0 k1 k2) ?_ | refine yc [0] b131 (Q1 _ (rotL_len _ _ _ _) k3 k2) ?_ | refine endS0 [0] rfl rfl rfl rfl | refine yx ?_)
        ·have k3d := yF ((a : Int) < (S : Int)) (by omega)
         by_cases k4 : mid + m - S < b
         ·have k4d := yT ((mid : Int) + m - S < (b : Int)) (by omega)
          rw [symR, if_pos (by omega), symA, if_neg (by omega), symB, if_pos (by omega)]
          repeat' (first | refine yz ?_ | refine yc [0] b179 (Q0 k1 k2) ?_ | refine yc [0] b131 (Q2 _ (rotL_len _ _ _ _) k1 k4) ?_ | refine endS0 [0] rfl rfl rfl rfl | refine yx ?_)
         ·have k4d := yF ((mid : Int) + m - S < (b : Int)) (by omega)
          rw [symR, if_pos (by omega), symA, if_neg (by omega), symB, if_neg (by omega)]
          repeat' (first | refine yz ?_ | refine yc [0] b179 (Q0 k1 k2) ?_ | refine endS0 [0] rfl rfl rfl rfl | refine yx ?_)
       ·have k2d := yF ((S : Int) < (mid : Int)) (by omega)
        have k2e := yF ((m : Int) < (mid : Int) + m - S) (by omega)
        by_cases k3 : a < S
        ·have k3d := yT ((a : Int) < (S : Int)) (by omega)
         by_cases k4 : mid + m - S < b
         ·have k4d := yT ((mid : Int) + m - S < (b : Int)) (by omega)
          rw [symR, if_neg (by omega), symA, if_neg (by omega), symB, if_pos (by omega)]
          repeat' (first | refine yz ?_ | refine yc [0] b131 (Q2 _ rfl k1 k4) ?_ | refine endS0 [0] rfl rfl rfl rfl | refine yx ?_)
         ·have k4d := yF ((mid : Int) + m - S < (b : Int)) (by omega)
          rw [symR, if_neg (by omega), symA, if_neg (by omega), symB, if_neg (by omega)]
          repeat' (first | refine yz ?_ | refine endS0 [0] rfl rfl rfl rfl | refine yx ?_)
        ·have k3d := yF ((a : Int) < (S : Int)) (by omega)
         by_cases k4 : mid + m - S < b
         ·have k4d := yT ((mid : Int) + m - S < (b : Int)) (by omega)
          rw [symR, if_neg (by omega), symA, if_neg (by omega), symB, if_pos (by omega)]
          repeat' (first | refine yz ?_ | refine yc [0] b131 (Q2 _ rfl k1 k4) ?_ | refine endS0 [0] rfl rfl rfl rfl | refine yx ?_)
         ·have k4d := yF ((mid : Int) + m - S < (b : Int)) (by omega)
          rw [symR, if_neg (by omega), symA, if_neg (by omega), symB, if_neg (by omega)]
          repeat' (first | refine yz ?_ | refine endS0 [0] rfl rfl rfl rfl | refine yx ?_)
      ·have k1d := yF ((S : Int) < (m : Int)) (by omega)
       have k1e := yF ((mid : Int) < (mid : Int) + m - S) (by omega)
       by_cases k2 : S < mid
       ·have k2d := yT ((S : Int) < (mid : Int)) (by omega)
        have k2e := yT ((m : Int) < (mid : Int) + m - S) (by omega)
        by_cases k3 : a < S
        ·have k3d := yT ((a : Int) < (S : Int)) (by omega)
         by_cases k4 : mid + m - S < b
         ·have k4d := yT ((mid : Int) + m - S < (b : Int)) (by omega)
          rw [symR, if_neg (by omega), symA, if_pos (by omega), symB, if_neg (by omega)]
          repeat' (first | refine yz ?_ | refine yc [0] b131 (Q1 _ rfl k3 k2) ?_ | refine endS0 [0] rfl rfl rfl rfl | refine yx ?_)
         ·have k4d := yF ((mid : Int) + m - S < (b : Int)) (by omega)
          rw [symR, if_neg (by omega), symA, if_pos (by omega), symB, if_neg (by omega)]
          repeat' (first | refine yz ?_ | refine yc [0] b131 (Q1 _ rfl k3 k2) ?_ | refine endS0 [0] rfl rfl rfl rfl | refine yx ?_)
        ·have k3d := yF ((a : Int) < (S : Int)) (by omega)
         by_cases k4 : mid + m - S < b
         ·have k4d := yT ((mid : Int) + m - S < (b : Int)) (by omega)
          rw [symR, if_neg (by omega), symA, if_neg (by omega), symB, if_neg (by omega)]
          repeat' (first | refine yz ?_ | refine endS0 [0] rfl rfl rfl rfl | refine yx ?_)
         ·have k4d := yF ((mid : Int) + m - S < (b : Int)) (by omega)
          rw [symR, if_neg (by omega), symA, if_neg (by omega), symB, if_neg (by omega)]
          repeat' (first | refine yz ?_ | refine endS0 [0] rfl rfl rfl rfl | refine yx ?_)
       ·have k2d := yF ((S : Int) < (mid : Int)) (by omega)
        have k2e := yF ((m : Int) < (mid : Int) + m - S) (by omega)
        by_cases k3 : a < S
        ·have k3d := yT ((a : Int) < (S : Int)) (by omega)
         by_cases k4 : mid + m - S < b
         ·have k4d := yT ((mid : Int) + m - S < (b : Int)) (by omega)
          rw [symR, if_neg (by omega), symA, if_neg (by omega), symB, if_neg (by omega)]
          repeat' (first | refine yz ?_ | refine endS0 [0] rfl rfl rfl rfl | refine yx ?_)
         ·have k4d := yF ((mid : Int) + m - S < (b : Int)) (by omega)
          rw [symR, if_neg (by omega), symA, if_neg (by omega), symB, if_neg (by omega)]
          repeat' (first | refine yz ?_ | refine endS0 [0] rfl rfl rfl rfl | refine yx ?_)
        ·have k3d := yF ((a : Int) < (S : Int)) (by omega)
         by_cases k4 : mid + m - S < b
         ·have k4d := yT ((mid : Int) + m - S < (b : Int)) (by omega)
          rw [symR, if_neg (by omega), symA, if_neg (by omega), symB, if_neg (by omega)]
          repeat' (first | refine yz ?_ | refine endS0 [0] rfl rfl rfl rfl | refine yx ?_)
         ·have k4d := yF ((mid : Int) + m - S < (b : Int)) (by omega)
          rw [symR, if_neg (by omega), symA, if_neg (by omega), symB, if_neg (by omega)]
          repeat' (first | refine yz ?_ | refine endS0 [0] rfl rfl rfl rfl | refine yx ?_)
    ·have gm := yF ((m : Int) > (mid : Int)) (by omega)
     have hS0 : symS c a m b l = bsF (fun h => !decide (c (atS l (mid + m - 1 - h)) (atS l h) < 0)) a m := by unfold symS; rw [← hmid, if_neg hmm, if_neg hmm]
     obtain ⟨hS1, hS2⟩ := hs _ _ hS0 (by omega)
     generalize symS c a m b l = S at hS0 hS1 hS2 hs ⊢
     refine yn func131 ntmps131 fun _ _ _ _=>?_
     repeat' (first | refine go_half _ rfl rfl rfl rfl rfl rfl eh (by omega) (by omega) ?_ | refine yz ?_)
     refine go_loop_ (α := BsZ (fun h => !decide (c (atS l (mid + m - 1 - h)) (atS l h) < 0)) a m S) (fun p => ⟨[(0, .own 0), (1, .d (.int a)), (2, .d (.int m)), (3, .d (.int b)), (4, .d (.imm (.func (.func fn) #[] #[]))), (18, .d (.int mid)), (19, .d (.int ((mid : Int) + m))), (20, .d (.int p.i)), (21, .d (.int p.j)), (22, .d (.int ((mid : Int) + m - 1)))], [.row 23 1 (l.map encRw)]⟩) (fun p => (p.j - p.i).toNat) ⟨a, m, Int.le_refl _, by omega, Int.le_refl _, hS0.symm⟩ (zle 1) ?_
     rintro ⟨i, j, hi, hij, hj, ht⟩
     dsimp only
     by_cases hlt : i < j
     ·have g1 := yT (i < j) hlt
      have x1 := row_get (en := encRw) (l := l) (i := (mid : Int) + m - 1 - (i + j) / 2) (p := mid + m - 1 - (i.toNat + j.toNat) / 2) (by omega) (by omega)
      have x2 := row_get (en := encRw) (l := l) (i := (i + j) / 2) (p := (i.toNat + j.toNat) / 2) (by omega) (by omega)
      have q := hcmp (atS l (mid + m - 1 - (i.toNat + j.toNat) / 2)) (atS l ((i.toNat + j.toNat) / 2))
      rw [bsF, if_pos (by omega)] at ht
      by_cases hc : c (atS l (mid + m - 1 - (i.toNat + j.toNat) / 2)) (atS l ((i.toNat + j.toNat) / 2)) < 0
      ·have g2 := yT (c (atS l (mid + m - 1 - (i.toNat + j.toNat) / 2)) (atS l ((i.toNat + j.toNat) / 2)) < 0) hc
       rw [g2, Bool.not_true, cond_false] at ht
       have g9 : (!decide (c (atS l (mid + m - 1 - (i.toNat + j.toNat) / 2)) (atS l ((i.toNat + j.toNat) / 2)) < 0)) = false := by rw [g2]; rfl
       repeat' (first | refine go_half _ rfl rfl rfl rfl rfl rfl rfl (by omega) (by omega) ?_ | refine yl x1 ?_ | refine yl x2 ?_ | refine yz ?_ | refine yp hb q ?_)
       refine go_stop ?_
       exact ⟨⟨i, (i + j) / 2, hi, by omega, by omega, by rw [← ht, show ((i + j) / 2).toNat = (i.toNat + j.toNat) / 2 by omega]⟩, by dsimp only; omega, (zle 1)⟩
      ·have g2 := yF (c (atS l (mid + m - 1 - (i.toNat + j.toNat) / 2)) (atS l ((i.toNat + j.toNat) / 2)) < 0) hc
       rw [g2, Bool.not_false, cond_true] at ht
       have g9 : (!decide (c (atS l (mid + m - 1 - (i.toNat + j.toNat) / 2)) (atS l ((i.toNat + j.toNat) / 2)) < 0)) = true := by rw [g2]; rfl
       repeat' (first | refine go_half _ rfl rfl rfl rfl rfl rfl rfl (by omega) (by omega) ?_ | refine yl x1 ?_ | refine yl x2 ?_ | refine yz ?_ | refine yp hb q ?_)
       refine go_stop ?_
       exact ⟨⟨(i + j) / 2 + 1, j, by omega, by omega, hj, by rw [← ht, show ((i + j) / 2 + 1).toNat = (i.toNat + j.toNat) / 2 + 1 by omega]⟩, by dsimp only; omega, (zle 1)⟩
     ·have g1 := yF (i < j) hlt
      rw [bsF, if_neg (by omega)] at ht
      have hiS : i = (S : Int) := by omega
      subst hiS
      have ee : (mid : Int) + m - S = ((mid + m - S : Nat) : Int) := by omega
      have Q0 : S < m → S < mid → EvS E 179 [.own 0, .d (.int (S : Int)), .d (.int (m : Int)), .d (.int ((mid : Int) + m - S)), .d (.imm (.func (.func fn) #[] #[]))] [.row 23 1 (l.map encRw)] (.tup []) [.row 23 1 ((rotL m (m - S) (mid + m - S - m) l).map encRw)] := fun k1 k2 => rotR_evS fn l S m (mid + m - S) rfl rfl ee (by omega) (by omega) (by omega) hm
      have Q1 : ∀ l' : List (List V), l'.length = l.length → a < S → S < mid → EvS E 131 [.own 0, .d (.int (a : Int)), .d (.int (S : Int)), .d (.int (mid : Int)), .d (.imm (.func (.func fn) #[] #[]))] [.row 23 1 (l'.map encRw)] (.tup []) [.row 23 1 ((symM c n a S mid l').map encRw)] := fun l' e k3 k2 => symR_evS fn hb c hcmp n l' a S mid rfl rfl rfl (by omega) k3 k2 (by omega) (by omega)
      have Q2 : ∀ l' : List (List V), l'.length = l.length → S < m → mid + m - S < b → EvS E 131 [.own 0, .d (.int (mid : Int)), .d (.int ((mid : Int) + m - S)), .d (.int (b : Int)), .d (.imm (.func (.func fn) #[] #[]))] [.row 23 1 (l'.map encRw)] (.tup []) [.row 23 1 ((symM c n mid (mid + m - S) b l').map encRw)] := fun l' e k1 k4 => symR_evS fn hb c hcmp n l' mid (mid + m - S) b rfl ee rfl (by omega) (by omega) k4 (by omega) (by omega)
      by_cases k1 : S < m
      ·have k1d := yT ((S : Int) < (m : Int)) (by omega)
       have k1e := yT ((mid : Int) < (mid : Int) + m - S) (by omega)
       by_cases k2 : S < mid
       ·have k2d := yT ((S : Int) < (mid : Int)) (by omega)
        have k2e := yT ((m : Int) < (mid : Int) + m - S) (by omega)
        by_cases k3 : a < S
        ·have k3d := yT ((a : Int) < (S : Int)) (by omega)
         by_cases k4 : mid + m - S < b
         ·have k4d := yT ((mid : Int) + m - S < (b : Int)) (by omega)
          rw [symR, if_pos (by omega), symA, if_pos (by omega), symB, if_pos (by omega)]
          repeat' (first | refine yz ?_ | refine yc [0] b179 (Q0 k1 k2) ?_ | refine yc [0] b131 (Q1 _ (rotL_len _ _ _ _) k3 k2) ?_ | refine go_callS [0] rfl rfl rfl rfl (FnX.plain _) b131 ((Q2 _ (by rw [symM_len, rotL_len]) k1 k4)) rfl rfl rfl rfl rfl ?_ | refine endS0 [0] rfl rfl rfl rfl | refine yx ?_)
         ·have k4d := yF ((mid : Int) + m - S < (b : Int)) (by omega)
          rw [symR, if_pos (by omega), symA, if_pos (by omega), symB, if_neg (by omega)]
          repeat' (first | refine yz ?_ | refine yc [0] b179 (Q0 k1 k2) ?_ | refine yc [0] b131 (Q1 _ (rotL_len _ _ _ _) k3 k2) ?_ | refine endS0 [0] rfl rfl rfl rfl | refine yx ?_)
        ·have k3d := yF ((a : Int) < (S : Int)) (by omega)
         by_cases k4 : mid + m - S < b
         ·have k4d := yT ((mid : Int) + m - S < (b : Int)) (by omega)
          rw [symR, if_pos (by omega), symA, if_neg (by omega), symB, if_pos (by omega)]
          repeat' (first | refine yz ?_ | refine yc [0] b179 (Q0 k1 k2) ?_ | refine yc [0] b131 (Q2 _ (rotL_len _ _ _ _) k1 k4) ?_ | refine endS0 [0] rfl rfl rfl rfl | refine yx ?_)
         ·have k4d := yF ((mid : Int) + m - S < (b : Int)) (by omega)
          rw [symR, if_pos (by omega), symA, if_neg (by omega), symB, if_neg (by omega)]
          repeat' (first | refine yz ?_ | refine yc [0] b179 (Q0 k1 k2) ?_ | refine endS0 [0] rfl rfl rfl rfl | refine yx ?_)
       ·have k2d := yF ((S : Int) < (mid : Int)) (by omega)
        have k2e := yF ((m : Int) < (mid : Int) + m - S) (by omega)
        by_cases k3 : a < S
        ·have k3d := yT ((a : Int) < (S : Int)) (by omega)
         by_cases k4 : mid + m - S < b
         ·have k4d := yT ((mid : Int) + m - S < (b : Int)) (by omega)
          rw [symR, if_neg (by omega), symA, if_neg (by omega), symB, if_pos (by omega)]
          repeat' (first | refine yz ?_ | refine yc [0] b131 (Q2 _ rfl k1 k4) ?_ | refine endS0 [0] rfl rfl rfl rfl | refine yx ?_)
         ·have k4d := yF ((mid : Int) + m - S < (b : Int)) (by omega)
          rw [symR, if_neg (by omega), symA, if_neg (by omega), symB, if_neg (by omega)]
          repeat' (first | refine yz ?_ | refine endS0 [0] rfl rfl rfl rfl | refine yx ?_)
        ·have k3d := yF ((a : Int) < (S : Int)) (by omega)
         by_cases k4 : mid + m - S < b
         ·have k4d := yT ((mid : Int) + m - S < (b : Int)) (by omega)
          rw [symR, if_neg (by omega), symA, if_neg (by omega), symB, if_pos (by omega)]
          repeat' (first | refine yz ?_ | refine yc [0] b131 (Q2 _ rfl k1 k4) ?_ | refine endS0 [0] rfl rfl rfl rfl | refine yx ?_)
         ·have k4d := yF ((mid : Int) + m - S < (b : Int)) (by omega)
          rw [symR, if_neg (by omega), symA, if_neg (by omega), symB, if_neg (by omega)]
          repeat' (first | refine yz ?_ | refine endS0 [0] rfl rfl rfl rfl | refine yx ?_)
      ·have k1d := yF ((S : Int) < (m : Int)) (by omega)
       have k1e := yF ((mid : Int) < (mid : Int) + m - S) (by omega)
       by_cases k2 : S < mid
       ·have k2d := yT ((S : Int) < (mid : Int)) (by omega)
        have k2e := yT ((m : Int) < (mid : Int) + m - S) (by omega)
        by_cases k3 : a < S
        ·have k3d := yT ((a : Int) < (S : Int)) (by omega)
         by_cases k4 : mid + m - S < b
         ·have k4d := yT ((mid : Int) + m - S < (b : Int)) (by omega)
          rw [symR, if_neg (by omega), symA, if_pos (by omega), symB, if_neg (by omega)]
          repeat' (first | refine yz ?_ | refine yc [0] b131 (Q1 _ rfl k3 k2) ?_ | refine endS0 [0] rfl rfl rfl rfl | refine yx ?_)
         ·have k4d := yF ((mid : Int) + m - S < (b : Int)) (by omega)
          rw [symR, if_neg (by omega), symA, if_pos (by omega), symB, if_neg (by omega)]
          repeat' (first | refine yz ?_ | refine yc [0] b131 (Q1 _ rfl k3 k2) ?_ | refine endS0 [0] rfl rfl rfl rfl | refine yx ?_)
        ·have k3d := yF ((a : Int) < (S : Int)) (by omega)
         by_cases k4 : mid + m - S < b
         ·have k4d := yT ((mid : Int) + m - S < (b : Int)) (by omega)
          rw [symR, if_neg (by omega), symA, if_neg (by omega), symB, if_neg (by omega)]
          repeat' (first | refine yz ?_ | refine endS0 [0] rfl rfl rfl rfl | refine yx ?_)
         ·have k4d := yF ((mid : Int) + m - S < (b : Int)) (by omega)
          rw [symR, if_neg (by omega), symA, if_neg (by omega), symB, if_neg (by omega)]
          repeat' (first | refine yz ?_ | refine endS0 [0] rfl rfl rfl rfl | refine yx ?_)
       ·have k2d := yF ((S : Int) < (mid : Int)) (by omega)
        have k2e := yF ((m : Int) < (mid : Int) + m - S) (by omega)
        by_cases k3 : a < S
        ·have k3d := yT ((a : Int) < (S : Int)) (by omega)
         by_cases k4 : mid + m - S < b
         ·have k4d := yT ((mid : Int) + m - S < (b : Int)) (by omega)
          rw [symR, if_neg (by omega), symA, if_neg (by omega), symB, if_neg (by omega)]
          repeat' (first | refine yz ?_ | refine endS0 [0] rfl rfl rfl rfl | refine yx ?_)
         ·have k4d := yF ((mid : Int) + m - S < (b : Int)) (by omega)
          rw [symR, if_neg (by omega), symA, if_neg (by omega), symB, if_neg (by omega)]
          repeat' (first | refine yz ?_ | refine endS0 [0] rfl rfl rfl rfl | refine yx ?_)
        ·have k3d := yF ((a : Int) < (S : Int)) (by omega)
         by_cases k4 : mid + m - S < b
         ·have k4d := yT ((mid : Int) + m - S < (b : Int)) (by omega)
          rw [symR, if_neg (by omega), symA, if_neg (by omega), symB, if_neg (by omega)]
          repeat' (first | refine yz ?_ | refine endS0 [0] rfl rfl rfl rfl | refine yx ?_)
         ·have k4d := yF ((mid : Int) + m - S < (b : Int)) (by omega)
          rw [symR, if_neg (by omega), symA, if_neg (by omega), symB, if_neg (by omega)]
          repeat' (first | refine yz ?_ | refine endS0 [0] rfl rfl rfl rfl | refine yx ?_)
set_option maxHeartbeats 2000000 in
theorem staR_evS (fn : FuncId) (hb : HasBody E fn) (c : (List V) → (List V) → Int) (hcmp : ∀ x y, Ev E fn [encRw x, encRw y] (.d (.int (c x y)))) (l : List (List V)) {K : Int} (hK : K = l.length) (hm : l.length ≤ 1152921504606846976) :
  EvS E 88 [.own 0, .d (.int K), .d (.imm (.func (.func fn) #[] #[]))] [.row 23 1 (l.map encRw)] (.tup []) [.row 23 1 ((stS c l).map encRw)] := by
 obtain ⟨n, hn⟩ : ∃ n, l.length = n := ⟨_, rfl⟩
 rw [hn] at hK hm
 subst hK
 have eS : stS c l = stO c n 20 (stA c n 0 20 l) := by unfold stS; rw [hn]
 rw [eS]
 have hA0 : (stA c n 0 20 l).length = n := by rw [stA_len, hn]
 generalize hRA : stA c n 0 20 l = RA at hA0
 refine yn func88 ntmps88 fun _ _ _ _=>?_
 repeat' (refine yz ?_)
 refine go_loop_ (α := StA c n l RA) (fun p => ⟨[(0, .own 0), (1, .d (.int n)), (2, .d (.imm (.func (.func fn) #[] #[]))), (6, .d (.int 20)), (7, .d (.int p.a)), (8, .d (.int p.b))], [.row 23 1 (p.l1.map encRw)]⟩) (fun p => n + 20 - p.b) ⟨0, 20, l, rfl, Nat.zero_le _, by omega, hRA⟩ (zle 1) ?_
 rintro ⟨a, b, l1, hl, ha, hbn, ht⟩
 dsimp only
 rw [hn] at hl
 by_cases hbl : b ≤ n
 ·have g := yT ((b : Int) ≤ (n : Int)) (by omega)
  rw [stA, if_pos hbl] at ht
  have q := insR_evS fn hb c hcmp l1 a b (A := (a : Int)) (B := (b : Int)) rfl rfl (by omega) (by omega) (by omega)
  repeat' (first | refine yz ?_ | refine yc [0] b130 (q) ?_)
  refine go_stop ?_
  exact ⟨⟨b, b + 20, insF c a b l1, by rw [insF_len, hl, hn], hbl, by omega, ht⟩, by dsimp only; omega, (zle 1)⟩
 ·have g := yF ((b : Int) ≤ (n : Int)) (by omega)
  rw [stA, if_neg hbl] at ht
  have q := insR_evS fn hb c hcmp l1 a n (A := (a : Int)) (B := (n : Int)) rfl rfl (by omega) (by omega) (by omega)
  rw [ht] at q
  repeat' (first | refine yz ?_ | refine yc [0] b130 (q) ?_)
  refine go_loop_ (α := StO c n RA (stO c n 20 RA)) (fun p => ⟨[(0, .own 0), (1, .d (.int n)), (2, .d (.imm (.func (.func fn) #[] #[]))), (6, .d (.int p.z))], [.row 23 1 (p.l1.map encRw)]⟩) (fun p => n - p.z) ⟨20, RA, rfl, by omega, by omega, rfl⟩ (zle 1) ?_
  rintro ⟨z, l2, hl2, hz, hzn, ht2⟩
  dsimp only
  rw [hA0] at hl2
  by_cases hzl : z < n
  ·have g2 := yT ((z : Int) < (n : Int)) (by omega)
   rw [stO, if_pos ⟨hz, hzl⟩] at ht2
   have hM0 : (stM c n z 0 (2 * z) l2).length = n := by rw [stM_len, hl2]
   generalize hRM : stM c n z 0 (2 * z) l2 = RM at hM0 ht2
   repeat' (refine yz ?_)
   refine go_loop_ (α := StM c n z l2 RM) (fun p => ⟨[(0, .own 0), (1, .d (.int n)), (2, .d (.imm (.func (.func fn) #[] #[]))), (6, .d (.int z)), (7, .d (.int p.a)), (8, .d (.int p.b))], [.row 23 1 (p.l1.map encRw)]⟩) (fun p => n + 1 - p.b) ⟨0, 2 * z, l2, rfl, by omega, Nat.zero_le _, hRM⟩ (zle 1) ?_
   rintro ⟨a2, b2, l3, hl3, hab2, hb2, ht3⟩
   dsimp only
   rw [hl2] at hl3
   by_cases hbl2 : b2 ≤ n
   ·have g3 := yT ((b2 : Int) ≤ (n : Int)) (by omega)
    rw [stM, if_pos ⟨hz, hbl2⟩] at ht3
    have q2 := symR_evS fn hb c hcmp (b2 - a2) l3 a2 (a2 + z) b2 (A := (a2 : Int)) (M := (a2 : Int) + (z : Int)) (B := (b2 : Int)) rfl (by omega) rfl (by omega) (by omega) (by omega) (by omega) (by omega)
    repeat' (first | refine yz ?_ | refine yc [0] b131 (q2) ?_)
    refine go_stop ?_
    exact ⟨⟨b2, b2 + 2 * z, symM c (b2 - a2) a2 (a2 + z) b2 l3, by rw [symM_len, hl3, hl2], rfl, hbl2, ht3⟩, by dsimp only; omega, (zle 1)⟩
   ·have g3 := yF ((b2 : Int) ≤ (n : Int)) (by omega)
    rw [stM, if_neg (fun h => hbl2 h.2)] at ht3
    by_cases hmn : a2 + z < n
    ·have g4 := yT ((a2 : Int) + (z : Int) < (n : Int)) (by omega)
     rw [if_pos hmn] at ht3
     have q2 := symR_evS fn hb c hcmp (n - a2) l3 a2 (a2 + z) n (A := (a2 : Int)) (M := (a2 : Int) + (z : Int)) (B := (n : Int)) rfl (by omega) rfl (by omega) (by omega) (by omega) (by omega) (by omega)
     rw [ht3] at q2
     repeat' (first | refine yz ?_ | refine yc [0] b131 (q2) ?_)
     refine go_stop ?_
     refine ⟨⟨2 * z, RM, by rw [hM0, hA0], by omega, by omega, ht2⟩, by dsimp only; omega, ?_⟩
     dsimp only
     rw [show ((2 * z : Nat) : Int) = (z : Int) * 2 by omega]
     exact (zle 1)
    ·have g4 := yF ((a2 : Int) + (z : Int) < (n : Int)) (by omega)
     rw [if_neg hmn] at ht3
     subst ht3
     repeat' (refine yz ?_)
     refine go_stop ?_
     refine ⟨⟨2 * z, l3, by rw [hM0, hA0], by omega, by omega, ht2⟩, by dsimp only; omega, ?_⟩
     dsimp only
     rw [show ((2 * z : Nat) : Int) = (z : Int) * 2 by omega]
     exact (zle 1)
  ·have g2 := yF ((z : Int) < (n : Int)) (by omega)
   rw [stO, if_neg (fun h => hzl h.2)] at ht2
   rw [← ht2]
   repeat' (first | refine yz ?_ | refine yo [0])
theorem StableR_evS (fn : FuncId) (hb : HasBody E fn) (c : (List V) → (List V) → Int) (hcmp : ∀ x y, Ev E fn [encRw x, encRw y] (.d (.int (c x y)))) (l : List (List V)) (hm : l.length ≤ 1152921504606846976) :
  EvS E 42 [.own 0, .d (.imm (.func (.func fn) #[] #[]))] [.row 23 1 (l.map encRw)] (.tup []) [.row 23 1 ((stS c l).map encRw)] := by
 have hL : (l.map encRw).length = l.length := by simp
 have q := staR_evS fn hb c hcmp l (K := (l.map encRw).length) (by omega) hm
 refine yn func42 ntmps42 fun _ _ _ _=>?_
 repeat' (first | refine yz ?_ | refine yc [0] b88 (q) ?_ | refine yo [0])
theorem compareFuncR_ev (f : FuncId) (hb : HasBody E f) (g : V → V → Int) (a b : List V) (hf : ∀ x ∈ a, ∀ y ∈ b, Ev E f [enc x, enc y] (.d (.int (g x y)))) :
  Ev E 43 [.sl (encL a), .sl (encL b), .imm (.func (.func f) #[] #[])] (.d (.int (cmpL g a b))) := Ev.fit fun hfit => by
 obtain ⟨hma, -⟩ := fit_encL (hfit (.sl (encL a)) (by simp))
 have hla : (encL a).length = a.length := encL_len a
 have hlb : (encL b).length = b.length := encL_len b
 refine ye3 func43 ntmps43 fun _ _ _=>?_
 repeat' (refine yz ?_)
 refine go_loop_ (α := SCF g a b) (fun p => ⟨[(0, .d (.sl (encL a))), (1, .d (.sl (encL b))), (2, .d (.imm (.func (.func f) #[] #[]))), (11, .d (.sl (encL a))), (12, .d (.int (encL a).length)), (13, .d (.int p.i))], []⟩) (fun p => a.length - p.i) ⟨0, by omega, by omega, rfl⟩ (zle 0) ?_
 rintro ⟨i, hi, hj, ok⟩
 dsimp only
 rcases Nat.lt_or_ge i a.length with hlt | hge
 ·have g1 : decide ((i : Int) < ((encL a).length : Int)) = true := by rw [hla]; simpa using hlt
  have hx0 := List.getElem?_eq_getElem hlt
  generalize a[i] = x at hx0
  have hx : (encL a)[(i : Int).toNat]? = some (enc x) := encL_get (by rw [Int.toNat_natCast]; exact hx0)
  rcases Nat.lt_or_ge i b.length with hltb | hgeb
  ·have g2 : decide ((i : Int) ≥ ((encL b).length : Int)) = false := by rw [hlb]; simpa using hltb
   have hy0 := List.getElem?_eq_getElem hltb
   generalize b[i] = y at hy0
   have hy : (encL b)[(i : Int).toNat]? = some (enc y) := encL_get (by rw [Int.toNat_natCast]; exact hy0)
   have hxy := hf x (List.mem_of_getElem? hx0) y (List.mem_of_getElem? hy0)
   rw [ok, drop_at hx0, drop_at hy0]
   simp only [cmpL, orI]
   cases h : g x y != 0 with
   | true =>
    repeat' (first | refine yz ?_ | refine yi (enc x) hx ?_ | refine yi (enc y) hy ?_ | refine yp hb hxy ?_ | exact zD)
   | false =>
    repeat' (first | refine yz ?_ | refine yi (enc x) hx ?_ | refine yi (enc y) hy ?_ | refine yp hb hxy ?_)
    refine go_stop ?_
    exact ⟨⟨i + 1, by omega, by omega, by rw [ok, drop_at hx0, drop_at hy0]; simp only [cmpL, orI]; rw [h]; rfl⟩, by dsimp only; omega, (zle 0)⟩
  ·have g2 : decide ((i : Int) ≥ ((encL b).length : Int)) = true := by rw [hlb]; simp; omega
   rw [ok, drop_at hx0, List.drop_eq_nil_of_le hgeb]
   repeat' (first | refine yz ?_ | refine yi (enc x) hx ?_ | exact zD)
 ·have g1 : decide ((i : Int) < ((encL a).length : Int)) = false := by rw [hla]; simp; omega
  have hia : i = a.length := by omega
  rcases Nat.lt_or_ge i b.length with hltb | hgeb
  ·have g2 : decide (((encL a).length : Int) < ((encL b).length : Int)) = true := by rw [hla, hlb, decide_eq_true_eq]; omega
   rw [ok, List.drop_eq_nil_of_le hge, List.drop_eq_getElem_cons hltb]
   repeat' (first | refine yz ?_ | exact zD)
  ·have g2 : decide (((encL a).length : Int) < ((encL b).length : Int)) = false := by rw [hla, hlb, decide_eq_false_iff_not]; omega
   rw [ok, List.drop_eq_nil_of_le hge, List.drop_eq_nil_of_le hgeb]
   repeat' (first | refine yz ?_ | exact zD)
theorem OrderRows_ev (a b : List V) : Ev E 13 [encRw a, encRw b] (.d (.int (cmpL ordF a b))) := by
 have q := compareFuncR_ev 37 b37 ordF a b (fun x _ y _ => Order_ev x y)
 unfold encRw
 refine ye2 func13 ntmps13 fun _ _ _=>?_
 repeat' (first | refine yz ?_ | refine yp b43 q ?_ | exact zD)
theorem rOrderRows_ev (a b : List V) : Ev E 14 [encRw a, encRw b] (.d (.int (cmpL ordF a b))) := by
 have q := lists_ev a b (fun x _ y _ => rOrder_ev x y)
 unfold encRw
 refine ye2 func14 ntmps14 fun _ _ _=>?_
 repeat' (first | refine yz ?_ | refine yp b44 q ?_ | exact zD)
theorem encR_eq (l : List (List V)) : Val.encR l = l.map encRw := rfl
def padF (l : List (List V)) (i : Nat) : List (List V) := l.take i ++ List.replicate (l.length - i) []
theorem padF_len {l : List (List V)} {i : Nat} (h : i ≤ l.length) : (padF l i).length = l.length := by
 unfold padF
 rw [List.length_append, List.length_take, List.length_replicate]
 omega
theorem padF_set {l : List (List V)} {i : Nat} {r : List V} (h : l[i]? = some r) : (padF l i).set i r = padF l (i + 1) := by
 have hi := (List.getElem?_eq_some_iff.1 h).1
 unfold padF
 rw [List.take_succ_eq_append_getElem hi, (List.getElem?_eq_some_iff.1 h).2, show l.length - i = (l.length - (i + 1)) + 1 by omega, List.replicate_succ]
 rw [List.set_append_right _ _ (by simp; omega), List.length_take, show i - min i l.length = 0 by omega]
 simp
theorem padF_at {l : List (List V)} {i : Nat} (hi : i < l.length) : (padF l i)[i]? = some [] := by
 unfold padF
 rw [List.getElem?_append_right (by simp; omega), List.length_take, show i - min i l.length = 0 by omega, show l.length - i = (l.length - (i + 1)) + 1 by omega, List.replicate_succ]
 rfl
theorem SortRows_ev (l : List (List V)) (hn : ∀ r ∈ l, nar (vList r) = true) (hm : l.length ≤ 2000000) : Ev E 12 [.sl (Val.encR l)] (.d (.sl (Val.encR (stS (cmpL ordF) l)))) := by
 have hle : (Val.encR l).length = l.length := encR_len l
 have hb : l.length ≤ 1152921504606846976 := by omega
 have q := StableR_evS 13 b13 (cmpL ordF) (fun x y => OrderRows_ev x y) l hb
 rw [encR_eq (stS (cmpL ordF) l)]
 refine ye1 func12 ntmps12 fun _ _ _=>?_
 repeat' (first | refine qS rfl ⟨rfl, (by (show 24 * (Val.encR l).length ≤ 281474976710656; omega)), (by (show (Val.encR l).length ≤ 9223372036854775807; omega))⟩ ?_ | refine yz ?_)
 refine go_loop_ (α := Fin (l.length + 1)) (fun p => ⟨[(0, .d (.sl (Val.encR l))), (3, .own 0), (9, .d (.sl (Val.encR l))), (10, .d (.int (Val.encR l).length)), (11, .d (.int p.val))], [.row 23 1 ((padF l p.val).map encRw)]⟩) (fun p => l.length - p.val) ⟨0, by omega⟩ (by
  have e : (padF l 0).map encRw = List.replicate (Val.encR l).length (.sl []) := by
   unfold padF
   rw [hle, List.take_zero, List.nil_append, List.map_replicate]
   rfl
  dsimp only
  rw [e]
  exact (zle 1)) ?_
 rintro ⟨i, hi⟩
 dsimp only
 rcases Nat.lt_or_ge i l.length with hlt | hge
 ·have g1 : decide ((i : Int) < ((Val.encR l).length : Int)) = true := by rw [hle]; simpa using hlt
  have hx0 := List.getElem?_eq_getElem hlt
  generalize l[i] = x at hx0
  have hx : (Val.encR l)[(i : Int).toNat]? = some (encRw x) := encR_get (by rw [Int.toNat_natCast]; exact hx0)
  have hcx : Ev E 41 [encRw x] (.d (encRw x)) := copied_ev (vList x) (hn x (List.mem_of_getElem? hx0))
  have hp : ((padF l i).map encRw)[(i : Int).toNat]? = some (.sl []) := by rw [Int.toNat_natCast, List.getElem?_map, padF_at hlt]; rfl
  have hL : ((padF l i).map encRw).length = l.length := by rw [List.length_map, padF_len (by omega)]
  have hset : ((padF l i).map encRw).set (i : Int).toNat (subD (.sl []) 0 (encRw x)) = (padF l (i + 1)).map encRw := by
   rw [Int.toNat_natCast, ← padF_set hx0, List.map_set]
   rfl
  repeat' (first | refine yz ?_ | refine yi (encRw x) hx ?_ | refine yp b41 hcx ?_ | refine qZ (.sl []) rfl rfl rfl rfl rfl rfl hp rfl rfl rfl ?_)
  refine go_stop ?_
  refine ⟨⟨i + 1, by omega⟩, by dsimp only; omega, ?_⟩
  show Le _ ⟨_, [.row 23 1 (((padF l i).map encRw).set (i : Int).toNat (subD (.sl []) 0 (encRw x)))]⟩ _
  rw [hset]
  exact (zle 1)
 ·have g1 : decide ((i : Int) < ((Val.encR l).length : Int)) = false := by rw [hle]; simp; omega
  have e : padF l i = l := by
   unfold padF
   rw [List.take_of_length_le hge, show l.length - i = 0 by omega]
   simp
  rw [e]
  repeat' (first | refine yz ?_ | refine yc [0] b42 (q) ?_)
  refine go_frz 0 rfl ?_
  repeat' (first | refine qL rfl rfl ?_ | exact zD)
def sameZ : List (List V) → List (List V) → Bool
 | [], [] => true
 | x :: r, y :: q => (cmpL ordF x y == 0) && sameZ r q
 | _, _ => false
theorem sameZ_len : ∀ {a b : List (List V)}, a.length ≠ b.length → sameZ a b = false
 | [], [], h => absurd rfl h
 | [], _ :: _, _ => rfl
 | _ :: _, [], _ => rfl
 | x :: r, y :: q, h => by
  simp only [sameZ]
  rw [sameZ_len (fun e => h (by simp [e])), Bool.and_false]
theorem sameZ_iff : ∀ {a b : List (List V)}, sameZ a b = true ↔ a = b
 | [], [] => by simp [sameZ]
 | [], _ :: _ => by simp [sameZ]
 | _ :: _, [] => by simp [sameZ]
 | x :: r, y :: q => by
  simp only [sameZ, Bool.and_eq_true, beq_iff_eq, List.cons.injEq]
  rw [sameZ_iff]
  constructor
  ·rintro ⟨h1, h2⟩; exact ⟨rowZ x y h1, h2⟩
  ·rintro ⟨rfl, h2⟩; exact ⟨cmpL_self x, h2⟩
structure SZt (a b : List (List V)) where
 i : Nat
 hi : i ≤ a.length
 ok : sameZ (a.drop i) (b.drop i) = sameZ a b
theorem SameRows_ev (a b : List (List V)) : Ev E 15 [.sl (Val.encR a), .sl (Val.encR b)] (.d (.bool (sameZ a b))) := Ev.fit fun hfit => by
 have hma := ((hfit (.sl (Val.encR a)) (by simp)).sls).1
 have hla : (Val.encR a).length = a.length := encR_len a
 have hlb : (Val.encR b).length = b.length := encR_len b
 by_cases hne : a.length = b.length
 ·have g0 : (((Val.encR a).length : Int) != ((Val.encR b).length : Int)) = false := by rw [hla, hlb, hne]; simp
  generalize hR : sameZ a b = R
  refine ye2 func15 ntmps15 fun _ _ _=>?_
  repeat' (refine yz ?_)
  refine go_loop_ (α := SZt a b) (fun p => ⟨[(0, .d (.sl (Val.encR a))), (1, .d (.sl (Val.encR b))), (5, .d (.int p.i))], []⟩) (fun p => a.length - p.i) ⟨0, by omega, rfl⟩ (zle 0) ?_
  rintro ⟨i, hi, ok⟩
  dsimp only
  rcases Nat.lt_or_ge i a.length with hlt | hge
  ·have g1 : decide ((i : Int) < ((Val.encR a).length : Int)) = true := by rw [hla]; simpa using hlt
   have hx0 := List.getElem?_eq_getElem hlt
   generalize a[i] = x at hx0
   have hx : (Val.encR a)[(i : Int).toNat]? = some (encRw x) := encR_get (by rw [Int.toNat_natCast]; exact hx0)
   have hy0 := List.getElem?_eq_getElem (show i < b.length by omega)
   generalize b[i] = y at hy0
   have hy : (Val.encR b)[(i : Int).toNat]? = some (encRw y) := encR_get (by rw [Int.toNat_natCast]; exact hy0)
   have q := rOrderRows_ev x y
   rw [drop_at hx0, drop_at hy0] at ok
   simp only [sameZ] at ok
   cases hc : cmpL ordF x y != 0 with
   | true =>
    have hz : (cmpL ordF x y == 0) = false := by simpa using hc
    rw [hz, Bool.false_and, hR] at ok
    rw [← ok]
    repeat' (first | refine yz ?_ | refine yi (encRw x) hx ?_ | refine yi (encRw y) hy ?_ | refine yp b14 q ?_ | exact zD)
   | false =>
    have hz : (cmpL ordF x y == 0) = true := by simpa using hc
    rw [hz, Bool.true_and] at ok
    repeat' (first | refine yz ?_ | refine yi (encRw x) hx ?_ | refine yi (encRw y) hy ?_ | refine yp b14 q ?_)
    refine go_stop ?_
    exact ⟨⟨i + 1, by omega, ok⟩, by dsimp only; omega, (zle 0)⟩
  ·have g1 : decide ((i : Int) < ((Val.encR a).length : Int)) = false := by rw [hla]; simp; omega
   rw [List.drop_eq_nil_of_le hge, List.drop_eq_nil_of_le (by omega), hR] at ok
   rw [← ok]
   repeat' (first | refine yz ?_ | exact zD)
 ·have g0 : (((Val.encR a).length : Int) != ((Val.encR b).length : Int)) = true := by rw [hla, hlb]; simp; omega
  rw [sameZ_len hne]
  refine ye2 func15 ntmps15 fun _ _ _=>?_
  repeat' (first | refine yz ?_ | exact zD)
end Go.Proofs.YtjgmakalledclaaGreatDoor
