/- The reference's test of small graphs, and what it grants; The reference's test of small graphs as a whole, and what it grants; What the law's test of small arguments grants: an evaluation is fit to run; the test itself; The program's environments and the values of aggregate items. Conditions: each part's own, as it says. -/
import Derived.Test.YtjgmakalledclaaGreatDoorMC
import Derived.Test.YtjgmakalledclaaGreatDoorEB
import Derived.Test.YtjgmakalledclaaGreatDoorAA
import Derived.Test.YtjgmakalledclaaGreatDoorGC
import Derived.Test.YtjgmakalledclaaGreatDoorSR
set_option linter.unusedVariables false
set_option linter.unusedSimpArgs false
namespace Go.Proofs.YtjgmakalledclaaGreatDoor
set_option maxRecDepth 4000
open Go Go.Abs Go.Val Go.RowKit Go.Proofs.Tryz
attribute [local irreducible] go SGo HasBody Ev ExtEv EvO EvS RGo
theorem weighL_neg2 (f : V → Int → Int) : ∀ (l : List V) (left : Int), left < 0 → weighL f l left = left
 | [], left, h => rfl
 | x :: r, left, h => by simp only [weighL]; rw [decide_eq_false (by omega), cond_false]
theorem weighN_ev (m : Nat) (v : V) (left : Int) (hm : m ≤ 1000) (h0 : left < 0) (h1 : -2000000000000000000 ≤ left) : Ev E 28 [enc v, .int left, .int ((m + 1 : Nat) : Int)] (.d (.int (weighF (m + 1) v left))) := by
 refine Ev.fit fun hfit => ?_
 obtain ⟨-, -, -, hs, hmax, hk⟩ := fit_enc (hfit (enc v) (by simp))
 have hd := size_div hs
 have hm1 : decide (((m + 1 : Nat) : Int) < 1) = false := by simp; omega
 simp only [weighF]
 rw [weighL_neg2 _ _ _ (by omega)]
 have hg := yF (left - 1 - (v.s.size : Int).tdiv 50 ≥ 0) (by omega)
 refine ye3 func28 ntmps28 fun _ _ _=>?_
 repeat' (refine yz ?_)
 refine go_loop_ (α := Unit) (fun _ => ⟨[(3, .ptr 0 0), (1, .d (.int (left - 1 - (v.s.size : Int).tdiv 50))), (2, .d (.int ((m + 1 : Nat) : Int))), (7, .d (.int 0))], [.var 35 (.w (.d (enc v)))]⟩) (fun _ => 0) () (zle 1) ?_
 rintro -
 cases hl : decide ((0 : Int) < ((kids v).length : Int)) with
 | true =>
  repeat' (first | refine yz ?_ | refine yx ?_ | exact zD)
 | false =>
  repeat' (first | refine yz ?_ | refine yx ?_ | exact zD)
def iterL {α : Type} (f : α → Int → Int) : List α → Int → Int
 | [], left => left
 | x :: r, left => bif decide (left ≥ 0) then iterL f r (f x left) else left
theorem iterL_neg {α : Type} (f : α → Int → Int) : ∀ (l : List α) (left : Int), left < 0 → iterL f l left = left
 | [], left, h => rfl
 | x :: r, left, h => by simp only [iterL]; rw [decide_eq_false (by omega), cond_false]
theorem iterL_le {α : Type} (f : α → Int → Int) (h : ∀ x left, 0 ≤ left → f x left ≤ left) : ∀ (l : List α) (left : Int), iterL f l left ≤ left
 | [], left => Int.le_refl _
 | x :: r, left => by
  simp only [iterL]
  cases hd : decide (left ≥ 0) with
  | false => exact Int.le_refl _
  | true => exact Int.le_trans (iterL_le f h r _) (h x left (of_decide_eq_true hd))
theorem iterL_ok {α : Type} (f : α → Int → Int) (h : ∀ x left, 0 ≤ left → f x left ≤ left) : ∀ (l : List α) (left : Int), 0 ≤ iterL f l left → ∀ x ∈ l, ∃ k, 0 ≤ k ∧ k ≤ left ∧ 0 ≤ f x k
 | [], left, _, x, hx => by simp at hx
 | y :: r, left, hp, x, hx => by
  simp only [iterL] at hp
  cases hd : decide (left ≥ 0) with
  | false =>
   rw [hd, cond_false] at hp
   exact absurd hp (by have := of_decide_eq_false hd; omega)
  | true =>
   have h0 : left ≥ 0 := of_decide_eq_true hd
   rw [hd, cond_true] at hp
   have h1 := iterL_le f h r (f y left)
   rcases List.mem_cons.1 hx with e | e
   ·exact ⟨left, h0, Int.le_refl _, by rw [e]; omega⟩
   ·obtain ⟨k, k1, k2, k3⟩ := iterL_ok f h r _ hp x e
    exact ⟨k, k1, Int.le_trans k2 (h y left h0), k3⟩
theorem iterL_len {α : Type} (f : α → Int → Int) (h : ∀ x left, 0 ≤ left → f x left ≤ left - 1) : ∀ (l : List α) (left : Int), 0 ≤ iterL f l left → (l.length : Int) ≤ left
 | [], left, hp => by simpa [iterL] using hp
 | y :: r, left, hp => by
  simp only [iterL] at hp
  cases hd : decide (left ≥ 0) with
  | false =>
   rw [hd, cond_false] at hp
   exact absurd hp (by have := of_decide_eq_false hd; omega)
  | true =>
   have h0 : left ≥ 0 := of_decide_eq_true hd
   rw [hd, cond_true] at hp
   have h1 := iterL_len f h r _ hp
   have h2 := h y left h0
   simp only [List.length_cons]
   omega
structure SIt {α : Type} (f : α → Int → Int) (l : List α) (R : Int) where
 i : Nat
 left : Int
 hi : i ≤ l.length
 hl : -9223372036854775807 ≤ left
 hu : left ≤ 2000
 ok : iterL f (l.drop i) left = R
def prS (p : Pr) (left : Int) : Int := weighF 12 p.v (left - (p.key.size : Int).tdiv 50)
theorem weighF_ltN (v : V) (left : Int) : weighF 12 v left ≤ left - 1 := by
 show weighL (weighF 11) v.l (left - 1 - (v.s.size : Int).tdiv 50) ≤ left - 1
 have h1 := weighL_le (weighF 11) (fun x l h => weighF_le 11 x l h) v.l (left - 1 - (v.s.size : Int).tdiv 50)
 have h2 := (tdiv_bnd (a := (v.s.size : Int)) (b := 50) (by omega)).1 (by omega)
 omega
theorem prS_lt (p : Pr) (left : Int) : prS p left ≤ left - 1 := by
 unfold prS
 have h1 := weighF_ltN p.v (left - (p.key.size : Int).tdiv 50)
 have h2 := (tdiv_bnd (a := (p.key.size : Int)) (b := 50) (by omega)).1 (by omega)
 omega
theorem prS_ge {p : Pr} {left : Int} (hf : Fit (encPr p)) (h : 0 ≤ left) : -900000000000000000 ≤ prS p left := by
 unfold prS
 have hc := hf.aggs
 have hs := size_div (hc (.str p.key) (by simp)).str
 have hv : Fit (enc p.v) := by
  refine Fit.agg _ fun c hm => hc c ?_
  simp only [List.mem_cons] at hm ⊢
  exact .inr hm
 rcases Int.lt_or_le (left - (p.key.size : Int).tdiv 50) 0 with hn | hn
 ·obtain ⟨-, -, -, hs2, -, hk⟩ := fit_enc hv
  have hd2 := size_div hs2
  show -900000000000000000 ≤ weighL (weighF 11) p.v.l (left - (p.key.size : Int).tdiv 50 - 1 - (p.v.s.size : Int).tdiv 50)
  rw [weighL_neg2 _ _ _ (by omega)]
  omega
 ·have := weighF_ge 12 p.v _ hv hn
  omega
theorem wprops_ev (l : List Pr) (left : Int) (h1 : -9223372036854775807 ≤ left) (h2 : left ≤ 2000) : Ev E 104 [.sl (l.map encPr), .int left] (.d (.int (iterL prS l left))) := Ev.fit fun hfit => by
 obtain ⟨hmx, hfl⟩ := fit_map (hfit (.sl (l.map encPr)) (by simp))
 have hle : (l.map encPr).length = l.length := by simp
 generalize hR : iterL prS l left = R
 refine ye2 func104 ntmps104 fun _ _ _=>?_
 repeat' (refine yz ?_)
 refine go_loop_ (α := SIt prS l R) (fun p => ⟨[(0, .d (.sl (l.map encPr))), (1, .d (.int p.left)), (5, .d (.int p.i))], []⟩) (fun p => l.length - p.i) ⟨0, left, by omega, h1, h2, hR⟩ (zle 0) ?_
 rintro ⟨i, le, hi, hl, hu, ok⟩
 dsimp only
 rcases Nat.lt_or_ge i l.length with hlt | hge
 ·have g1 : decide ((i : Int) < ((l.map encPr).length : Int)) = true := by rw [hle]; simpa using hlt
  have hx0 := List.getElem?_eq_getElem hlt
  generalize l[i] = x at hx0
  have hx : (l.map encPr)[(i : Int).toNat]? = some (encPr x) := map_at hx0
  rw [drop_at hx0] at ok
  simp only [iterL] at ok
  cases hg : decide (le ≥ 0) with
  | false =>
   rw [hg, cond_false] at ok
   rw [← ok]
   repeat' (first | refine yz ?_ | refine yx ?_ | exact zD)
  | true =>
   have h0 : le ≥ 0 := of_decide_eq_true hg
   rw [hg, cond_true] at ok
   have hfx := hfl x (List.mem_of_getElem? hx0)
   have hs := size_div ((hfx.aggs (.str x.key) (by simp)).str)
   have hge2 := prS_ge hfx h0
   have hlt2 := prS_lt x le
   have q : Ev E 28 [enc x.v, .int (le - (x.key.size : Int).tdiv 50), .int 12] (.d (.int (prS x le))) := by
    rcases Int.lt_or_le (le - (x.key.size : Int).tdiv 50) 0 with hn | hn
    ·exact weighN_ev 11 x.v _ (by omega) hn (by omega)
    ·exact weigh_ev 12 x.v _ (by omega) hn (by omega)
   repeat' (first | refine yz ?_ | refine yi (encPr x) hx ?_ | refine yp b28 q ?_ | refine yx ?_)
   refine go_stop ?_
   exact ⟨⟨i + 1, prS x le, by omega, by omega, by omega, ok⟩, by dsimp only; omega, (zle 0)⟩
 ·have g1 : decide ((i : Int) < ((l.map encPr).length : Int)) = false := by rw [hle]; simp; omega
  rw [List.drop_eq_nil_of_le hge] at ok
  simp only [iterL] at ok
  rw [← ok]
  repeat' (first | refine yz ?_ | refine yx ?_ | exact zD)
theorem iterL_ge {α : Type} (f : α → Int → Int) (B : Int) : ∀ (l : List α), (∀ x ∈ l, ∀ left, 0 ≤ left → B ≤ f x left) → ∀ (left : Int), B ≤ left → B ≤ iterL f l left
 | [], _, left, hl => hl
 | x :: r, h, left, hl => by
  simp only [iterL]
  cases hd : decide (left ≥ 0) with
  | false => exact hl
  | true => exact iterL_ge f B r (fun y hy => h y (by simp [hy])) _ (h x (by simp) left (of_decide_eq_true hd))
def labS (s : ByteArray) (left : Int) : Int := left - (s.size : Int).tdiv 50
def ndS (n : Nd) (left : Int) : Int := iterL labS n.labels (iterL prS n.props (left - n.labels.length))
def edS (e : Ed) (left : Int) : Int := iterL prS e.props (left - (e.ty.size : Int).tdiv 50)
def smG (g : Gr) (a b : Int) : Bool := !(decide ((g.nodes.length : Int) > a) || decide ((g.edges.length : Int) > b)) && decide (iterL edS g.edges (iterL ndS g.nodes 2000) ≥ 0)
theorem labS_le (s : ByteArray) (left : Int) : labS s left ≤ left := by
 unfold labS
 have := (tdiv_bnd (a := (s.size : Int)) (b := 50) (by omega)).1 (by omega)
 omega
theorem iprS_le (l : List Pr) (left : Int) : iterL prS l left ≤ left := iterL_le prS (fun x left _ => by have := prS_lt x left; omega) l left
theorem ndS_le (n : Nd) (left : Int) : ndS n left ≤ left := by
 unfold ndS
 have h1 := iterL_le labS (fun s left _ => labS_le s left) n.labels (iterL prS n.props (left - n.labels.length))
 have h2 := iprS_le n.props (left - n.labels.length)
 omega
theorem edS_le (e : Ed) (left : Int) : edS e left ≤ left := by
 unfold edS
 have h2 := iprS_le e.props (left - (e.ty.size : Int).tdiv 50)
 have := (tdiv_bnd (a := (e.ty.size : Int)) (b := 50) (by omega)).1 (by omega)
 omega
set_option maxHeartbeats 1000000 in
theorem smallG_ev (g : Gr) (a b : Int) : Ev E 63 [encGr g, .int a, .int b] (.d (.bool (smG g a b))) := Ev.fit fun hfit => by
 obtain ⟨hf1, hf2⟩ := fit_gr (hfit (encGr g) (by simp))
 obtain ⟨hn1, hn2⟩ := fit_map hf1
 obtain ⟨he1, he2⟩ := fit_map hf2
 have l1 : (g.nodes.map encNd).length = g.nodes.length := by simp
 have l2 : (g.edges.map encEd).length = g.edges.length := by simp
 unfold smG
 cases h1 : decide ((g.nodes.length : Int) > a) with
 | true =>
  have g1 : decide (((g.nodes.map encNd).length : Int) > a) = true := by rw [l1]; exact h1
  refine ye3 func63 ntmps63 fun _ _ _=>?_
  repeat' (first | refine yz ?_ | refine yx ?_ | exact zD)
 | false =>
 have g1 : decide (((g.nodes.map encNd).length : Int) > a) = false := by rw [l1]; exact h1
 cases h2 : decide ((g.edges.length : Int) > b) with
 | true =>
  have g2 : decide (((g.edges.map encEd).length : Int) > b) = true := by rw [l2]; exact h2
  refine ye3 func63 ntmps63 fun _ _ _=>?_
  repeat' (first | refine yz ?_ | refine yx ?_ | exact zD)
 | false =>
 have g2 : decide (((g.edges.map encEd).length : Int) > b) = false := by rw [l2]; exact h2
 generalize hR1 : iterL ndS g.nodes 2000 = R1
 have hR1le : R1 ≤ 2000 := by rw [← hR1]; exact iterL_le ndS (fun n left _ => ndS_le n left) _ _
 have ndge : ∀ n ∈ g.nodes, ∀ left : Int, 0 ≤ left → -9223372036854775807 ≤ left - n.labels.length ∧ -9223372036854775807 ≤ iterL prS n.props (left - n.labels.length) := fun n hn left h0 => by
  have hf := (hn2 n hn).aggs
  have hlb := ((hf (.sl (n.labels.map .str)) (by simp)).sls).1
  rw [List.length_map] at hlb
  obtain ⟨-, hpr⟩ := fit_map (hf (.sl (n.props.map encPr)) (by simp))
  have hb : -9223372036854775807 ≤ left - n.labels.length := by omega
  exact ⟨hb, iterL_ge prS _ n.props (fun x hx left h => by have := prS_ge (hpr x hx) h; omega) _ hb⟩
 have labge : ∀ n ∈ g.nodes, ∀ s ∈ n.labels, ∀ left : Int, 0 ≤ left → -9223372036854775807 ≤ labS s left := fun n hn s hs left h0 => by
  have hf := (hn2 n hn).aggs
  have := size_div ((hf (.sl (n.labels.map .str)) (by simp)).sls.2 (.str s) (List.mem_map_of_mem hs)).str
  unfold labS
  omega
 have edge : ∀ e ∈ g.edges, ∀ left : Int, 0 ≤ left → -9223372036854775807 ≤ left - (e.ty.size : Int).tdiv 50 ∧ -9223372036854775807 ≤ edS e left := fun e he left h0 => by
  have hf := (he2 e he).aggs
  have hs := size_div ((hf (.str e.ty) (by simp)).str)
  obtain ⟨-, hpr⟩ := fit_map (hf (.sl (e.props.map encPr)) (by simp))
  exact ⟨by omega, iterL_ge prS _ e.props (fun x hx left h => by have := prS_ge (hpr x hx) h; omega) _ (by omega)⟩
 refine ye3 func63 ntmps63 fun _ _ _=>?_
 repeat' (first | refine yz ?_ | refine yx ?_)
 refine go_loop_ (α := SIt ndS g.nodes R1) (fun p => ⟨[(3, .ptr 0 0), (7, .d (.int p.left)), (8, .d (.int p.i))], [.var 41 (.w (.d (encGr g)))]⟩) (fun p => g.nodes.length - p.i) ⟨0, 2000, by omega, by omega, by omega, hR1⟩ (zle 1) ?_
 rintro ⟨i, le, hi, hl, hu, ok⟩
 dsimp only
 have fin : ∀ le : Int, -9223372036854775807 ≤ le → R1 = le → ∀ le2 : Int, le2 = le → True := fun _ _ _ _ _ => trivial
 clear fin
 by_cases hgo : i < g.nodes.length ∧ 0 ≤ le
 ·obtain ⟨hlt, h0⟩ := hgo
  have g3 : decide ((i : Int) < ((g.nodes.map encNd).length : Int)) = true := by rw [l1]; simpa using hlt
  have g4 := yT (le ≥ 0) h0
  have hx0 := List.getElem?_eq_getElem hlt
  generalize g.nodes[i] = n at hx0
  have hx : (g.nodes.map encNd)[(i : Int).toNat]? = some (encNd n) := map_at hx0
  have hmem := List.mem_of_getElem? hx0
  rw [drop_at hx0] at ok
  simp only [iterL] at ok
  rw [g4, cond_true] at ok
  obtain ⟨b1, b2⟩ := ndge n hmem le h0
  have hll : (n.labels.map D.str).length = n.labels.length := by simp
  have hlmx := (((hn2 n hmem).aggs (.sl (n.labels.map .str)) (by simp)).sls).1
  rw [List.length_map] at hlmx
  have q := wprops_ev n.props (le - n.labels.length) b1 (by omega)
  rw [← hll] at q b1
  have hple := iprS_le n.props (le - n.labels.length)
  generalize hR2 : ndS n le = R2 at ok
  unfold ndS at hR2
  rw [← hll] at hR2 b2 hple
  generalize iterL prS n.props (le - (n.labels.map D.str).length) = m at q hR2 b2 hple
  have hR2le : R2 ≤ 2000 := by rw [← hR2]; have := iterL_le labS (fun s left _ => labS_le s left) n.labels m; omega
  have hR2ge : -9223372036854775807 ≤ R2 := by rw [← hR2]; exact iterL_ge labS _ n.labels (fun s hs left h => labge n hmem s hs left h) _ b2
  repeat' (first | refine yz ?_ | refine yi (encNd n) hx ?_ | refine yp b104 q ?_ | refine yx ?_)
  refine go_loop_ (α := SIt labS n.labels R2) (fun p => ⟨[(3, .ptr 0 0), (7, .d (.int p.left)), (8, .d (.int i)), (9, .ptr 1 0), (10, .d (.int p.i))], [.var 41 (.w (.d (encGr g))), .var 115 (.w (.d (encNd n)))]⟩) (fun p => n.labels.length - p.i) ⟨0, m, by omega, b2, by omega, hR2⟩ (zle 2) ?_
  rintro ⟨k, lk2, hk, hl2, hu2, ok2⟩
  dsimp only
  by_cases hgo2 : k < n.labels.length ∧ 0 ≤ lk2
  ·obtain ⟨hklt, h02⟩ := hgo2
   have g5 : decide ((k : Int) < ((n.labels.map D.str).length : Int)) = true := by rw [hll]; simpa using hklt
   have g6 := yT (lk2 ≥ 0) h02
   have hs0 := List.getElem?_eq_getElem hklt
   generalize n.labels[k] = s at hs0
   have hsx : (n.labels.map D.str)[(k : Int).toNat]? = some (.str s) := map_at hs0
   rw [drop_at hs0] at ok2
   simp only [iterL] at ok2
   rw [g6, cond_true] at ok2
   have b3 := labge n hmem s (List.mem_of_getElem? hs0) lk2 h02
   have b4 := labS_le s lk2
   have hss : s.size ≤ 9223372036854775807 := (((hn2 n hmem).aggs (.sl (n.labels.map .str)) (by simp)).sls.2 (.str s) (List.mem_map_of_mem (List.mem_of_getElem? hs0))).str
   unfold labS at b3 b4 ok2
   repeat' (first | refine yz ?_ | refine yi (.str s) hsx ?_ | refine yx ?_)
   refine go_stop ?_
   exact ⟨⟨k + 1, lk2 - (s.size : Int).tdiv 50, by omega, b3, by omega, ok2⟩, by dsimp only; omega, (zle 2)⟩
  ·have hend : lk2 = R2 := by
    rcases Nat.lt_or_ge k n.labels.length with h | h
    ·rw [iterL_neg _ _ _ (by omega)] at ok2
     exact ok2
    ·rw [List.drop_eq_nil_of_le h] at ok2
     exact ok2
   have stop : ∀ (x : Int), x = R2 → -9223372036854775807 ≤ x := fun x e => by rw [e]; exact hR2ge
   cases g5 : decide ((k : Int) < ((n.labels.map D.str).length : Int)) with
   | false =>
    repeat' (first | refine yz ?_ | refine yx ?_)
    refine go_stop ?_
    exact ⟨⟨i + 1, lk2, by omega, by omega, by omega, by rw [hend]; exact ok⟩, by dsimp only; omega, (zle 1)⟩
   | true =>
    have hkl : k < n.labels.length := by have := of_decide_eq_true g5; rw [hll] at this; omega
    have g6 := yF (lk2 ≥ 0) (by omega)
    repeat' (first | refine yz ?_ | refine yx ?_)
    refine go_stop ?_
    exact ⟨⟨i + 1, lk2, by omega, by omega, by omega, by rw [hend]; exact ok⟩, by dsimp only; omega, (zle 1)⟩
 ·have hend : le = R1 := by
   rcases Nat.lt_or_ge i g.nodes.length with h | h
   ·rw [iterL_neg _ _ _ (by omega)] at ok
    exact ok
   ·rw [List.drop_eq_nil_of_le h] at ok
    exact ok
  subst hend
  generalize hR2 : iterL edS g.edges le = R2
  cases g3 : decide ((i : Int) < ((g.nodes.map encNd).length : Int))
  case' false =>
   repeat' (first | refine yz ?_ | refine yx ?_)
  case' true =>
   have g4 := yF (le ≥ 0) (by have := of_decide_eq_true g3; rw [l1] at this; omega)
   repeat' (first | refine yz ?_ | refine yx ?_)
  all_goals
   refine go_loop_ (α := SIt edS g.edges R2) (fun p => ⟨[(3, .ptr 0 0), (7, .d (.int p.left)), (11, .d (.int p.i))], [.var 41 (.w (.d (encGr g)))]⟩) (fun p => g.edges.length - p.i) ⟨0, le, by omega, by omega, by omega, hR2⟩ (zle 1) ?_
   rintro ⟨j, l3, hj, hl3, hu3, ok3⟩
   dsimp only
   by_cases hgo2 : j < g.edges.length ∧ 0 ≤ l3
   ·obtain ⟨hjlt, h03⟩ := hgo2
    have g5 : decide ((j : Int) < ((g.edges.map encEd).length : Int)) = true := by rw [l2]; simpa using hjlt
    have g6 := yT (l3 ≥ 0) h03
    have hx0 := List.getElem?_eq_getElem hjlt
    generalize g.edges[j] = e at hx0
    have hx : (g.edges.map encEd)[(j : Int).toNat]? = some (encEd e) := map_at hx0
    have hmem := List.mem_of_getElem? hx0
    rw [drop_at hx0] at ok3
    simp only [iterL] at ok3
    rw [g6, cond_true] at ok3
    obtain ⟨b1, b2⟩ := edge e hmem l3 h03
    have b3 := edS_le e l3
    have hs := size_div ((((he2 e hmem).aggs) (.str e.ty) (by simp)).str)
    have q : Ev E 104 [.sl (e.props.map encPr), .int (l3 - (e.ty.size : Int).tdiv 50)] (.d (.int (edS e l3))) := wprops_ev e.props _ b1 (by omega)
    repeat' (first | refine yz ?_ | refine yi (encEd e) hx ?_ | refine yp b104 q ?_ | refine yx ?_)
    refine go_stop ?_
    exact ⟨⟨j + 1, edS e l3, by omega, b2, by omega, ok3⟩, by dsimp only; omega, (zle 1)⟩
   ·have hend2 : l3 = R2 := by
     rcases Nat.lt_or_ge j g.edges.length with h | h
     ·rw [iterL_neg _ _ _ (by omega)] at ok3
      exact ok3
     ·rw [List.drop_eq_nil_of_le h] at ok3
      exact ok3
    subst hend2
    cases g5 : decide ((j : Int) < ((g.edges.map encEd).length : Int)) with
    | false =>
     repeat' (first | refine yz ?_ | refine yx ?_ | exact zD)
    | true =>
     have g6 := yF (l3 ≥ 0) (by have := of_decide_eq_true g5; rw [l2] at this; omega)
     repeat' (first | refine yz ?_ | refine yx ?_ | exact zD)
theorem iterL_pos {α : Type} {f : α → Int → Int} {l : List α} {left : Int} (h : 0 ≤ iterL f l left) : 0 ≤ left := by
 rcases Int.lt_or_le left 0 with hn | hn
 ·rw [iterL_neg f l left hn] at h; exact h
 ·exact hn
theorem prs_sm {l : List Pr} {left : Int} (hl : left ≤ 2000) (h : 0 ≤ iterL prS l left) : narP l ∧ ∀ p ∈ l, cost p.v ≤ 1048576 := by
 have hc : ∀ p ∈ l, cost p.v ≤ 2000 := fun p hp => by
  obtain ⟨k, k1, k2, k3⟩ := iterL_ok prS (fun x left _ => by have := prS_lt x left; omega) l left h p hp
  unfold prS at k3
  have h1 := weighF_cost 12 p.v _ k3
  have h2 := (tdiv_bnd (a := (p.key.size : Int)) (b := 50) (by omega)).1 (by omega)
  omega
 have hlen := iterL_len prS (fun x left _ => prS_lt x left) l left h
 exact ⟨⟨by omega, fun p hp => nar_cost p.v (by have := hc p hp; omega)⟩, fun p hp => by have := hc p hp; omega⟩
theorem smG_ok {g : Gr} {a b : Int} (h : smG g a b = true) : narG g ∧ (∀ n ∈ g.nodes, ∀ p ∈ n.props, cost p.v ≤ 1048576) ∧ ∀ e ∈ g.edges, ∀ p ∈ e.props, cost p.v ≤ 1048576 := by
 unfold smG at h
 rw [Bool.and_eq_true] at h
 have h0 : 0 ≤ iterL edS g.edges (iterL ndS g.nodes 2000) := of_decide_eq_true h.2
 have h1 := iterL_pos h0
 have hR : iterL ndS g.nodes 2000 ≤ 2000 := iterL_le ndS (fun n left _ => ndS_le n left) _ _
 have hn : ∀ n ∈ g.nodes, narN n ∧ ∀ p ∈ n.props, cost p.v ≤ 1048576 := fun n hm => by
  obtain ⟨k, k1, k2, k3⟩ := iterL_ok ndS (fun n left _ => ndS_le n left) g.nodes 2000 h1 n hm
  unfold ndS at k3
  have k4 := iterL_pos k3
  have k5 := iterL_pos k4
  obtain ⟨p1, p2⟩ := prs_sm (by omega) k4
  exact ⟨⟨by omega, p1⟩, p2⟩
 have he : ∀ e ∈ g.edges, narP e.props ∧ ∀ p ∈ e.props, cost p.v ≤ 1048576 := fun e hm => by
  obtain ⟨k, k1, k2, k3⟩ := iterL_ok edS (fun e left _ => edS_le e left) g.edges _ h0 e hm
  unfold edS at k3
  have h2 := (tdiv_bnd (a := (e.ty.size : Int)) (b := 50) (by omega)).1 (by omega)
  exact prs_sm (by omega) k3
 exact ⟨⟨fun n hm => (hn n hm).1, fun e hm => (he e hm).1⟩, fun n hm => (hn n hm).2, fun e hm => (he e hm).2⟩
theorem blank_cost {v : V} (h : blankF v = true) : cost v ≤ 4 := by
 unfold blankF at h
 simp only [Bool.and_eq_true, l0] at h
 obtain ⟨-, -, -, hs, hl⟩ := h
 have hl2 : v.l = [] := by
  have h1 := kids_len v
  refine List.length_eq_zero_iff.1 ?_
  rw [← h1]
  simpa using hl
 rw [cost_eq, hl2, s0_size hs]
 simp [costL]
theorem const_cost {v : V} (h : constF v = true) : cost v ≤ 4 := by
 unfold constF at h
 rw [Bool.or_eq_true] at h
 rcases h with h | h
 ·exact blank_cost h
 ·rw [Bool.and_eq_true] at h
  obtain ⟨b1, b2, b3, b4, b5⟩ := okV_bare h.2
  have hk : v.k ≠ 7 ∧ v.k ≠ 8 := by
   have := h.1
   simp only [Bool.or_eq_true, beq_iff_eq] at this
   omega
  have hl := b5 hk.1 hk.2
  have hs : v.s.size ≤ 100 := by
   by_cases h4 : v.k = 4
   ·have ho := h.2
    unfold Val.okV at ho
    rw [okN] at ho
    simp only [okFlat, Bool.or_eq_true, Bool.and_eq_true, beq_iff_eq, strOK, decide_eq_true_eq] at ho
    grind
   ·have := b2 h4
    have : v.s.size = 0 := s0_size (by unfold s0; rw [beq_iff_eq]; exact this)
    omega
  rw [cost_eq, hl]
  simp only [costL]
  omega
theorem vis_cE (e : Ex) : ∀ w, visF e w = 0 → cE 4 e := by
 refine xind (P := fun e => ∀ w, visF e w = 0 → cE 4 e) (fun op v nm ds ks ih w hv => ?_) e
 have hs := vis_self hv
 have hk := visF_ok hs
 rw [hv] at hk
 have hz := visM_zero hk.symm
 simp only [cE]
 refine ⟨?_, ?_⟩
 ·unfold selfF at hs
  cases h1 : (decide ((Ex.mk op v nm ds ks).op < 1) || decide ((Ex.mk op v nm ds ks).op > 24)) || (!opdF (.mk op v nm ds ks) || !spareF (.mk op v nm ds ks)) with
  | true => rw [h1] at hs; simp at hs
  | false =>
   rw [h1, cond_false] at hs
   have hsp : spareF (.mk op v nm ds ks) = true := by
    cases h2 : spareF (.mk op v nm ds ks) with
    | true => rfl
    | false => rw [h2] at h1; simp at h1
   unfold spareF at hsp
   rw [Bool.and_eq_true, Bool.or_eq_true] at hsp
   rcases hsp.1 with h2 | h2
   ·rw [h2, Bool.true_and] at hs
    cases h3 : constF (Ex.mk op v nm ds ks).v with
    | true => exact const_cost h3
    | false => rw [h3] at hs; simp at hs
   ·exact blank_cost h2
 ·have hall : ∀ l : List Ex, (∀ x ∈ l, cE 4 x) → cEL 4 l := by
   intro l
   induction l with
   | nil => intro _; trivial
   | cons x r ihr => intro h; exact ⟨h x (by simp), ihr fun y hy => h y (by simp [hy])⟩
  exact hall ks fun x hx => ih x hx _ (hz x hx)
theorem chk_nd {e : Ex} (h : chkF e = 0) : nd e ≤ 300 := by
 unfold chkF at h
 cases h1 : decide (dp e > 24) with
 | true => rw [h1] at h; simp at h
 | false =>
  rw [h1, cond_false] at h
  cases h2 : decide (nd e > 300) with
  | true => rw [h2] at h; simp at h
  | false => have := of_decide_eq_false h2; omega
theorem cE_mono {a b : Nat} (hab : a ≤ b) (e : Ex) : cE a e → cE b e := by
 refine xind (P := fun e => cE a e → cE b e) (fun op v nm ds ks ih h => ?_) e
 simp only [cE] at h ⊢
 refine ⟨by omega, ?_⟩
 have hall : ∀ l : List Ex, (∀ x ∈ l, cE a x → cE b x) → cEL a l → cEL b l := by
  intro l
  induction l with
  | nil => intro _ _; trivial
  | cons x r ihr => intro h1 h2; exact ⟨h1 x (by simp) h2.1, ihr (fun y hy => h1 y (by simp [hy])) h2.2⟩
 exact hall ks ih h.2
theorem evOK_sm {g : Gr} {a b : Int} {env : List Bd} {e : Ex} (hg : smG g a b = true) (h2 : env.length ≤ 1000000) (h3 : ∀ b ∈ env, cost b.v ≤ 1048576) (hn : nd e ≤ 1000000) : EvOK g env e := by
 obtain ⟨g1, g2, g3⟩ := smG_ok hg
 have := dp_nd e
 exact ⟨g1, by omega, by omega, by omega, fun hc => okE_of (C := 1048576) ⟨by omega, h3, g2, g3⟩ (Nat.le_refl _) e false (chk_vis hc) (by have := chk_nd hc; omega) (cE_mono (by omega) e (vis_cE e false (chk_vis hc)))⟩
def exF : Nat → Ex → Bool
 | 0, _ => false
 | m + 1, e => decide (e.ks.length ≤ 6) && e.ks.all (exF m)
theorem ndL_all {B : Nat} : ∀ l : List Ex, (∀ x ∈ l, nd x ≤ B) → ndL l ≤ B * l.length
 | [], _ => by simp [ndL]
 | x :: r, h => by
  have h1 := h x (by simp)
  have h2 := ndL_all r fun y hy => h y (by simp [hy])
  simp only [ndL, List.length_cons, Nat.mul_add, Nat.mul_one]
  omega
def ndB : Nat → Nat
 | 0 => 0
 | m + 1 => 1 + 6 * ndB m
theorem exF_nd : ∀ (m : Nat) (e : Ex), exF m e = true → nd e ≤ ndB m
 | 0, e, h => by simp [exF] at h
 | m + 1, e, h => by
  simp only [exF, Bool.and_eq_true, decide_eq_true_eq, List.all_eq_true] at h
  have h1 := ndL_all e.ks fun x hx => exF_nd m x (h.2 x hx)
  rw [nd_eq, ndB]
  have : ndB m * e.ks.length ≤ ndB m * 6 := Nat.mul_le_mul_left _ h.1
  omega
structure SAl {α : Type} (f : α → Bool) (l : List α) where
 i : Nat
 hi : i ≤ l.length
 ok : (l.drop i).all f = l.all f
theorem expr_ev (m : Nat) : ∀ e : Ex, m ≤ 100 → Ev E 64 [encE e, .int (m : Int)] (.d (.bool (exF m e))) := by
 induction m with
 | zero =>
  intro e _
  refine ye2 func64 ntmps64 fun _ _ _=>?_
  repeat' (first | refine yz ?_ | exact zD)
 | succ m ih =>
  intro e hm
  refine Ev.fit fun hfit => ?_
  obtain ⟨-, -, -, hmax, -⟩ := fit_encE (hfit (encE e) (by simp))
  have hle : (kidsE e).length = e.ks.length := kidsE_len e
  have g0 := yF (((m + 1 : Nat) : Int) < 1) (by omega)
  have hm2 : ((m + 1 : Nat) : Int) - 1 = (m : Int) := by omega
  simp only [exF]
  by_cases h6 : e.ks.length ≤ 6
  ·have g1 := yF (((kidsE e).length : Int) > 6) (by omega)
   rw [decide_eq_true h6, Bool.true_and]
   generalize hR : e.ks.all (exF m) = R
   refine ye2 func64 ntmps64 fun _ _ _=>?_
   repeat' (refine yz ?_)
   refine go_loop_ (α := SAl (exF m) e.ks) (fun p => ⟨[(1, .d (.int ((m + 1 : Nat) : Int))), (2, .ptr 0 0), (16, .d (.sl (kidsE e))), (17, .d (.int (kidsE e).length)), (18, .d (.int p.i))], [.var 52 (.w (.d (encE e)))]⟩) (fun p => e.ks.length - p.i) ⟨0, by omega, rfl⟩ (zle 1) ?_
   rintro ⟨i, hi, ok⟩
   dsimp only
   rcases Nat.lt_or_ge i e.ks.length with hlt | hge
   ·have g2 : decide ((i : Int) < ((kidsE e).length : Int)) = true := by rw [hle]; simpa using hlt
    have hx0 := List.getElem?_eq_getElem hlt
    generalize e.ks[i] = x at hx0
    have hx : (kidsE e)[(i : Int).toNat]? = some (encE x) := kidsE_get (by rw [Int.toNat_natCast]; exact hx0)
    have q := ih x (by omega)
    rw [← hm2] at q
    rw [drop_at hx0, List.all_cons, hR] at ok
    cases hv : exF m x with
    | false =>
     rw [hv] at q ok
     rw [Bool.false_and] at ok
     rw [← ok]
     have g3 : (!false) = true := rfl
     repeat' (first | refine yz ?_ | refine yi (encE x) hx ?_ | refine yp b64 q ?_ | exact zD)
    | true =>
     rw [hv] at q ok
     rw [Bool.true_and] at ok
     have g3 : (!true) = false := rfl
     repeat' (first | refine yz ?_ | refine yi (encE x) hx ?_ | refine yp b64 q ?_)
     refine go_stop ?_
     exact ⟨⟨i + 1, by omega, by rw [ok, hR]⟩, by dsimp only; omega, (zle 1)⟩
   ·have g2 : decide ((i : Int) < ((kidsE e).length : Int)) = false := by rw [hle]; simp; omega
    rw [List.drop_eq_nil_of_le hge, hR] at ok
    rw [← ok]
    repeat' (first | refine yz ?_ | exact zD)
  ·have g1 := yT (((kidsE e).length : Int) > 6) (by omega)
   rw [decide_eq_false h6, Bool.false_and]
   refine ye2 func64 ntmps64 fun _ _ _=>?_
   repeat' (first | refine yz ?_ | exact zD)
structure Tb where
 cols : List ByteArray
 rows : List (List V)
def encTb (t : Tb) : D := .agg [.sl (t.cols.map .str), .sl (Val.encR t.rows)]
def smF (g : Gr) (its : List Itm) (t : Tb) : Bool := smG g 12 16 && (decide (its.length ≤ 8) && (decide (t.cols.length ≤ 8) && (decide (t.rows.length ≤ 30) && (lightF t.rows 400 && its.all fun x => exF 5 x.e))))
theorem small23_ev (g : Gr) (its : List Itm) (t : Tb) : Ev E 24 [encGr g, .sl (its.map encIm), encTb t] (.d (.bool (smF g its t))) := by
 have q1 := smallG_ev g 12 16
 have q2 := light_ev t.rows 400 (by omega) (by omega)
 have l1 : (its.map encIm).length = its.length := by simp
 have l2 : (t.cols.map D.str).length = t.cols.length := by simp
 have l3 : (Val.encR t.rows).length = t.rows.length := encR_len _
 unfold smF
 cases h1 : smG g 12 16 with
 | false =>
  rw [h1] at q1
  have g9 : (!false) = true := rfl
  refine ye3 func24 ntmps24 fun _ _ _=>?_
  repeat' (first | refine yz ?_ | refine yp b63 q1 ?_ | exact zD)
 | true =>
 rw [h1] at q1
 have g8 : (!true) = false := rfl
 by_cases h2 : its.length ≤ 8
 case neg =>
  have g1 := yT (((its.map encIm).length : Int) > 8) (by omega)
  rw [decide_eq_false h2]
  refine ye3 func24 ntmps24 fun _ _ _=>?_
  repeat' (first | refine yz ?_ | refine yp b63 q1 ?_ | refine yx ?_ | exact zD)
 case pos =>
 have g1 := yF (((its.map encIm).length : Int) > 8) (by omega)
 rw [decide_eq_true h2]
 by_cases h3 : t.cols.length ≤ 8
 case neg =>
  have g2 := yT (((t.cols.map D.str).length : Int) > 8) (by omega)
  rw [decide_eq_false h3]
  refine ye3 func24 ntmps24 fun _ _ _=>?_
  repeat' (first | refine yz ?_ | refine yp b63 q1 ?_ | refine yx ?_ | exact zD)
 case pos =>
 have g2 := yF (((t.cols.map D.str).length : Int) > 8) (by omega)
 rw [decide_eq_true h3]
 by_cases h4 : t.rows.length ≤ 30
 case neg =>
  have g3 := yT (((Val.encR t.rows).length : Int) > 30) (by omega)
  rw [decide_eq_false h4]
  refine ye3 func24 ntmps24 fun _ _ _=>?_
  repeat' (first | refine yz ?_ | refine yp b63 q1 ?_ | refine yx ?_ | exact zD)
 case pos =>
 have g3 := yF (((Val.encR t.rows).length : Int) > 30) (by omega)
 rw [decide_eq_true h4]
 cases h5 : lightF t.rows 400 with
 | false =>
  rw [h5] at q2
  have g9 : (!false) = true := rfl
  refine ye3 func24 ntmps24 fun _ _ _=>?_
  repeat' (first | refine yz ?_ | refine yp b63 q1 ?_ | refine yp b10 q2 ?_ | refine yx ?_ | exact zD)
 | true =>
 rw [h5] at q2
 simp only [Bool.true_and]
 generalize hR : (its.all fun x => exF 5 x.e) = R
 refine ye3 func24 ntmps24 fun _ _ _=>?_
 repeat' (first | refine yz ?_ | refine yp b63 q1 ?_ | refine yp b10 q2 ?_ | refine yx ?_)
 refine go_loop_ (α := SAl (fun x : Itm => exF 5 x.e) its) (fun p => ⟨[(35, .d (.sl (its.map encIm))), (36, .d (.int (its.map encIm).length)), (37, .d (.int p.i))], []⟩) (fun p => its.length - p.i) ⟨0, by omega, rfl⟩ (zle 0) ?_
 rintro ⟨i, hi, ok⟩
 dsimp only
 rcases Nat.lt_or_ge i its.length with hlt | hge
 ·have g4 : decide ((i : Int) < ((its.map encIm).length : Int)) = true := by rw [l1]; simpa using hlt
  have hx0 := List.getElem?_eq_getElem hlt
  generalize its[i] = x at hx0
  have hx : (its.map encIm)[(i : Int).toNat]? = some (encIm x) := map_at hx0
  have q := expr_ev 5 x.e (by omega)
  rw [drop_at hx0, List.all_cons, hR] at ok
  cases hv : exF 5 x.e with
  | false =>
   rw [hv] at q ok
   rw [Bool.false_and] at ok
   rw [← ok]
   have g9 : (!false) = true := rfl
   repeat' (first | refine yz ?_ | refine yi (encIm x) hx ?_ | refine go_load0 rfl rfl rfl rfl rfl rfl rfl ?_ | refine yp b64 q ?_ | exact zD)
  | true =>
   rw [hv] at q ok
   rw [Bool.true_and] at ok
   repeat' (first | refine yz ?_ | refine yi (encIm x) hx ?_ | refine go_load0 rfl rfl rfl rfl rfl rfl rfl ?_ | refine yp b64 q ?_)
   refine go_stop ?_
   exact ⟨⟨i + 1, by omega, by rw [ok, hR]⟩, by dsimp only; omega, (zle 0)⟩
 ·have g4 : decide ((i : Int) < ((its.map encIm).length : Int)) = false := by rw [l1]; simp; omega
  rw [List.drop_eq_nil_of_le hge, hR] at ok
  rw [← ok]
  repeat' (first | refine yz ?_ | exact zD)
theorem take_app {α : Type} {l : List α} {i : Nat} {x : α} (h : l[i]? = some x) : l.take (i + 1) = l.take i ++ [x] := by
 rw [List.take_add_one, h]
 rfl
def envA : List ByteArray → List V → List Bd
 | [], _ => []
 | c :: q, [] => ⟨c, vNull⟩ :: envA q []
 | c :: q, v :: r => ⟨c, v⟩ :: envA q r
theorem envA_len : ∀ (c : List ByteArray) (r : List V), (envA c r).length = c.length
 | [], _ => rfl
 | c :: q, [] => by simp [envA, envA_len q []]
 | c :: q, v :: r => by simp [envA, envA_len q r]
theorem envA_mem : ∀ (c : List ByteArray) (r : List V), ∀ b ∈ envA c r, b.v = vNull ∨ b.v ∈ r
 | [], _, b, h => by simp [envA] at h
 | c :: q, [], b, h => by
  simp only [envA, List.mem_cons] at h
  rcases h with rfl | h
  ·exact .inl rfl
  ·exact envA_mem q [] b h
 | c :: q, v :: r, b, h => by
  simp only [envA, List.mem_cons] at h
  rcases h with rfl | h
  ·exact .inr (by simp)
  ·rcases envA_mem q r b h with e | e
   ·exact .inl e
   ·exact .inr (by simp [e])
theorem envA_at {c : List ByteArray} {x : ByteArray} {i : Nat} (h : c[i]? = some x) (r : List V) : envA (c.drop i) (r.drop i) = ⟨x, r.getD i vNull⟩ :: envA (c.drop (i + 1)) (r.drop (i + 1)) := by
 rw [drop_at h]
 rcases Nat.lt_or_ge i r.length with hlt | hge
 ·rw [List.drop_eq_getElem_cons hlt, envA, List.getD_eq_getElem?_getD, List.getElem?_eq_getElem hlt]
  rfl
 ·rw [List.drop_eq_nil_of_le hge, envA, List.getD_eq_getElem?_getD, List.getElem?_eq_none hge, List.drop_eq_nil_of_le (show r.length ≤ i + 1 by omega)]
  rfl
structure EnT (c : List ByteArray) (r : List V) where
 i : Nat
 out : List Bd
 hi : i ≤ c.length
 ho : out.length ≤ i
 ht : envA c r = out ++ envA (c.drop i) (r.drop i)
theorem env_ev (c : List ByteArray) (r : List V) (hc : c.length ≤ 1000000) : Ev E 65 [.sl (c.map .str), encRw r] (.d (.sl ((envA c r).map encBd))) := by
 have hle : (c.map D.str).length = c.length := by simp
 have hlr : (encL r).length = r.length := encL_len r
 unfold encRw
 generalize hR : envA c r = R
 refine ye2 func65 ntmps65 fun _ _ _=>?_
 repeat' (refine yz ?_)
 refine go_loop_ (α := EnT c r) (fun p => ⟨[(1, .d (.sl (encL r))), (5, rowX (p.out.map encBd)), (9, .d (.sl (c.map .str))), (10, .d (.int (c.map D.str).length)), (11, .d (.int p.i))], rowO 120 6 (p.out.map encBd)⟩) (fun p => c.length - p.i) ⟨0, [], by omega, by simp, rfl⟩ (zle 0) ?_
 rintro ⟨i, out, hi, ho, ht⟩
 dsimp only
 have hll : (out.map encBd).length ≤ i := by simpa using ho
 rcases Nat.lt_or_ge i c.length with hlt | hge
 ·have g1 : decide ((i : Int) < ((c.map D.str).length : Int)) = true := by rw [hle]; simpa using hlt
  have hx0 := List.getElem?_eq_getElem hlt
  generalize c[i] = x at hx0
  have hx : (c.map D.str)[(i : Int).toNat]? = some (.str x) := map_at hx0
  rw [envA_at hx0] at ht
  have ht' : envA c r = (out ++ [(⟨x, r.getD i vNull⟩ : Bd)]) ++ envA (c.drop (i + 1)) (r.drop (i + 1)) := by rw [ht]; simp
  have happ : out.map encBd ++ [encBd ⟨x, r.getD i vNull⟩] = (out ++ [(⟨x, r.getD i vNull⟩ : Bd)]).map encBd := by simp
  rcases Nat.lt_or_ge i r.length with hltr | hger
  ·have g2 : decide ((i : Int) < ((encL r).length : Int)) = true := by rw [hlr]; simpa using hltr
   have hy0 := List.getElem?_eq_getElem hltr
   have ed : r.getD i vNull = r[i] := by rw [List.getD_eq_getElem?_getD, hy0]; rfl
   rw [ed] at ht' happ
   generalize r[i] = y at hy0 ht' happ
   have hy : (encL r)[(i : Int).toNat]? = some (enc y) := encL_get (by rw [Int.toNat_natCast]; exact hy0)
   generalize hq : out.map encBd = eo at *
   match eo, hll with
   | [], hll =>
    dsimp only [rowX, rowO]
    repeat' (first | refine yz ?_ | refine yi (.str x) hx ?_ | refine yi (enc y) hy ?_ | (refine qS rfl ⟨by simp, fun d hd => by (obtain rfl := List.mem_singleton.1 hd; rfl), by (show (0 + 1) * 80 ≤ 140737488355328; omega), by (show 0 + 1 ≤ 9223372036854775807; omega)⟩ ?_))
    refine go_stop ?_
    refine ⟨⟨i + 1, out ++ [⟨x, y⟩], by omega, by simp; omega, ht'⟩, by dsimp only; omega, ?_⟩
    dsimp only
    rw [← happ]
    exact (zren [1])
   | a :: q, hll =>
    dsimp only [rowX, rowO]
    repeat' (first | refine yz ?_ | refine yi (.str x) hx ?_ | refine yi (enc y) hy ?_ | (refine qS rfl ⟨by simp, fun d hd => by (obtain rfl := List.mem_singleton.1 hd; rfl), by (show ((a :: q).length + 1) * 80 ≤ 140737488355328; omega), by (show (a :: q).length + 1 ≤ 9223372036854775807; omega)⟩ ?_))
    refine go_stop ?_
    refine ⟨⟨i + 1, out ++ [⟨x, y⟩], by omega, by simp; omega, ht'⟩, by dsimp only; omega, ?_⟩
    dsimp only
    rw [← happ]
    exact (zren [2])
  ·have g2 : decide ((i : Int) < ((encL r).length : Int)) = false := by rw [hlr]; simp; omega
   have ed : r.getD i vNull = vNull := by rw [List.getD_eq_getElem?_getD, List.getElem?_eq_none hger]; rfl
   rw [ed] at ht' happ
   generalize hq : out.map encBd = eo at *
   match eo, hll with
   | [], hll =>
    dsimp only [rowX, rowO]
    repeat' (first | refine yz ?_ | refine yi (.str x) hx ?_ | (refine qS rfl ⟨by simp, fun d hd => by (obtain rfl := List.mem_singleton.1 hd; rfl), by (show (0 + 1) * 80 ≤ 140737488355328; omega), by (show 0 + 1 ≤ 9223372036854775807; omega)⟩ ?_))
    refine go_stop ?_
    refine ⟨⟨i + 1, out ++ [⟨x, vNull⟩], by omega, by simp; omega, ht'⟩, by dsimp only; omega, ?_⟩
    dsimp only
    rw [← happ]
    exact (zren [1])
   | a :: q, hll =>
    dsimp only [rowX, rowO]
    repeat' (first | refine yz ?_ | refine yi (.str x) hx ?_ | (refine qS rfl ⟨by simp, fun d hd => by (obtain rfl := List.mem_singleton.1 hd; rfl), by (show ((a :: q).length + 1) * 80 ≤ 140737488355328; omega), by (show (a :: q).length + 1 ≤ 9223372036854775807; omega)⟩ ?_))
    refine go_stop ?_
    refine ⟨⟨i + 1, out ++ [⟨x, vNull⟩], by omega, by simp; omega, ht'⟩, by dsimp only; omega, ?_⟩
    dsimp only
    rw [← happ]
    exact (zren [2])
 ·have g1 : decide ((i : Int) < ((c.map D.str).length : Int)) = false := by rw [hle]; simp; omega
  rw [List.drop_eq_nil_of_le hge, envA, List.append_nil, hR] at ht
  rw [ht]
  generalize out.map encBd = eo at *
  match eo with
  | [] =>
   dsimp only [rowX, rowO]
   repeat' (first | refine yz ?_ | exact zD)
  | a :: q =>
   dsimp only [rowX, rowO]
   refine qA ?_
   refine go_frz 0 rfl ?_
   repeat' (first | refine yz ?_ | exact zD)
def argF (g : Gr) (e : Ex) (envs : List (List Bd)) : List V := envs.map fun v => valF g v (e.ks.headD default)
def apG (g : Gr) (envs : List (List Bd)) (e : Ex) : V :=
 bif e.ks.length == 0 then (bif e.nm.toList == nmCount then vInt envs.length else agF e.nm e.ds []) else agF e.nm e.ds (argF g e envs)
structure ApT (g : Gr) (e : Ex) (grp : List Mm) where
 i : Nat
 out : List V
 hi : i ≤ grp.length
 ht : out = argF g e ((grp.take i).map (·.env))
theorem valF_nar (g : Gr) (env : List Bd) (e : Ex) : nar (valF g env e) = true := okV_nar (valF_ok g env e)
theorem apply_ev (g : Gr) (e : Ex) (grp : List Mm) (hm : grp.length ≤ 1000000) (hE : ∀ x, e.ks[0]? = some x → ∀ m ∈ grp, EvOK g m.env x) : Ev E 109 [encGr g, encE e, .sl (grp.map encM)] (.d (enc (apG g (grp.map (·.env)) e))) := by
 have hk : (kidsE e).length = e.ks.length := kidsE_len e
 have hl : (grp.map encM).length = grp.length := by simp
 have hl2 : (grp.map (·.env)).length = grp.length := by simp
 unfold apG
 rw [hl2]
 cases h0 : e.ks.length == 0 with
 | true =>
  have g1 : (((kidsE e).length : Int) == 0) = true := by rw [hk, beq_iff_eq]; rw [beq_iff_eq] at h0; omega
  rw [cond_true]
  cases hc : e.nm.toList == nmCount with
  | true =>
   have g2 : (e.nm.toList == (⟨#[99, 111, 117, 110, 116]⟩ : ByteArray).toList) = true := by rw [nmCountE]; exact hc
   have qi := int_ev (grp.map encM).length
   rw [cond_true, ← hl]
   refine ye3 func109 ntmps109 fun _ _ _=>?_
   repeat' (first | refine yz ?_ | refine yp b31 qi ?_ | exact zD)
  | false =>
   have g2 : (e.nm.toList == (⟨#[99, 111, 117, 110, 116]⟩ : ByteArray).toList) = false := by rw [nmCountE]; exact hc
   have qa : Ev E 22 [.str e.nm, .bool e.ds, .sl []] (.d (enc (agF e.nm e.ds []))) := Agg_ev e.nm e.ds [] (by simp) (fun x hx => by simp at hx)
   rw [cond_false]
   refine ye3 func109 ntmps109 fun _ _ _=>?_
   repeat' (first | refine yz ?_ | refine yp b22 qa ?_ | exact zD)
 | false =>
  have g1 : (((kidsE e).length : Int) == 0) = false := by rw [hk, beq_eq_false_iff_ne]; rw [beq_eq_false_iff_ne] at h0; omega
  rw [cond_false]
  rw [beq_eq_false_iff_ne] at h0
  obtain ⟨x, hx0⟩ : ∃ x, e.ks[0]? = some x := ⟨_, List.getElem?_eq_getElem (show 0 < e.ks.length by omega)⟩
  have hdef : e.ks.headD default = x := by
   cases hks : e.ks with
   | nil => rw [hks] at hx0; cases hx0
   | cons a b => rw [hks] at hx0; simpa using hx0
  have hE' := hE x hx0
  have hx : (kidsE e)[(0 : Int).toNat]? = some (encE x) := kidsE_get hx0
  have qa : Ev E 22 [.str e.nm, .bool e.ds, .sl (encL (argF g e (grp.map (·.env))))] (.d (enc (agF e.nm e.ds (argF g e (grp.map (·.env)))))) := Agg_ev e.nm e.ds _ (by unfold argF; simp; omega) (fun y hy => by
   unfold argF at hy
   obtain ⟨v, -, rfl⟩ := List.mem_map.1 hy
   exact valF_nar _ _ _)
  refine ye3 func109 ntmps109 fun _ _ _=>?_
  repeat' (refine yz ?_)
  refine go_loop_ (α := ApT g e grp) (fun p => ⟨[(7, rowK 3 (encL p.out)), (2, .d (.sl (grp.map encM))), (3, .ptr 0 0), (4, .ptr 1 0), (6, .ptr 2 0), (25, .d (.sl (grp.map encM))), (26, .d (.int (grp.map encM).length)), (27, .d (.int p.i))], [.var 41 (.w (.d (encGr g))), .var 52 (.w (.d (encE e))), zVal] ++ rowO 35 5 (encL p.out)⟩) (fun p => grp.length - p.i) ⟨0, [], by omega, rfl⟩ (zle 3) ?_
  rintro ⟨i, out, hi, ht⟩
  dsimp only
  rcases Nat.lt_or_ge i grp.length with hlt | hge
  ·have g2 : decide ((i : Int) < ((grp.map encM).length : Int)) = true := by rw [hl]; simpa using hlt
   have hm0 := List.getElem?_eq_getElem hlt
   generalize grp[i] = m at hm0
   have hmx : (grp.map encM)[(i : Int).toNat]? = some (encM m) := map_at hm0
   have q := Eval_ev g m.env x (hE' m (List.mem_of_getElem? hm0))
   have ht' : out ++ [valF g m.env x] = argF g e ((grp.take (i + 1)).map (·.env)) := by
    rw [ht]
    unfold argF
    rw [take_app hm0, List.map_append, List.map_append, hdef]
    rfl
   have hol : out.length ≤ i := by rw [ht]; unfold argF; simp; omega
   have happ := encL_app out (valF g m.env x)
   have hll : (encL out).length ≤ i := by rw [encL_len]; exact hol
   generalize encL out = eo at *
   match eo, hll with
   | [], hll =>
    dsimp only [rowK, rowO, List.append]
    repeat' (first | refine yq 9 [10] ?_ | refine yf 9 0 10 ?_ | refine yf 9 11 1 ?_ | refine rgN ?_ | refine yz ?_ | refine yi (encM m) hmx ?_ | refine yi (encE x) hx ?_ | refine yp b66 q ?_ | refine rgS (id := 9) (i := 10) rfl rfl rfl rfl (⟨by simp, fun d hd => by (obtain rfl := List.mem_singleton.1 hd; rfl), by (show (0 + 1) * 64 ≤ 140737488355328; omega), by (show 0 + 1 ≤ 9223372036854775807; omega)⟩) (by repeat (first | exact trivial | refine ⟨⟨rfl, rfl⟩, ?_⟩ | refine ⟨trivial, ?_⟩)) ?_)
    refine go_stop ?_
    refine ⟨⟨i + 1, out ++ [valF g m.env x], by omega, ht'⟩, by dsimp only; omega, ?_⟩
    dsimp only
    rw [happ]
    exact (zren [0, 1, 2, 4])
   | a :: q0, hll =>
    dsimp only [rowK, rowO, List.append]
    repeat' (first | refine yq 9 [10] ?_ | refine yf 9 0 10 ?_ | refine yf 9 11 1 ?_ | refine rgN ?_ | refine yz ?_ | refine yi (encM m) hmx ?_ | refine yi (encE x) hx ?_ | refine yp b66 q ?_ | refine rgS (id := 9) (i := 10) rfl rfl rfl rfl (⟨by simp, fun d hd => by (obtain rfl := List.mem_singleton.1 hd; rfl), by (show ((a :: q0).length + 1) * 64 ≤ 140737488355328; omega), by (show (a :: q0).length + 1 ≤ 9223372036854775807; omega)⟩) (by repeat (first | exact trivial | refine ⟨⟨rfl, rfl⟩, ?_⟩ | refine ⟨trivial, ?_⟩)) ?_)
    refine go_stop ?_
    refine ⟨⟨i + 1, out ++ [valF g m.env x], by omega, ht'⟩, by dsimp only; omega, ?_⟩
    dsimp only
    rw [happ]
    exact (zren [0, 1, 2, 5])
  ·have g2 : decide ((i : Int) < ((grp.map encM).length : Int)) = false := by rw [hl]; simp; omega
   rw [List.take_of_length_le hge] at ht
   rw [← ht] at qa ⊢
   generalize agF e.nm e.ds out = R at *
   generalize encL out = eo at *
   match eo with
   | [] =>
    dsimp only [rowK, rowO, List.append]
    repeat' (first | refine yz ?_ | refine yp b22 qa ?_ | exact zD)
   | a :: q0 =>
    dsimp only [rowK, rowO, List.append]
    refine go_frz 3 rfl ?_
    repeat' (first | refine yz ?_ | refine yp b22 qa ?_ | exact zD)
end Go.Proofs.YtjgmakalledclaaGreatDoor
