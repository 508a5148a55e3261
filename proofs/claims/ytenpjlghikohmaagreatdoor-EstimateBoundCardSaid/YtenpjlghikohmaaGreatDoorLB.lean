/- Comparison of numbers of many limbs, by both texts; Statistics: the counts, by both texts; Statistics: the greatest degrees, by both texts; The bound for an atom, by both texts; The bound for an atom, by both texts: the functions themselves; The specification's bound for an atom; The factors and the variables of a set of atoms, by both texts. Conditions: each part's own, as it says. -/
import Derived.Test.YtenpjlghikohmaaGreatDoorLA
import Derived.Test.YtenpjlghikohmaaGreatDoorMA
import Derived.Test.YtenpjlghikohmaaGreatDoorGC
import Derived.Test.YtenpjlghikohmaaGreatDoorGG
set_option linter.unusedVariables false
set_option linter.unusedSimpArgs false
namespace Go.Proofs.YtenpjlghikohmaaGreatDoor
set_option maxRecDepth 4000
open Go Go.Abs Go.Val Go.Proofs.Tryz
attribute [local irreducible] go SGo HasBody Ev ExtEv EvO EvS
theorem cin_lt {x y : Int} (h : x < y) : Ev E 52 [.int x, .int y] (.d (.int (-1))) := by
 have := compare_ev x y
 unfold Lib.compareInt at this
 rwa [if_pos h] at this
theorem cin_gt {x y : Int} (h : y < x) : Ev E 52 [.int x, .int y] (.d (.int 1)) := by
 have := compare_ev x y
 unfold Lib.compareInt at this
 rwa [if_neg (by omega), if_pos h] at this
theorem cin_eq {x y : Int} (h : x = y) : Ev E 52 [.int x, .int y] (.d (.int 0)) := by
 subst h
 have := compare_ev x x
 unfold Lib.compareInt at this
 rwa [if_neg (by omega), if_neg (by omega)] at this
structure SCm (a b : List Int) where
 j : Nat
 hj : j ≤ a.length
 h : a.drop j = b.drop j
theorem cmp_len {m n : Nat} : ((lim m).length < (lim n).length → m < n) ∧ ((lim n).length < (lim m).length → n < m) := by
 constructor <;> intro h <;> have := vl_len (lim_okL _) (lim_okL _) h <;> rwa [vl_lim, vl_lim] at this
theorem cmp_end {m n : Nat} (h : (lim m).drop 0 = (lim n).drop 0) : m = n := by
 rw [List.drop_zero, List.drop_zero] at h
 rw [← vl_lim m, ← vl_lim n, h]
theorem ncmp_ev (m n : Nat) (hm : (lim m).length ≤ 64) (hn : (lim n).length ≤ 64) : Ev E 17 [natD m, natD n] (.d (.int (cmpN m n))) := by
 have h1 := clean_ev m hm
 have h2 := clean_ev n hn
 have ea := iL_len (lim m)
 have eb := iL_len (lim n)
 have z1 : ((-1 : Int) != 0) = true := rfl
 have z2 : ((1 : Int) != 0) = true := rfl
 have z3 : ((0 : Int) != 0) = false := rfl
 rcases Nat.lt_trichotomy (lim m).length (lim n).length with hl | hl | hl
 ·have h3 := cin_lt (x := ((iL (lim m)).length : Int)) (y := ((iL (lim n)).length : Int)) (by omega)
  rw [cmpN_lt (cmp_len.1 hl)]
  refine ye2 func17 ntmps17 fun _ _ _=>?_
  repeat' (first | refine yz ?_ | refine yp b51 h1 ?_ | refine yp b51 h2 ?_ | refine yp b52 h3 ?_ | refine yx ?_ | (refine yy ?_ ?_ <;> intro _) | exact zD | exact zL)
 ·have h3 := cin_eq (x := ((iL (lim m)).length : Int)) (y := ((iL (lim n)).length : Int)) (by omega)
  refine ye2 func17 ntmps17 fun _ _ _=>?_
  repeat' (first | refine yz ?_ | refine yp b51 h1 ?_ | refine yp b51 h2 ?_ | refine yp b52 h3 ?_ | refine yx ?_ | (refine yy ?_ ?_ <;> intro _) | exact zD | exact zL)
  refine go_loop_ (α := SCm (lim m) (lim n)) (fun p => ⟨[(0, .d (natD m)), (1, .d (natD n)), (6, .d (.int ((p.j : Int) - 1)))], []⟩) (fun p => p.j) ⟨(lim m).length, Nat.le_refl _, by rw [List.drop_length, hl, List.drop_length]⟩ (by rw [ea]; exact (zle 0)) ?_
  rintro ⟨j, hj, h⟩
  dsimp only
  cases j with
  | zero =>
   have g1 : decide (((0 : Nat) : Int) - 1 ≥ 0) = false := rfl
   rw [cmp_end h, cmpN_eq]
   repeat' (first | refine yz ?_ | refine yx ?_ | (refine yy ?_ ?_ <;> intro _) | exact zD | exact zL)
  | succ k =>
   have ek : ((k + 1 : Nat) : Int) - 1 = (k : Int) := by omega
   rw [ek]
   have g1 : decide ((k : Int) ≥ 0) = true := by simp
   have hx0 := List.getElem?_eq_getElem (show k < (lim m).length by omega)
   have hy0 := List.getElem?_eq_getElem (show k < (lim n).length by omega)
   generalize (lim m)[k] = x at hx0
   generalize (lim n)[k] = y at hy0
   have hx := iL_get hx0
   have hy := iL_get hy0
   obtain ⟨c1, c2, c3⟩ := cmp_at (lim_okD m) (lim_okD n) hl hx0 hy0 h
   rw [vl_lim, vl_lim] at c1 c2
   rcases Int.lt_trichotomy x y with hc | hc | hc
   ·have h4 := cin_lt hc
    rw [cmpN_lt (c1 hc)]
    repeat' (first | refine yz ?_ | refine yi (.int x) hx ?_ | refine yi (.int y) hy ?_ | refine yp b52 h4 ?_ | refine yx ?_ | (refine yy ?_ ?_ <;> intro _) | exact zD | exact zL)
   ·have h4 := cin_eq hc
    repeat' (first | refine yz ?_ | refine yi (.int x) hx ?_ | refine yi (.int y) hy ?_ | refine yp b52 h4 ?_ | refine yx ?_ | (refine yy ?_ ?_ <;> intro _) | exact zD | exact zL)
    refine go_stop ?_
    exact ⟨⟨k, by omega, c3 hc⟩, by dsimp only; omega, (zle 0)⟩
   ·have h4 := cin_gt hc
    rw [cmpN_gt (c2 hc)]
    repeat' (first | refine yz ?_ | refine yi (.int x) hx ?_ | refine yi (.int y) hy ?_ | refine yp b52 h4 ?_ | refine yx ?_ | (refine yy ?_ ?_ <;> intro _) | exact zD | exact zL)
 ·have h3 := cin_gt (x := ((iL (lim m)).length : Int)) (y := ((iL (lim n)).length : Int)) (by omega)
  rw [cmpN_gt (cmp_len.2 hl)]
  refine ye2 func17 ntmps17 fun _ _ _=>?_
  repeat' (first | refine yz ?_ | refine yp b51 h1 ?_ | refine yp b51 h2 ?_ | refine yp b52 h3 ?_ | refine yx ?_ | (refine yy ?_ ?_ <;> intro _) | exact zD | exact zL)
theorem fit_ST {s : STA} (h : Fit (encST s)) : inR .i64 s.nodes ∧ inR .i64 s.edges ∧ Fit (.sl (s.lb.map encCT)) ∧ Fit (.sl (s.ty.map encCT)) ∧ Fit (.sl (s.outs.map intsD)) ∧ Fit (.sl (s.ins.map intsD)) :=
 ⟨(h.aggs (.int s.nodes) (by simp)).int, (h.aggs (.int s.edges) (by simp)).int, h.aggs _ (by simp), h.aggs _ (by simp), h.aggs _ (by simp), h.aggs _ (by simp)⟩
theorem fit_CT {c : CT} (h : Fit (encCT c)) : inR .i64 c.n := (h.aggs (.int c.n) (by simp)).int
theorem cntF_at {l : List CT} {i : Nat} {x : CT} {s : ByteArray} (h : l[i]? = some x) : cntF (l.drop i) s = bif x.nm.toList == s.toList then x.n else cntF (l.drop (i + 1)) s := by
 unfold cntF
 rw [find_at h]
 cases x.nm.toList == s.toList <;> rfl
theorem cntF_rng {l : List CT} {s : ByteArray} (h : Fit (.sl (l.map encCT))) : inR .i64 (cntF l s) := by
 unfold cntF
 split
 ·rename_i c hc
  exact fit_CT ((fit_map h).2 _ (List.mem_of_find?_eq_some hc))
 ·simp [inR]
structure SCn (l : List CT) (s : ByteArray) where
 i : Nat
 hi : i ≤ l.length
 ok : cntF l s = cntF (l.drop i) s
theorem count_ev (l : List CT) (s : ByteArray) : Ev E 219 [.sl (l.map encCT), .str s] (.d (.int (cntF l s))) := Ev.fit fun hfit => by
 have hmax := (fit_map (hfit (.sl (l.map encCT)) (by simp))).1
 have hle : (l.map encCT).length = l.length := by simp
 refine ye2 func219 ntmps219 fun _ _ _=>?_
 repeat' (first | refine yz ?_ | refine yx ?_ | (refine yy ?_ ?_ <;> intro _) | exact zD | exact zL)
 refine go_loop_ (α := SCn l s) (fun p => ⟨[(1, .d (.str s)), (7, .d (.sl (l.map encCT))), (8, .d (.int (l.map encCT).length)), (9, .d (.int p.i))], []⟩) (fun p => l.length - p.i) ⟨0, by omega, rfl⟩ (zle 0) ?_
 rintro ⟨i, hi, ok⟩
 dsimp only
 rcases Nat.lt_or_ge i l.length with hlt | hge
 ·have g1 : decide ((i : Int) < ((l.map encCT).length : Int)) = true := by rw [hle]; simpa using hlt
  have hx0 := List.getElem?_eq_getElem hlt
  generalize l[i] = x at hx0
  have hx := map_at (f := encCT) hx0
  rw [ok, cntF_at hx0]
  cases hc : x.nm.toList == s.toList with
  | true =>
   repeat' (first | refine yz ?_ | refine yi (encCT x) hx ?_ | refine yx ?_ | (refine yy ?_ ?_ <;> intro _) | exact zD | exact zL)
  | false =>
   repeat' (first | refine yz ?_ | refine yi (encCT x) hx ?_ | refine yx ?_ | (refine yy ?_ ?_ <;> intro _) | exact zD | exact zL)
   refine go_stop ?_
   exact ⟨⟨i + 1, by omega, by rw [ok, cntF_at hx0, hc]; rfl⟩, by dsimp only; omega, (zle 0)⟩
 ·have g1 : decide ((i : Int) < ((l.map encCT).length : Int)) = false := by rw [hle]; simp; omega
  rw [ok, List.drop_eq_nil_of_le hge]
  repeat' (first | refine yz ?_ | refine yx ?_ | (refine yy ?_ ?_ <;> intro _) | exact zD | exact zL)
theorem dnodes_ev (s : STA) (nm : ByteArray) : Ev E 135 [encST s, .str nm] (.d (.int (nodesF s nm))) := by
 have h := count_ev s.lb nm
 unfold nodesF
 cases hc : nm.toList == (⟨#[]⟩ : ByteArray).toList with
 | true =>
  refine ye2 func135 ntmps135 fun _ _ _=>?_
  repeat' (first | refine yz ?_ | refine yx ?_ | (refine yy ?_ ?_ <;> intro _) | exact zD | exact zL)
 | false =>
  refine ye2 func135 ntmps135 fun _ _ _=>?_
  repeat' (first | refine yz ?_ | refine yp b219 h ?_ | refine yx ?_ | (refine yy ?_ ?_ <;> intro _) | exact zD | exact zL)
structure SEg (s : STA) (ty : List ByteArray) where
 i : Nat
 n : Int
 hi : i ≤ ty.length
 ok : ty.foldl (fun n t => addW n (cntF s.ty t)) 0 = (ty.drop i).foldl (fun n t => addW n (cntF s.ty t)) n
theorem dedges_ev (s : STA) (ty : List ByteArray) : Ev E 127 [encST s, .sl (ty.map .str)] (.d (.int (edgesF s ty))) := Ev.fit fun hfit => by
 have hmax := (fit_map (hfit (.sl (ty.map .str)) (by simp))).1
 have hle : (ty.map D.str).length = ty.length := by simp
 unfold edgesF
 cases h0 : ty.length == 0 with
 | true =>
  have g0 : (((ty.map D.str).length : Int) == 0) = true := by rw [hle]; simpa using h0
  refine ye2 func127 ntmps127 fun _ _ _=>?_
  repeat' (first | refine yz ?_ | refine yx ?_ | (refine yy ?_ ?_ <;> intro _) | exact zD | exact zL)
 | false =>
  have g0 : (((ty.map D.str).length : Int) == 0) = false := by rw [hle]; simpa using h0
  rw [cond_false]
  refine ye2 func127 ntmps127 fun _ _ _=>?_
  repeat' (first | refine yz ?_ | refine yx ?_ | (refine yy ?_ ?_ <;> intro _) | exact zD | exact zL)
  refine go_loop_ (α := SEg s ty) (fun p => ⟨[(2, .ptr 0 0), (5, .d (.int p.n)), (13, .d (.sl (ty.map .str))), (14, .d (.int (ty.map D.str).length)), (15, .d (.int p.i))], [.var 42 (.w (.d (encST s)))]⟩) (fun p => ty.length - p.i) ⟨0, 0, by omega, rfl⟩ (zle 1) ?_
  rintro ⟨i, n, hi, ok⟩
  dsimp only
  rcases Nat.lt_or_ge i ty.length with hlt | hge
  ·have g1 : decide ((i : Int) < ((ty.map D.str).length : Int)) = true := by rw [hle]; simpa using hlt
   have hx0 := List.getElem?_eq_getElem hlt
   generalize ty[i] = x at hx0
   have hx := map_at (f := D.str) hx0
   have h := count_ev s.ty x
   repeat' (first | (refine go_addW 24 rfl rfl rfl rfl rfl rfl ?_) | refine yz ?_ | refine yi (.str x) hx ?_ | refine yp b219 h ?_ | refine yx ?_ | (refine yy ?_ ?_ <;> intro _) | exact zD | exact zL)
   refine go_stop ?_
   exact ⟨⟨i + 1, addW n (cntF s.ty x), by omega, by rw [ok, drop_at hx0]; rfl⟩, by dsimp only; omega, (zle 1)⟩
  ·have g1 : decide ((i : Int) < ((ty.map D.str).length : Int)) = false := by rw [hle]; simp; omega
   rw [ok, List.drop_eq_nil_of_le hge]
   repeat' (first | refine yz ?_ | refine yx ?_ | (refine yy ?_ ?_ <;> intro _) | exact zD | exact zL)
def entF (l : List CT) (s : ByteArray) : Int := match idxC l s with | some i => (i : Int) | none => -1
structure SEn (l : List CT) (s : ByteArray) where
 i : Nat
 hi : i ≤ l.length
 ok : ∀ j, j < i → ∀ c, l[j]? = some c → (c.nm.toList == s.toList) = false
theorem idxC_none {l : List CT} {s : ByteArray} (h : ∀ j, j < l.length → ∀ c, l[j]? = some c → (c.nm.toList == s.toList) = false) : idxC l s = none := by
 unfold idxC
 rw [List.findIdx?_eq_none_iff]
 intro x hx
 obtain ⟨j, hj⟩ := List.getElem?_of_mem hx
 exact h j (List.getElem?_eq_some_iff.1 hj).1 x hj
theorem idxC_some {l : List CT} {s : ByteArray} {i : Nat} {x : CT} (hx : l[i]? = some x) (hc : (x.nm.toList == s.toList) = true) (h : ∀ j, j < i → ∀ c, l[j]? = some c → (c.nm.toList == s.toList) = false) : idxC l s = some i := by
 unfold idxC
 have hi := (List.getElem?_eq_some_iff.1 hx).1
 rw [List.findIdx?_eq_some_iff_getElem]
 refine ⟨hi, ?_, fun j hj => ?_⟩
 ·rw [List.getElem?_eq_getElem hi] at hx
  cases hx
  exact hc
 ·have := h j hj _ (List.getElem?_eq_getElem (by omega))
  simpa using this
theorem entF_none {l : List CT} {s : ByteArray} (h : idxC l s = none) : entF l s = -1 := by unfold entF; rw [h]
theorem entF_some {l : List CT} {s : ByteArray} {i : Nat} (h : idxC l s = some i) : entF l s = (i : Int) := by unfold entF; rw [h]
theorem addW_rng (a b : Int) : inR .i64 (addW a b) := inR_wrapped .i64 _
attribute [local irreducible] PGo
theorem grtF_out {l : List (List Int)} {i : Nat} (h : l.length ≤ i) : grtF l i = 0 := by unfold grtF; rw [List.getD_eq_getElem?_getD, List.getElem?_eq_none h]; rfl
theorem grtF_at {l : List (List Int)} {i : Nat} {x : List Int} (h : l[i]? = some x) : grtF l i = x.headD 0 := by unfold grtF; rw [List.getD_eq_getElem?_getD, h]; rfl
theorem greatest_ev (l : List (List Int)) (i : Nat) : Ev E 222 [.sl (l.map intsD), .int i] (.d (.int (grtF l i))) := by
 have hle : (l.map intsD).length = l.length := by simp
 rcases Nat.lt_or_ge i l.length with hlt | hge
 ·have g1 : decide ((i : Int) ≥ ((l.map intsD).length : Int)) = false := by rw [hle]; simp; omega
  have hx0 := List.getElem?_eq_getElem hlt
  generalize l[i] = x at hx0
  have hx := map_at (f := intsD) hx0
  rw [grtF_at hx0]
  cases x with
  | nil =>
   have g2 : (((List.map D.int []).length : Int) == 0) = true := rfl
   refine ye2 func222 ntmps222 fun _ _ _=>?_
   repeat' (first | refine yz ?_ | refine yi (intsD []) hx ?_ | refine yx ?_ | (refine yy ?_ ?_ <;> intro _) | exact zD | exact zL)
  | cons a r =>
   have g2 : (((List.map D.int (a :: r)).length : Int) == 0) = false := by simp; omega
   have hy : (List.map D.int (a :: r))[(0 : Int).toNat]? = some (.int a) := rfl
   have g3 : 0 < (List.map D.int (a :: r)).length := by simp
   refine ye2 func222 ntmps222 fun _ _ _=>?_
   repeat' (first | refine yz ?_ | refine qI (intsD (a :: r)) rfl (guardX_ok rfl) rfl rfl rfl rfl rfl rfl (by first | omega | decide) hx ?_ | refine yi (.int a) hy ?_ | refine yx ?_ | (refine yy ?_ ?_ <;> intro _) | exact zD | exact zL)
 ·have g1 : decide ((i : Int) ≥ ((l.map intsD).length : Int)) = true := by rw [hle]; simpa using hge
  rw [grtF_out hge]
  refine ye2 func222 ntmps222 fun _ _ _=>?_
  repeat' (first | refine yz ?_ | refine yx ?_ | (refine yy ?_ ?_ <;> intro _) | exact zD | exact zL)
def optI (o : Option Nat) : Int := match o with | some i => (i : Int) | none => -1
abbrev oStr (s : ByteArray) : AObj := .var 9 (.w (.d (.str s)))
theorem dmax1_ev (c : CT) (s : ByteArray) : EvS E 224 [.d (encCT c), .ptr 0 0] [oStr s] (.d (.bool (c.nm.toList == s.toList))) [oStr s] := by
 refine yd func224 ntmps224 fun _ _ _ _=>?_
 repeat' (first | refine yz ?_ | refine yr [0] ?_ | refine yt [0] ?_ | refine yx ?_ | (refine yy ?_ ?_ <;> intro _) | exact zD | exact zL)
theorem indexC_ev (l : List CT) (s : ByteArray) (hmax : l.length ≤ 9223372036854775807) : EvS E 223 [.d (.sl (l.map encCT)), .clo 224 [.ptr 0 0]] [oStr s] (.d (.int (entF l s))) [oStr s] := by
 have hle : (l.map encCT).length = l.length := by simp
 refine yd func223 ntmps223 fun _ _ _ _=>?_
 repeat' (first | refine yz ?_ | refine yx ?_ | (refine yy ?_ ?_ <;> intro _) | exact zD | exact zL)
 refine go_loop_ (α := SEn l s) (fun p => ⟨[(0, .d (.sl (l.map encCT))), (1, .clo 224 [.ptr 0 0]), (7, .d (.int (l.map encCT).length)), (8, .d (.int p.i))], [oStr s]⟩) (fun p => l.length - p.i) ⟨0, by omega, fun j hj => absurd hj (by omega)⟩ (zle 1) ?_
 rintro ⟨i, hi, ok⟩
 dsimp only
 rcases Nat.lt_or_ge i l.length with hlt | hge
 ·have g1 : decide ((i : Int) < ((l.map encCT).length : Int)) = true := by rw [hle]; simpa using hlt
  have hx0 := List.getElem?_eq_getElem hlt
  generalize l[i] = x at hx0
  have hx := map_at (f := encCT) hx0
  have h := dmax1_ev x s
  cases hc : x.nm.toList == s.toList with
  | true =>
   rw [hc] at h
   rw [entF_some (idxC_some hx0 hc ok)]
   repeat' (first | refine yz ?_ | refine yi (encCT x) hx ?_ | refine go_callS [0] rfl rfl rfl rfl (FnX.clo _ _) b224 (h) rfl rfl rfl rfl rfl ?_ | refine yr [0] ?_ | refine yt [0] ?_ | refine yx ?_ | (refine yy ?_ ?_ <;> intro _) | exact zD | exact zL)
  | false =>
   rw [hc] at h
   repeat' (first | refine yz ?_ | refine yi (encCT x) hx ?_ | refine go_callS [0] rfl rfl rfl rfl (FnX.clo _ _) b224 (h) rfl rfl rfl rfl rfl ?_ | refine yr [0] ?_ | refine yt [0] ?_ | refine yx ?_ | (refine yy ?_ ?_ <;> intro _) | exact zD | exact zL)
   refine go_stop ?_
   refine ⟨⟨i + 1, by omega, fun j hj c hjc => ?_⟩, by dsimp only; omega, (zle 1)⟩
   rcases Nat.lt_succ_iff_lt_or_eq.1 hj with h1 | rfl
   ·exact ok j h1 c hjc
   ·rw [hx0] at hjc; cases hjc; exact hc
 ·have g1 : decide ((i : Int) < ((l.map encCT).length : Int)) = false := by rw [hle]; simp; omega
  rw [entF_none (idxC_none fun j hj => ok j (by omega))]
  repeat' (first | refine yz ?_ | refine yr [0] ?_ | refine yt [0] ?_ | refine yx ?_ | (refine yy ?_ ?_ <;> intro _) | exact zD | exact zL)
structure SM0 (s : STA) (l : List (List Int)) where
 i : Nat
 n : Int
 hi : i ≤ s.ty.length
 hn : inR .i64 n
 ok : (List.range s.ty.length).foldl (fun n i => addW n (grtF l i)) 0 = ((List.range s.ty.length).drop i).foldl (fun n i => addW n (grtF l i)) n
structure SM1 (s : STA) (l : List (List Int)) (ty : List ByteArray) where
 i : Nat
 n : Int
 hi : i ≤ ty.length
 hn : inR .i64 n
 ok : ty.foldl (fun n t => match idxC s.ty t with | some i => addW n (grtF l i) | none => n) 0 = (ty.drop i).foldl (fun n t => match idxC s.ty t with | some i => addW n (grtF l i) | none => n) n
theorem range_drop_at {n i : Nat} (h : i < n) : (List.range n).drop i = i :: (List.range n).drop (i + 1) := drop_at (List.getElem?_range h)
theorem maxF_eq (s : STA) (ty : List ByteArray) (dir : Int) : maxF s ty dir = bif ty.length == 0 then (List.range s.ty.length).foldl (fun n i => addW n (grtF (dirF s dir) i)) 0 else
 ty.foldl (fun n t => match idxC s.ty t with | some i => addW n (grtF (dirF s dir) i) | none => n) 0 := rfl
abbrev oST (s : STA) : AObj := .var 42 (.w (.d (encST s)))
set_option maxHeartbeats 1000000 in
theorem dmax_ev (s : STA) (ty : List ByteArray) (dir : Int) : Ev E 129 [encST s, .sl (ty.map .str), .int dir] (.d (.int (maxF s ty dir))) := Ev.fit fun hfit => by
 have hmax := (fit_map (hfit (.sl (ty.map .str)) (by simp))).1
 have hmax2 := (fit_map (fit_ST (hfit (encST s) (by simp))).2.2.2.1).1
 have hle : (ty.map D.str).length = ty.length := by simp
 have hle2 : (s.ty.map encCT).length = s.ty.length := by simp
 rw [maxF_eq]
 refine ye3 func129 ntmps129 fun _ _ _=>?_
 repeat' (first | (refine go_nilD 7 rfl ?_) | (refine go_cutB 0 (fun l => ⟨[(1, .d (.sl (ty.map .str))), (3, .ptr 0 0), (7, .d (.sl (l.map intsD)))], [oST s]⟩) (dirF s dir) ?_ ?_) | refine yz ?_ | refine yx ?_ | (refine yy ?_ ?_ <;> intro _) | exact zD | exact zL)
 ·unfold dirF
  cases h1 : dir == 1 with
  | true =>
   repeat' (first | refine yz ?_ | refine yx ?_ | (refine yy ?_ ?_ <;> intro _) | exact zD | exact zL)
   exact go_stop ⟨s.outs, rfl, (zle 1)⟩
  | false =>
   cases h2 : dir == 2 with
   | true =>
    repeat' (first | refine yz ?_ | refine yx ?_ | (refine yy ?_ ?_ <;> intro _) | exact zD | exact zL)
    exact go_stop ⟨s.ins, rfl, (zle 1)⟩
   | false =>
    repeat' (first | refine yz ?_ | refine yx ?_ | (refine yy ?_ ?_ <;> intro _) | exact zD | exact zL)
    exact go_stop ⟨[], rfl, (zle 1)⟩
 ·generalize dirF s dir = l
  cases h0 : ty.length == 0 with
  | true =>
   have g0 : (((ty.map D.str).length : Int) == 0) = true := by rw [hle]; simpa using h0
   rw [cond_true]
   repeat' (first | refine yz ?_ | refine yx ?_ | (refine yy ?_ ?_ <;> intro _) | exact zD | exact zL)
   refine go_loop_ (α := SM0 s l) (fun p => ⟨[(3, .ptr 0 0), (7, .d (.sl (l.map intsD))), (8, .d (.int p.n)), (27, .d (.int (s.ty.map encCT).length)), (28, .d (.int p.i))], [oST s]⟩) (fun p => s.ty.length - p.i) ⟨0, 0, by omega, by simp [inR], rfl⟩ (zle 1) ?_
   rintro ⟨i, n, hi, hn, ok⟩
   dsimp only
   rcases Nat.lt_or_ge i s.ty.length with hlt | hge
   ·have g1 : decide ((i : Int) < ((s.ty.map encCT).length : Int)) = true := by rw [hle2]; simpa using hlt
    have h := greatest_ev l i
    repeat' (first | (refine go_addW 35 rfl rfl rfl rfl rfl rfl ?_) | refine yz ?_ | refine yp b222 h ?_ | refine yx ?_ | (refine yy ?_ ?_ <;> intro _) | exact zD | exact zL)
    refine go_stop ?_
    exact ⟨⟨i + 1, addW n (grtF l i), by omega, addW_rng _ _, by rw [ok, range_drop_at hlt, List.foldl_cons]⟩, by dsimp only; omega, (zle 1)⟩
   ·have g1 : decide ((i : Int) < ((s.ty.map encCT).length : Int)) = false := by rw [hle2]; simp; omega
    rw [ok, List.drop_eq_nil_of_le (by simpa using hge)]
    repeat' (first | refine yz ?_ | refine yx ?_ | (refine yy ?_ ?_ <;> intro _) | exact zD | exact zL)
  | false =>
   have g0 : (((ty.map D.str).length : Int) == 0) = false := by rw [hle]; simpa using h0
   rw [cond_false]
   repeat' (first | refine yz ?_ | refine yx ?_ | (refine yy ?_ ?_ <;> intro _) | exact zD | exact zL)
   refine go_loop_ (α := SM1 s l ty) (fun p => ⟨[(3, .ptr 0 0), (7, .d (.sl (l.map intsD))), (8, .d (.int p.n)), (38, .d (.sl (ty.map .str))), (39, .d (.int (ty.map D.str).length)), (40, .d (.int p.i))], [oST s]⟩) (fun p => ty.length - p.i) ⟨0, 0, by omega, by simp [inR], rfl⟩ (zle 1) ?_
   rintro ⟨i, n, hi, hn, ok⟩
   dsimp only
   rcases Nat.lt_or_ge i ty.length with hlt | hge
   ·have g1 : decide ((i : Int) < ((ty.map D.str).length : Int)) = true := by rw [hle]; simpa using hlt
    have hx0 := List.getElem?_eq_getElem hlt
    generalize ty[i] = x at hx0
    have hx := map_at (f := D.str) hx0
    have hc := indexC_ev s.ty x hmax2
    cases he : idxC s.ty x with
    | none =>
     rw [entF_none he] at hc
     have g2 : decide ((-1 : Int) ≥ 0) = false := rfl
     repeat' (first | refine yz ?_ | refine yi (.str x) hx ?_ | refine go_makeFunc rfl rfl rfl rfl rfl ?_ | refine yc [1] b223 (hc) ?_ | refine yx ?_ | (refine yy ?_ ?_ <;> intro _) | exact zD | exact zL)
     refine go_stop ?_
     exact ⟨⟨i + 1, n, by omega, hn, by rw [ok, drop_at hx0, List.foldl_cons, he]⟩, by dsimp only; omega, (zle 1)⟩
    | some k =>
     rw [entF_some he] at hc
     have g2 : decide ((k : Int) ≥ 0) = true := by simp
     have h := greatest_ev l k
     repeat' (first | (refine go_addW 54 rfl rfl rfl rfl rfl rfl ?_) | refine yz ?_ | refine yi (.str x) hx ?_ | refine go_makeFunc rfl rfl rfl rfl rfl ?_ | refine yc [1] b223 (hc) ?_ | refine yp b222 h ?_ | refine yx ?_ | (refine yy ?_ ?_ <;> intro _) | exact zD | exact zL)
     refine go_stop ?_
     exact ⟨⟨i + 1, addW n (grtF l k), by omega, addW_rng _ _, by rw [ok, drop_at hx0, List.foldl_cons, he]⟩, by dsimp only; omega, (zle 1)⟩
   ·have g1 : decide ((i : Int) < ((ty.map D.str).length : Int)) = false := by rw [hle]; simp; omega
    rw [ok, List.drop_eq_nil_of_le hge]
    repeat' (first | refine yz ?_ | refine yx ?_ | (refine yy ?_ ?_ <;> intro _) | exact zD | exact zL)
structure SHi (l : List Int) (f : Int → Bool) where
 i : Nat
 hi : i ≤ l.length
 ok : ∀ j, j < i → ∀ y, l[j]? = some y → f y = false
theorem fx_none {l : List Int} {f : Int → Bool} (h : ∀ j, j < l.length → ∀ y, l[j]? = some y → f y = false) : l.findIdx? f = none := by
 rw [List.findIdx?_eq_none_iff]
 intro x hx
 obtain ⟨j, hj⟩ := List.getElem?_of_mem hx
 exact h j (List.getElem?_eq_some_iff.1 hj).1 x hj
theorem fx_some {l : List Int} {f : Int → Bool} {i : Nat} {x : Int} (hx : l[i]? = some x) (hc : f x = true) (h : ∀ j, j < i → ∀ y, l[j]? = some y → f y = false) : l.findIdx? f = some i := by
 have hi := (List.getElem?_eq_some_iff.1 hx).1
 rw [List.findIdx?_eq_some_iff_getElem]
 refine ⟨hi, ?_, fun j hj => ?_⟩
 ·rw [List.getElem?_eq_getElem hi] at hx
  cases hx
  exact hc
 ·have := h j hj _ (List.getElem?_eq_getElem (by omega))
  simpa using this
theorem SHi.next {l : List Int} {f : Int → Bool} {i : Nat} {x : Int} (hx : l[i]? = some x) (hc : f x = false) (h : ∀ j, j < i → ∀ y, l[j]? = some y → f y = false) : ∀ j, j < i + 1 → ∀ y, l[j]? = some y → f y = false := by
 intro j hj y hy
 rcases Nat.lt_succ_iff_lt_or_eq.1 hj with h1 | rfl
 ·exact h j h1 y hy
 ·rw [hx] at hy; cases hy; exact hc
theorem indexI_ev (l : List Int) (x : Int) : Ev E 151 [.sl (iL l), .int x] (.d (.int (optI (l.findIdx? fun y => x == y)))) := Ev.fit fun hfit => by
 have hmax := (fit_map (hfit (.sl (iL l)) (by simp))).1
 have hle := iL_len l
 refine ye2 func151 ntmps151 fun _ _ _=>?_
 repeat' (first | refine yz ?_ | refine yx ?_ | (refine yy ?_ ?_ <;> intro _) | exact zD | exact zL)
 refine go_loop_ (α := SHi l fun y => x == y) (fun p => ⟨[(0, .d (.sl (iL l))), (1, .d (.int x)), (7, .d (.int (iL l).length)), (8, .d (.int p.i))], []⟩) (fun p => l.length - p.i) ⟨0, by omega, fun j hj => absurd hj (by omega)⟩ (zle 0) ?_
 rintro ⟨i, hi, ok⟩
 dsimp only
 rcases Nat.lt_or_ge i l.length with hlt | hge
 ·have g1 : decide ((i : Int) < ((iL l).length : Int)) = true := by rw [hle]; simpa using hlt
  have hx0 := List.getElem?_eq_getElem hlt
  generalize l[i] = y at hx0
  have hx := iL_get hx0
  cases hc : x == y with
  | true =>
   rw [fx_some hx0 hc ok]
   repeat' (first | refine yz ?_ | refine yi (.int y) hx ?_ | refine yx ?_ | (refine yy ?_ ?_ <;> intro _) | exact zD | exact zL)
  | false =>
   repeat' (first | refine yz ?_ | refine yi (.int y) hx ?_ | refine yx ?_ | (refine yy ?_ ?_ <;> intro _) | exact zD | exact zL)
   refine go_stop ?_
   exact ⟨⟨i + 1, by omega, SHi.next hx0 hc ok⟩, by dsimp only; omega, (zle 0)⟩
 ·have g1 : decide ((i : Int) < ((iL l).length : Int)) = false := by rw [hle]; simp; omega
  rw [fx_none fun j hj => ok j (by omega)]
  repeat' (first | refine yz ?_ | refine yx ?_ | (refine yy ?_ ?_ <;> intro _) | exact zD | exact zL)
theorem has_of {l : List Int} {f : Int → Bool} : decide (optI (l.findIdx? f) ≥ 0) = l.any f := by
 cases h : l.findIdx? f with
 | none =>
  rw [List.findIdx?_eq_none_iff] at h
  have : l.any f = false := by rw [List.any_eq_false]; intro x hx; simpa using h x hx
  rw [this]; rfl
 | some i =>
  obtain ⟨hi, h1, -⟩ := List.findIdx?_eq_some_iff_getElem.1 h
  have : l.any f = true := List.any_eq_true.2 ⟨_, List.getElem_mem hi, h1⟩
  rw [this]
  simp [optI]
theorem contains_any (l : List Int) (x : Int) : l.contains x = l.any fun y => x == y := by
 rw [List.contains_eq_any_beq]
theorem containsI_ev (l : List Int) (x : Int) : Ev E 132 [.sl (iL l), .int x] (.d (.bool (l.contains x))) := by
 have h := indexI_ev l x
 rw [contains_any, ← has_of]
 refine ye2 func132 ntmps132 fun _ _ _=>?_
 repeat' (first | refine yz ?_ | refine yp b151 h ?_ | refine yx ?_ | (refine yy ?_ ?_ <;> intro _) | exact zD | exact zL)
abbrev oInts (l : List Int) : AObj := .var 46 (.w (.d (.sl (iL l))))
abbrev oHas : AObj := .var 196 (.w (.clo 131 [.ptr 1 0]))
theorem atom1_ev (l : List Int) (v : Int) : EvS E 131 [.d (.int v), .ptr 0 0] [oInts l] (.d (.bool (l.contains v))) [oInts l] := by
 have h := containsI_ev l v
 refine yd func131 ntmps131 fun _ _ _ _=>?_
 repeat' (first | refine yz ?_ | refine yp b132 h ?_ | refine yr [0] ?_ | refine yt [0] ?_ | refine yx ?_ | (refine yy ?_ ?_ <;> intro _) | exact zD | exact zL)
theorem atom2_ev (l : List Int) (v : Int) : EvS E 134 [.d (.int v), .ptr 0 0] [oHas, oInts l] (.d (.bool (!l.contains v))) [oHas, oInts l] := by
 have h := atom1_ev l v
 refine yd func134 ntmps134 fun _ _ _ _=>?_
 repeat' (first | refine yz ?_ | refine go_callS [1] rfl rfl rfl rfl (FnX.clo _ _) b131 (h) rfl rfl rfl rfl rfl ?_ | refine yr [0, 1] ?_ | refine yt [0, 1] ?_ | refine yx ?_ | (refine yy ?_ ?_ <;> intro _) | exact zD | exact zL)
theorem indexFuncI_ev (vs l : List Int) (hmax : vs.length ≤ 9223372036854775807) : EvS E 225 [.d (.sl (iL vs)), .clo 134 [.ptr 0 0]] [oHas, oInts l] (.d (.int (optI (vs.findIdx? fun v => !l.contains v)))) [oHas, oInts l] := by
 have hle := iL_len vs
 refine yd func225 ntmps225 fun _ _ _ _=>?_
 repeat' (first | refine yz ?_ | refine yx ?_ | (refine yy ?_ ?_ <;> intro _) | exact zD | exact zL)
 refine go_loop_ (α := SHi vs fun v => !l.contains v) (fun p => ⟨[(0, .d (.sl (iL vs))), (1, .clo 134 [.ptr 0 0]), (7, .d (.int (iL vs).length)), (8, .d (.int p.i))], [oHas, oInts l]⟩) (fun p => vs.length - p.i) ⟨0, by omega, fun j hj => absurd hj (by omega)⟩ (zle 2) ?_
 rintro ⟨i, hi, ok⟩
 dsimp only
 rcases Nat.lt_or_ge i vs.length with hlt | hge
 ·have g1 : decide ((i : Int) < ((iL vs).length : Int)) = true := by rw [hle]; simpa using hlt
  have hx0 := List.getElem?_eq_getElem hlt
  generalize vs[i] = y at hx0
  have hx := iL_get hx0
  have h := atom2_ev l y
  cases hc : !l.contains y with
  | true =>
   rw [hc] at h
   rw [fx_some hx0 hc ok]
   repeat' (first | refine yz ?_ | refine yi (.int y) hx ?_ | refine go_callS [0, 1] rfl rfl rfl rfl (FnX.clo _ _) b134 (h) rfl rfl rfl rfl rfl ?_ | refine yr [0, 1] ?_ | refine yt [0, 1] ?_ | refine yx ?_ | (refine yy ?_ ?_ <;> intro _) | exact zD | exact zL)
  | false =>
   rw [hc] at h
   repeat' (first | refine yz ?_ | refine yi (.int y) hx ?_ | refine go_callS [0, 1] rfl rfl rfl rfl (FnX.clo _ _) b134 (h) rfl rfl rfl rfl rfl ?_ | refine yr [0, 1] ?_ | refine yt [0, 1] ?_ | refine yx ?_ | (refine yy ?_ ?_ <;> intro _) | exact zD | exact zL)
   refine go_stop ?_
   exact ⟨⟨i + 1, by omega, SHi.next hx0 hc ok⟩, by dsimp only; omega, (zle 2)⟩
 ·have g1 : decide ((i : Int) < ((iL vs).length : Int)) = false := by rw [hle]; simp; omega
  rw [fx_none fun j hj => ok j (by omega)]
  repeat' (first | refine yz ?_ | refine yr [0, 1] ?_ | refine yt [0, 1] ?_ | refine yx ?_ | (refine yy ?_ ?_ <;> intro _) | exact zD | exact zL)
theorem containsFuncI_ev (vs l : List Int) (hmax : vs.length ≤ 9223372036854775807) : EvS E 133 [.d (.sl (iL vs)), .clo 134 [.ptr 0 0]] [oHas, oInts l] (.d (.bool (vs.any fun v => !l.contains v))) [oHas, oInts l] := by
 have h := indexFuncI_ev vs l hmax
 rw [← has_of]
 refine yd func133 ntmps133 fun _ _ _ _=>?_
 repeat' (first | refine yz ?_ | refine yc [0, 1] b225 (h) ?_ | refine yr [0, 1] ?_ | refine yt [0, 1] ?_ | refine yx ?_ | (refine yy ?_ ?_ <;> intro _) | exact zD | exact zL)
theorem fold_rng {α : Type} (f : Int → α → Int) (hf : ∀ n x, inR .i64 n → inR .i64 (f n x)) : ∀ (l : List α) (n : Int), inR .i64 n → inR .i64 (l.foldl f n)
 | [], n, h => h
 | x :: r, n, h => fold_rng f hf r (f n x) (hf n x h)
theorem maxF_rng (s : STA) (ty : List ByteArray) (dir : Int) : inR .i64 (maxF s ty dir) := by
 rw [maxF_eq]
 cases ty.length == 0 with
 | true => exact fold_rng _ (fun n x _ => addW_rng _ _) _ _ (by simp [inR])
 | false =>
  refine fold_rng _ (fun n x h => ?_) _ _ (by simp [inR])
  split
  ·exact addW_rng _ _
  ·exact h
theorem atk_cases (k : Int) : k = 3 ∨ k = 1 ∨ k = 2 ∨ k = 4 ∨ ((k == 3) = false ∧ (k == 1) = false ∧ (k == 2) = false ∧ (k == 4) = false) := by
 simp only [beq_eq_false_iff_ne, ne_eq]; omega
theorem atomF_other {s : STA} {k : Int} {vs : List Int} {nm : ByteArray} {ty : List ByteArray} {v : V} {b : List Int} (h : (k == 3) = false ∧ (k == 1) = false ∧ (k == 2) = false ∧ (k == 4) = false) : atomF s ⟨k, vs, nm, ty, v⟩ b = 0 := by
 obtain ⟨h1, h2, h3, h4⟩ := h
 have : (decide (k ≥ 1) && decide (k ≤ 4)) = false := by
  simp only [beq_eq_false_iff_ne, ne_eq] at h1 h2 h3 h4
  simp; omega
 unfold atomF
 rw [this]
 rfl
set_option maxHeartbeats 4000000 in
theorem atom_ev (s : STA) (a : AT) (b : List Int) : Ev E 49 [encST s, encAT a, .sl (iL b)] (.d (.int (atomF s a b))) := Ev.fit fun hfit => by
 obtain ⟨k, vs, nm, ty, v⟩ := a
 have hmax := (fit_map ((hfit (encAT ⟨k, vs, nm, ty, v⟩) (by simp)).aggs (intsD vs) (by simp))).1
 have hcf := containsFuncI_ev vs b hmax
 have hle := iL_len vs
 have hn0 := dnodes_ev s nm
 have hn1 := dnodes_ev s ⟨#[]⟩
 have ho := dmax_ev s ty 1
 have hi := dmax_ev s ty 2
 have he := dedges_ev s ty
 have hir := maxF_rng s ty 2
 show Ev E 49 [encST s, .agg [.int k, .sl (iL vs), .str nm, .sl (ty.map .str), .int v.k, .int v.n, .int v.d, .str v.s, .sl (kids v)], .sl (iL b)] _
 rcases atk_cases k with rfl | rfl | rfl | rfl | hk
 ·match vs, hcf, hle with
  | [x0, x1, x2], hcf, hle =>
   have g1 : (((iL [x0, x1, x2]).length : Int) != 3) = false := rfl
   have i0 : (iL [x0, x1, x2])[(0 : Int).toNat]? = some (.int x0) := rfl
   have i1 : (iL [x0, x1, x2])[(1 : Int).toNat]? = some (.int x1) := rfl
   have i2 : (iL [x0, x1, x2])[(2 : Int).toNat]? = some (.int x2) := rfl
   have l3 : (iL [x0, x1, x2]).length = 3 := rfl
   have h0 := atom1_ev b x0
   have h1 := atom1_ev b x1
   have h2 := atom1_ev b x2
   have ea : atomF s ⟨3, [x0, x1, x2], nm, ty, v⟩ b = bif b.contains x0 && (b.contains x1 && (b.contains x2 && true)) then 1 else bif b.contains x1 then 1 else
    bif b.contains x0 && b.contains x2 then min (maxF s ty 1) (maxF s ty 2) else bif b.contains x0 then maxF s ty 1 else bif b.contains x2 then maxF s ty 2 else edgesF s ty := rfl
   rw [ea]
   simp only [List.any_cons, List.any_nil] at hcf
   generalize b.contains x0 = c0 at *
   generalize b.contains x1 = c1 at *
   generalize b.contains x2 = c2 at *
   cases c0 <;> cases c1 <;> cases c2
   all_goals
    refine ye3 func49 ntmps49 fun _ _ _=>?_
    repeat' (first | refine qCP (id := 20) (by kernel_rfl) ?_ | refine pgF (id := 20) (i := 0) 5 rfl rfl ?_ | refine pgF (id := 20) (i := 6) 5 rfl rfl ?_ | refine pgF (id := 20) (i := 12) 5 rfl rfl ?_ | refine pgF (id := 20) (i := 18) 3 rfl rfl ?_ | refine pgN ?_ | refine yz ?_ | refine go_makeFunc rfl rfl rfl rfl rfl ?_ | refine yc [3, 2] b133 (hcf) ?_ | refine yi (.int x0) i0 ?_ | refine yi (.int x1) i1 ?_ | refine yi (.int x2) i2 ?_ | refine pgS (id := 20) (i := 5) [2] rfl rfl rfl rfl (FnX.clo _ _) b131 (h0) rfl rfl rfl rfl rfl ?_ | refine pgS (id := 20) (i := 11) [2] rfl rfl rfl rfl (FnX.clo _ _) b131 (h1) rfl rfl rfl rfl rfl ?_ | refine pgS (id := 20) (i := 17) [2] rfl rfl rfl rfl (FnX.clo _ _) b131 (h2) rfl rfl rfl rfl rfl ?_ | refine yp b129 ho ?_ | refine yp b129 hi ?_ | refine yp b127 he ?_ | refine yx ?_ | (refine yy ?_ ?_ <;> intro _) | exact zD | exact zL)
  | [], hcf, hle =>
   have g1 : (((iL []).length : Int) != 3) = true := rfl
   refine ye3 func49 ntmps49 fun _ _ _=>?_
   repeat' (first | refine yz ?_ | refine go_makeFunc rfl rfl rfl rfl rfl ?_ | refine yx ?_ | (refine yy ?_ ?_ <;> intro _) | exact zD | exact zL)
  | [x0], hcf, hle =>
   have g1 : (((iL [x0]).length : Int) != 3) = true := rfl
   refine ye3 func49 ntmps49 fun _ _ _=>?_
   repeat' (first | refine yz ?_ | refine go_makeFunc rfl rfl rfl rfl rfl ?_ | refine yx ?_ | (refine yy ?_ ?_ <;> intro _) | exact zD | exact zL)
  | [x0, x1], hcf, hle =>
   have g1 : (((iL [x0, x1]).length : Int) != 3) = true := rfl
   refine ye3 func49 ntmps49 fun _ _ _=>?_
   repeat' (first | refine yz ?_ | refine go_makeFunc rfl rfl rfl rfl rfl ?_ | refine yx ?_ | (refine yy ?_ ?_ <;> intro _) | exact zD | exact zL)
  | x0 :: x1 :: x2 :: x3 :: r, hcf, hle =>
   have g1 : (((iL (x0 :: x1 :: x2 :: x3 :: r)).length : Int) != 3) = true := by rw [hle]; simp; omega
   have ea : atomF s ⟨3, x0 :: x1 :: x2 :: x3 :: r, nm, ty, v⟩ b = 0 := by simp [atomF]
   rw [ea]
   refine ye3 func49 ntmps49 fun _ _ _=>?_
   repeat' (first | refine yz ?_ | refine go_makeFunc rfl rfl rfl rfl rfl ?_ | refine yx ?_ | (refine yy ?_ ?_ <;> intro _) | exact zD | exact zL)
 ·match vs, hcf, hle with
  | [x0], hcf, hle =>
   have g1 : (((iL [x0]).length : Int) != 1) = false := rfl
   have ea : atomF s ⟨1, [x0], nm, ty, v⟩ b = bif b.contains x0 && true then 1 else nodesF s nm := rfl
   rw [ea]
   simp only [List.any_cons, List.any_nil] at hcf
   generalize b.contains x0 = c0 at *
   cases c0
   all_goals
    refine ye3 func49 ntmps49 fun _ _ _=>?_
    repeat' (first | refine yz ?_ | refine go_makeFunc rfl rfl rfl rfl rfl ?_ | refine yc [3, 2] b133 (hcf) ?_ | refine yp b135 hn0 ?_ | refine yx ?_ | (refine yy ?_ ?_ <;> intro _) | exact zD | exact zL)
  | [], hcf, hle =>
   have g1 : (((iL []).length : Int) != 1) = true := rfl
   refine ye3 func49 ntmps49 fun _ _ _=>?_
   repeat' (first | refine yz ?_ | refine go_makeFunc rfl rfl rfl rfl rfl ?_ | refine yx ?_ | (refine yy ?_ ?_ <;> intro _) | exact zD | exact zL)
  | x0 :: x1 :: r, hcf, hle =>
   have g1 : (((iL (x0 :: x1 :: r)).length : Int) != 1) = true := by rw [hle]; simp; omega
   have ea : atomF s ⟨1, x0 :: x1 :: r, nm, ty, v⟩ b = 0 := by simp [atomF]
   rw [ea]
   refine ye3 func49 ntmps49 fun _ _ _=>?_
   repeat' (first | refine yz ?_ | refine go_makeFunc rfl rfl rfl rfl rfl ?_ | refine yx ?_ | (refine yy ?_ ?_ <;> intro _) | exact zD | exact zL)
 ·match vs, hcf, hle with
  | [x0], hcf, hle =>
   have g1 : (((iL [x0]).length : Int) != 1) = false := rfl
   have ea : atomF s ⟨2, [x0], nm, ty, v⟩ b = bif b.contains x0 && true then 1 else nodesF s ⟨#[]⟩ := rfl
   rw [ea]
   simp only [List.any_cons, List.any_nil] at hcf
   generalize b.contains x0 = c0 at *
   cases c0
   all_goals
    refine ye3 func49 ntmps49 fun _ _ _=>?_
    repeat' (first | refine yz ?_ | refine go_makeFunc rfl rfl rfl rfl rfl ?_ | refine yc [3, 2] b133 (hcf) ?_ | refine yp b135 hn1 ?_ | refine yx ?_ | (refine yy ?_ ?_ <;> intro _) | exact zD | exact zL)
  | [], hcf, hle =>
   have g1 : (((iL []).length : Int) != 1) = true := rfl
   refine ye3 func49 ntmps49 fun _ _ _=>?_
   repeat' (first | refine yz ?_ | refine go_makeFunc rfl rfl rfl rfl rfl ?_ | refine yx ?_ | (refine yy ?_ ?_ <;> intro _) | exact zD | exact zL)
  | x0 :: x1 :: r, hcf, hle =>
   have g1 : (((iL (x0 :: x1 :: r)).length : Int) != 1) = true := by rw [hle]; simp; omega
   have ea : atomF s ⟨2, x0 :: x1 :: r, nm, ty, v⟩ b = 0 := by simp [atomF]
   rw [ea]
   refine ye3 func49 ntmps49 fun _ _ _=>?_
   repeat' (first | refine yz ?_ | refine go_makeFunc rfl rfl rfl rfl rfl ?_ | refine yx ?_ | (refine yy ?_ ?_ <;> intro _) | exact zD | exact zL)
 ·match vs, hcf, hle with
  | [x0], hcf, hle =>
   have g1 : (((iL [x0]).length : Int) != 1) = false := rfl
   have ea : atomF s ⟨4, [x0], nm, ty, v⟩ b = bif b.contains x0 && true then 1 else nodesF s ⟨#[]⟩ := rfl
   rw [ea]
   simp only [List.any_cons, List.any_nil] at hcf
   generalize b.contains x0 = c0 at *
   cases c0
   all_goals
    refine ye3 func49 ntmps49 fun _ _ _=>?_
    repeat' (first | refine yz ?_ | refine go_makeFunc rfl rfl rfl rfl rfl ?_ | refine yc [3, 2] b133 (hcf) ?_ | refine yp b135 hn1 ?_ | refine yx ?_ | (refine yy ?_ ?_ <;> intro _) | exact zD | exact zL)
  | [], hcf, hle =>
   have g1 : (((iL []).length : Int) != 1) = true := rfl
   refine ye3 func49 ntmps49 fun _ _ _=>?_
   repeat' (first | refine yz ?_ | refine go_makeFunc rfl rfl rfl rfl rfl ?_ | refine yx ?_ | (refine yy ?_ ?_ <;> intro _) | exact zD | exact zL)
  | x0 :: x1 :: r, hcf, hle =>
   have g1 : (((iL (x0 :: x1 :: r)).length : Int) != 1) = true := by rw [hle]; simp; omega
   have ea : atomF s ⟨4, x0 :: x1 :: r, nm, ty, v⟩ b = 0 := by simp [atomF]
   rw [ea]
   refine ye3 func49 ntmps49 fun _ _ _=>?_
   repeat' (first | refine yz ?_ | refine go_makeFunc rfl rfl rfl rfl rfl ?_ | refine yx ?_ | (refine yy ?_ ?_ <;> intro _) | exact zD | exact zL)
 ·have ea : atomF s ⟨k, vs, nm, ty, v⟩ b = 0 := atomF_other hk
  obtain ⟨k1, k2, k3, k4⟩ := hk
  rw [ea]
  refine ye3 func49 ntmps49 fun _ _ _=>?_
  repeat' (first | refine yz ?_ | refine go_makeFunc rfl rfl rfl rfl rfl ?_ | refine yx ?_ | (refine yy ?_ ?_ <;> intro _) | exact zD | exact zL)
structure SAl (vs b : List Int) where
 i : Nat
 c : Bool
 hi : i ≤ vs.length
 ok : vs.all (fun v => b.contains v) = (c && (vs.drop i).all fun v => b.contains v)
theorem SAl.next {vs b : List Int} {i : Nat} {c : Bool} {x : Int} (hx : vs[i]? = some x) (ok : vs.all (fun v => b.contains v) = (c && (vs.drop i).all fun v => b.contains v)) :
  vs.all (fun v => b.contains v) = ((c && b.contains x) && (vs.drop (i + 1)).all fun v => b.contains v) := by
 rw [ok, drop_at hx, List.all_cons, Bool.and_assoc]
attribute [local irreducible] RGo
theorem bit_and (x j : Nat) : ((((x / 2 ^ j) &&& 1 : Nat) : Int) == 1) = x.testBit j := by
 rw [Nat.testBit_eq_decide_div_mod_eq, Nat.and_one_is_mod, Bool.eq_iff_iff]
 generalize x / 2 ^ j = q
 simp only [beq_iff_eq, decide_eq_true_eq]
 omega
structure OkC (c : CJ) : Prop where
 n : c.aq.length ≤ 12
 v : ∀ a ∈ c.aq, 1 ≤ a.vs.length ∧ a.vs.length ≤ 3
def bndG (c : CJ) (set j : Nat) : List Int := (List.range j).flatMap fun i => bif set.testBit i then (match c.aq[i]? with | some a => a.vs | none => []) else []
theorem bndG_all (c : CJ) (set : Nat) : bndG c set c.aq.length = boundF c set := rfl
theorem bndG_on {c : CJ} {set j : Nat} {a : AT} (h : set.testBit j = true) (ha : c.aq[j]? = some a) : bndG c set (j + 1) = bndG c set j ++ a.vs := by
 simp only [bndG, List.range_succ, List.flatMap_append, List.flatMap_cons, List.flatMap_nil, h, ha, cond_true, List.append_nil]
theorem bndG_off {c : CJ} {set j : Nat} (h : set.testBit j = false) : bndG c set (j + 1) = bndG c set j := by
 simp only [bndG, List.range_succ, List.flatMap_append, List.flatMap_cons, List.flatMap_nil, h, cond_false, List.append_nil]
theorem bndG_len {c : CJ} (hc : OkC c) (set : Nat) : ∀ j, (bndG c set j).length ≤ 3 * j
 | 0 => by simp [bndG]
 | j + 1 => by
  have ih := bndG_len hc set j
  cases h : set.testBit j with
  | false => rw [bndG_off h]; omega
  | true =>
   cases ha : c.aq[j]? with
   | none =>
    have : bndG c set (j + 1) = bndG c set j := by simp only [bndG, List.range_succ, List.flatMap_append, List.flatMap_cons, List.flatMap_nil, h, ha, cond_true, List.append_nil]
    rw [this]; omega
   | some a =>
    rw [bndG_on h ha, List.length_append]
    have := (hc.v a (List.mem_of_getElem? ha)).2
    omega
abbrev oSearch (s : STA) (c : CJ) : AObj := .var 118 (.cs [.d (.int s.nodes), .d (.int s.edges), .d (.sl (s.lb.map encCT)), .d (.sl (s.ty.map encCT)), .d (.sl (s.outs.map intsD)), .d (.sl (s.ins.map intsD)), .d (.sl (c.vs.map .str)), .d (.sl (c.aq.map encAT)), .own 1])
abbrev oBest (bs : List D) : AObj := .row 47 1 bs
theorem iL_nil (l : List Int) : iL l = [] ↔ l = [] := by simp [iL]
set_option maxHeartbeats 1000000 in
theorem factor_ev (s : STA) (c : CJ) (bs : List D) (set i : Nat) (hc : OkC c) (hi : i < c.aq.length) (hs : set < 4096) : EvS E 130 [.ptr 0 0, .d (.int set), .d (.int i)] [oSearch s c, oBest bs] (.d (natD (facF s c set i))) [oSearch s c, oBest bs] := by
 have hle : (c.aq.map encAT).length = c.aq.length := by simp
 have hn := hc.n
 refine yd func130 ntmps130 fun _ _ _ _=>?_
 repeat' (first | refine yz ?_ | refine yx ?_ | (refine yy ?_ ?_ <;> intro _) | exact zD | exact zL)
 refine go_loop_ (α := Fin (c.aq.length + 1)) (fun p => ⟨[(7, rowK 2 (iL (bndG c set p.val))), (0, .ptr 0 0), (1, .d (.int set)), (2, .d (.int i)), (14, .d (.sl (c.aq.map encAT))), (15, .d (.int (c.aq.map encAT).length)), (16, .d (.int p.val))], [oSearch s c, oBest bs] ++ rowO 3 1 (iL (bndG c set p.val))⟩) (fun p => c.aq.length - p.val) ⟨0, by omega⟩ (zle 2) ?_
 rintro ⟨j, hj⟩
 dsimp only
 have hbl := bndG_len hc set j
 have hbl2 := iL_len (bndG c set j)
 rcases Nat.lt_or_ge j c.aq.length with hlt | hge
 ·have g1 : decide ((j : Int) < ((c.aq.map encAT).length : Int)) = true := by rw [hle]; simpa using hlt
  have hx0 := List.getElem?_eq_getElem hlt
  generalize c.aq[j] = x at hx0
  have hx := map_at (f := encAT) hx0
  have hxv := hc.v x (List.mem_of_getElem? hx0)
  have g2 := bit_and set j
  cases hb : set.testBit j with
  | false =>
   rw [hb] at g2
   have hnx : iL (bndG c set (j + 1)) = iL (bndG c set j) := by rw [bndG_off hb]
   generalize iL (bndG c set j) = o at *
   match o with
   | [] =>
    dsimp only [rowK, rowO]
    repeat' (first | refine yz ?_ | refine yi (encAT x) hx ?_ | (refine go_shr set j rfl rfl rfl rfl rfl rfl (by omega) (by omega) ?_) | (refine go_and (set / 2 ^ j) 1 rfl rfl rfl rfl rfl rfl (Nat.lt_of_le_of_lt (Nat.div_le_self _ _) (by omega)) (by omega) ?_) | refine yx ?_ | (refine yy ?_ ?_ <;> intro _) | exact zD | exact zL)
    refine go_stop ?_
    refine ⟨⟨j + 1, by omega⟩, by dsimp only; omega, ?_⟩
    dsimp only
    rw [hnx]
    exact (zle 2)
   | a :: q =>
    dsimp only [rowK, rowO]
    repeat' (first | refine yz ?_ | refine yi (encAT x) hx ?_ | (refine go_shr set j rfl rfl rfl rfl rfl rfl (by omega) (by omega) ?_) | (refine go_and (set / 2 ^ j) 1 rfl rfl rfl rfl rfl rfl (Nat.lt_of_le_of_lt (Nat.div_le_self _ _) (by omega)) (by omega) ?_) | refine yx ?_ | (refine yy ?_ ?_ <;> intro _) | exact zD | exact zL)
    refine go_stop ?_
    refine ⟨⟨j + 1, by omega⟩, by dsimp only; omega, ?_⟩
    dsimp only
    rw [hnx]
    exact (zle 3)
  | true =>
   rw [hb] at g2
   have hnx : iL (bndG c set (j + 1)) = iL (bndG c set j) ++ iL x.vs := by rw [bndG_on hb hx0, iL_app]
   have hvl := iL_len x.vs
   have hvn : iL x.vs ≠ [] := fun h => by
    have := (iL_nil _).1 h
    rw [this] at hxv
    simp at hxv
   have hos : (iL (bndG c set j)).length ≤ 36 := by omega
   generalize iL (bndG c set j) = o at *
   match o, hos with
   | [], hos =>
    dsimp only [rowK, rowO]
    repeat' (first | refine yz ?_ | refine yi (encAT x) hx ?_ | (refine go_shr set j rfl rfl rfl rfl rfl rfl (by omega) (by omega) ?_) | (refine go_and (set / 2 ^ j) 1 rfl rfl rfl rfl rfl rfl (Nat.lt_of_le_of_lt (Nat.div_le_self _ _) (by omega)) (by omega) ?_) | (refine qS rfl ⟨hvn, iL_cells _, by (show (0 + (iL x.vs).length) * 8 ≤ 140737488355328; omega), by (show 0 + (iL x.vs).length ≤ 9223372036854775807; omega)⟩ ?_) | refine yx ?_ | (refine yy ?_ ?_ <;> intro _) | exact zD | exact zL)
    refine go_stop ?_
    refine ⟨⟨j + 1, by omega⟩, by dsimp only; omega, ?_⟩
    dsimp only
    obtain ⟨y, ys, hy⟩ := List.exists_cons_of_ne_nil (fun h => hvn ((iL_nil _).2 h))
    rw [hnx, hy]
    exact (zren [0, 1, 3])
   | a :: q, hos =>
    dsimp only [rowK, rowO]
    repeat' (first | refine yz ?_ | refine yi (encAT x) hx ?_ | (refine go_shr set j rfl rfl rfl rfl rfl rfl (by omega) (by omega) ?_) | (refine go_and (set / 2 ^ j) 1 rfl rfl rfl rfl rfl rfl (Nat.lt_of_le_of_lt (Nat.div_le_self _ _) (by omega)) (by omega) ?_) | (refine qS rfl ⟨hvn, iL_cells _, by (show ((a :: q).length + (iL x.vs).length) * 8 ≤ 140737488355328; omega), by (show (a :: q).length + (iL x.vs).length ≤ 9223372036854775807; omega)⟩ ?_) | refine yx ?_ | (refine yy ?_ ?_ <;> intro _) | exact zD | exact zL)
    refine go_stop ?_
    refine ⟨⟨j + 1, by omega⟩, by dsimp only; omega, ?_⟩
    dsimp only
    rw [hnx]
    exact (zren [0, 1, 4])
 ·have g1 : decide ((j : Int) < ((c.aq.map encAT).length : Int)) = false := by rw [hle]; simp; omega
  obtain rfl : j = c.aq.length := by omega
  have hx0 := List.getElem?_eq_getElem hi
  obtain ⟨x, hxx⟩ : ∃ x, c.aq[i] = x := ⟨_, rfl⟩
  rw [hxx] at hx0
  have hx := map_at (f := encAT) hx0
  have h1 := atom_ev s x (boundF c set)
  have h2 := nof_ev (atomF s x (boundF c set))
  have hf : facF s c set i = (atomF s x (boundF c set)).toNat := by unfold facF; rw [hx0]
  rw [bndG_all, hf]
  refine qA ?_
  refine go_rowD rfl rfl (by repeat (first | exact trivial | refine ⟨rfl, ?_⟩)) (by repeat (first | exact trivial | refine ⟨rfl, ?_⟩)) ?_
  repeat' (first | refine yz ?_ | refine yi (encAT x) hx ?_ | refine yp b49 h1 ?_ | refine yp b18 h2 ?_ | refine yr [0, 1] ?_ | refine yt [0, 1] ?_ | refine yx ?_ | (refine yy ?_ ?_ <;> intro _) | exact zD | exact zL)
end Go.Proofs.YtenpjlghikohmaaGreatDoor
