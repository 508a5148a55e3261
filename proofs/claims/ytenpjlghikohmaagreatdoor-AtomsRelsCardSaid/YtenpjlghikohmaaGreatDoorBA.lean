/- A row of the caller's handed to a function over data, anywhere among its arguments; slices.Index at texts; slices.Index at texts, over data and over a row of the caller's; The builder's variables; The builder's atoms. Conditions: each part's own, as it says. -/
import Derived.Test.YtenpjlghikohmaaGreatDoorLD
import Derived.Test.YtenpjlghikohmaaGreatDoorGC
import Derived.Test.YtenpjlghikohmaaGreatDoorMB
set_option linter.unusedVariables false
set_option linter.unusedSimpArgs false
namespace Go.Proofs.YtenpjlghikohmaaGreatDoor
set_option maxRecDepth 4000
open Go Go.Abs Go.Val Go.RowKit Go.Sort Go.Proofs Go.Proofs.Tryz
theorem lend_mid {f : FuncId} {ds xs es : List D} {e : TypeId} {size : Nat} {u : Value} (h : Ev E f (ds ++ .sl xs :: es) (.d (.imm u))) : EvS E f (ds.map .d ++ .own 0 :: es.map .d) [.row e size xs] (.d (.imm u)) [.row e size xs] := by
 intro w F σ vs hi hl hr
 have hlen : vs.length = ds.length + 1 + es.length := by simp at hl; omega
 obtain ⟨v, hv⟩ : ∃ v, vs[ds.length]? = some v := ⟨_, List.getElem?_eq_getElem (by omega)⟩
 obtain ⟨b, c, n, e1, rfl⟩ := hr ds.length (.own 0) v (by rw [List.getElem?_append_right (by simp)]; simp) hv
 obtain ⟨cs, g1, g2, g3, g4, g5, g6, g7, g8, g9, g10⟩ := hi.obs 0 _ _ rfl e1
 have hbl : b < w.heap.size := (Array.getElem?_eq_some_iff.1 g1).1
 have hnew : Rd w (fun i => F i ∨ i = b) (.sl xs) (.slice (some ⟨b, 0, none⟩) n c) := by
  have hex : ∀ i j, ∃ u, ∀ x cd, xs[i]? = some x → x.cells[j]? = some cd → cs[i * size + j]? = some u ∧ Rd w F cd u := by
   intro i j
   cases hx : xs[i]? with
   | none => exact ⟨undef, fun x cd h => by cases h⟩
   | some x =>
    cases hc : x.cells[j]? with
    | none => exact ⟨undef, fun x' cd h h' => by cases h; rw [hc] at h'; cases h'⟩
    | some cd =>
     obtain ⟨u, e1, e2⟩ := g8 i x j cd hx hc
     exact ⟨u, fun x' cd' h h' => by cases h; rw [hc] at h'; cases h'; exact ⟨e1, e2⟩⟩
  rw [g3]
  refine .sl size xs ⟨b, 0, none⟩ c (fun i j => Classical.choose (hex i j)) (by omega) g5 (fun _ => .inr rfl) g6 g7 (fun i x j cd hx hc => ?_) (fun i x j cd hx hc => ?_)
  ·have := (Classical.choose_spec (hex i j) x cd hx hc).1
   rw [add_mk, Nat.zero_add]
   unfold World.cell?
   simp only [g1]
   simpa using this
  ·exact (Classical.choose_spec (hex i j) x cd hx hc).2.mono (fun _ h => .inl h) fun _ _ => rfl
 refine (h w (fun i => F i ∨ i = b) vs (fun k hk => ?_) (hi.glob.mono (fun _ h => .inl h) fun _ _ => rfl) (by simp; omega) fun i d v' hd hv' => ?_).mono ?_
 ·rcases hk with hk | rfl
  ·exact hi.flt k hk
  ·exact hbl
 ·rcases Nat.lt_or_ge i ds.length with hlt | hge
  ·rw [List.getElem?_append_left hlt] at hd
   exact Rd.mono (hr i (.d d) v' (by rw [List.getElem?_append_left (by simpa using hlt), List.getElem?_map, hd]; rfl) hv') (fun _ h => .inl h) fun _ _ => rfl
  ·rw [List.getElem?_append_right hge] at hd
   rcases Nat.eq_zero_or_pos (i - ds.length) with h0 | h0
   ·have h1 : i = ds.length := by omega
    subst h1
    rw [Nat.sub_self] at hd
    cases hd
    rw [hv] at hv'
    cases hv'
    exact hnew
   ·obtain ⟨m, hm⟩ : ∃ m, i - ds.length = m + 1 := ⟨i - ds.length - 1, by omega⟩
    rw [hm, List.getElem?_cons_succ] at hd
    exact Rd.mono (hr i (.d d) v' (by rw [List.getElem?_append_right (by simpa using hge), List.length_map, hm, List.getElem?_cons_succ, List.getElem?_map, hd]; rfl) hv') (fun _ h => .inl h) fun _ _ => rfl
 ·rintro ev w' ⟨v', F', rfl, hext, hrd⟩
  have hb := hext.below
  obtain ⟨rfl, hok⟩ := Rd.imm_inv (show Rd w' F' (.imm u) v' from hrd)
  exact ⟨_, F, σ, rfl, Kept.of_below hb fun k hk => hk.1, fun _ h => h, fun _ h => .inl h, fun i p _ hp => hp, (WInv.lend hi).ext (Ext.of_below hb hi.flt), Rd.imm _ hok⟩
def ixT (l : List ByteArray) (s : ByteArray) : Option Nat := l.findIdx? fun y => s.toList == y.toList
def ixI : Option Nat → Int | some i => (i : Int) | none => -1
theorem ixT_some {l : List ByteArray} {s : ByteArray} {i : Nat} {x : ByteArray} (hx : l[i]? = some x) (hc : (s.toList == x.toList) = true) (h : ∀ j, j < i → ∀ y, l[j]? = some y → (s.toList == y.toList) = false) : ixT l s = some i := by
 obtain ⟨hlt, rfl⟩ := List.getElem?_eq_some_iff.1 hx
 unfold ixT
 refine List.findIdx?_eq_some_iff_getElem.2 ⟨hlt, hc, fun j hj => ?_⟩
 have := h j hj l[j] (List.getElem?_eq_getElem (by omega))
 simpa using this
theorem ixT_none {l : List ByteArray} {s : ByteArray} (h : ∀ j, j < l.length → ∀ y, l[j]? = some y → (s.toList == y.toList) = false) : ixT l s = none := by
 unfold ixT
 rw [List.findIdx?_eq_none_iff]
 intro x hx
 obtain ⟨j, hj, rfl⟩ := List.mem_iff_getElem.1 hx
 have := h j hj l[j] (List.getElem?_eq_getElem hj)
 simpa using this
end Go.Proofs.YtenpjlghikohmaaGreatDoor
namespace Go.Proofs.YtenpjlghikohmaaGreatDoor
set_option maxRecDepth 4000
open Go Go.Abs Go.Val Go.RowKit Go.Proofs Go.Proofs.Tryz
attribute [local irreducible] go SGo HasBody Ev ExtEv EvO EvS PGo RGo
structure SIy (l : List ByteArray) (s : ByteArray) where
 i : Nat
 hi : i ≤ l.length
 ok : ∀ j, j < i → ∀ y, l[j]? = some y → (s.toList == y.toList) = false
theorem indexT_ev (l : List ByteArray) (s : ByteArray) : Ev E 180 [.sl (l.map D.str), .str s] (.d (.int (ixI (ixT l s)))) := Ev.fit fun hfit => by
 have hmax := (fit_map (hfit (.sl (l.map D.str)) (by simp))).1
 have hle : (l.map D.str).length = l.length := by simp
 refine ye2 func180 ntmps180 fun _ _ _=>?_
 repeat' (first | refine yz ?_ | refine yx ?_ | (refine yy ?_ ?_ <;> intro _) | exact zD | exact zL)
 refine go_loop_ (α := SIy l s) (fun p => ⟨[(0, .d (.sl (l.map D.str))), (1, .d (.str s)), (7, .d (.int (l.map D.str).length)), (8, .d (.int p.i))], []⟩) (fun p => l.length - p.i) ⟨0, by omega, fun j hj => absurd hj (by omega)⟩ (zle 0) ?_
 rintro ⟨i, hi, ok⟩
 dsimp only
 rcases Nat.lt_or_ge i l.length with hlt | hge
 ·have g1 : decide ((i : Int) < ((l.map D.str).length : Int)) = true := by rw [hle]; simpa using hlt
  have hx0 := List.getElem?_eq_getElem hlt
  generalize l[i] = y at hx0
  have hx : (l.map D.str)[((i : Nat) : Int).toNat]? = some (.str y) := by rw [Int.toNat_natCast, List.getElem?_map, hx0]; rfl
  cases hc : s.toList == y.toList with
  | true =>
   rw [ixT_some hx0 hc ok]
   repeat' (first | refine yz ?_ | refine yi (.str y) hx ?_ | refine yx ?_ | (refine yy ?_ ?_ <;> intro _) | exact zD | exact zL)
  | false =>
   repeat' (first | refine yz ?_ | refine yi (.str y) hx ?_ | refine yx ?_ | (refine yy ?_ ?_ <;> intro _) | exact zD | exact zL)
   refine go_stop ?_
   refine ⟨⟨i + 1, by omega, fun j hj z hz => ?_⟩, by dsimp only; omega, (zle 0)⟩
   rcases Nat.lt_succ_iff_lt_or_eq.1 hj with h1 | rfl
   ·exact ok j h1 z hz
   ·rw [hx0] at hz; cases hz; exact hc
 ·have g1 : decide ((i : Int) < ((l.map D.str).length : Int)) = false := by rw [hle]; simp; omega
  rw [ixT_none fun j hj => ok j (by omega)]
  repeat' (first | refine yz ?_ | refine yx ?_ | (refine yy ?_ ?_ <;> intro _) | exact zD | exact zL)
theorem indexT_evS (l : List D) (s : ByteArray) (u : Int) (h : Ev E 180 [.sl l, .str s] (.d (.int u))) : EvS E 180 [.own 0, .d (.str s)] [.row 9 1 l] (.d (.int u)) [.row 9 1 l] :=
 lend_mid (ds := []) (es := [.str s]) h
def fX (k : Nat) : List D → X
 | [] => .nilS
 | _ :: _ => .own k
def fO (t : TypeId) (sz : Nat) : List D → AObj
 | [] => .dead
 | x :: r => .row t sz (x :: r)
abbrev bld (v a c : X) (n : Int) : AObj := .var 81 (.cs [v, a, c, .d (.int n)])
abbrev rowS (l : List D) : AObj := .row 9 1 l
abbrev oAs (l : List D) : AObj := fO 58 9 l
abbrev oCs (l : List D) : AObj := fO 92 9 l
def unN (n : Int) : ByteArray := ⟨#[95]⟩ ++ ⟨(Lib.itoa (n + 1)).toArray⟩
set_option maxHeartbeats 4000000 in
theorem variable0_evS (vs ats cs : List D) (n : Int) (hv : vs.length ≤ 1000000) (hn : 0 ≤ n ∧ n ≤ 1000000) : EvS E 100 [.ptr 0 0, .d (.str ⟨#[]⟩)] [bld (fX 1 vs) (fX 2 ats) (fX 3 cs) n, fO 9 1 vs, oAs ats, oCs cs] (.d (.int vs.length)) [bld (.own 4) (fX 2 ats) (fX 3 cs) (n + 1), .dead, oAs ats, oCs cs, rowS (vs ++ [.str (unN n)])] := by
 have h1 := itoa_ev (n + 1)
 have h2 := itoa_len (n := n + 1) (by simp only [inR]; omega)
 have z1 : (⟨(Lib.itoa (n + 1)).toArray⟩ : ByteArray).size ≤ 21 := h2
 have z2 : (⟨#[95]⟩ : ByteArray).size = 1 := rfl
 have g0 : ((⟨#[]⟩ : ByteArray).toList == (⟨#[]⟩ : ByteArray).toList) = true := beq_self_eq_true _
 have hl : (vs.length : Int) = ((vs ++ [D.str (unN n)]).length : Int) - 1 := by simp
 rw [hl]
 unfold unN
 clear hl
 match vs, ats, cs, hv with
 | [], [], [], hv =>
  have hq : (([] : List D) ++ [D.imm (Value.string (⟨#[95]⟩ ++ ⟨(Lib.itoa (n + 1)).toArray⟩))]).length = 1 := rfl
  have hq2 : (([] : List D) ++ [D.str (⟨#[95]⟩ ++ ⟨(Lib.itoa (n + 1)).toArray⟩)]).length = 1 := rfl
  dsimp only [fX, fO]
  refine yn func100 ntmps100 fun _ _ _ _=>?_
  repeat' (first | refine yz ?_ | refine yp b179 h1 ?_ | (refine qS rfl ⟨by simp, fun d hd => by (obtain rfl := List.mem_singleton.1 hd; rfl), by (show (0 + 1) * 16 ≤ 140737488355328; omega), by (show 0 + 1 ≤ 9223372036854775807; omega)⟩ ?_) | refine retS1 [0, 1, 2, 3, 4] rfl rfl rfl rfl rfl ?_ | refine yx ?_ | (refine yy ?_ ?_ <;> intro _) | exact zD | exact zL)
  all_goals rfl
 | [], [], c0 :: cr, hv =>
  have hq : (([] : List D) ++ [D.imm (Value.string (⟨#[95]⟩ ++ ⟨(Lib.itoa (n + 1)).toArray⟩))]).length = 1 := rfl
  have hq2 : (([] : List D) ++ [D.str (⟨#[95]⟩ ++ ⟨(Lib.itoa (n + 1)).toArray⟩)]).length = 1 := rfl
  dsimp only [fX, fO]
  refine yn func100 ntmps100 fun _ _ _ _=>?_
  repeat' (first | refine yz ?_ | refine yp b179 h1 ?_ | (refine qS rfl ⟨by simp, fun d hd => by (obtain rfl := List.mem_singleton.1 hd; rfl), by (show (0 + 1) * 16 ≤ 140737488355328; omega), by (show 0 + 1 ≤ 9223372036854775807; omega)⟩ ?_) | refine retS1 [0, 1, 2, 3, 4] rfl rfl rfl rfl rfl ?_ | refine yx ?_ | (refine yy ?_ ?_ <;> intro _) | exact zD | exact zL)
  all_goals rfl
 | [], a0 :: ar, [], hv =>
  have hq : (([] : List D) ++ [D.imm (Value.string (⟨#[95]⟩ ++ ⟨(Lib.itoa (n + 1)).toArray⟩))]).length = 1 := rfl
  have hq2 : (([] : List D) ++ [D.str (⟨#[95]⟩ ++ ⟨(Lib.itoa (n + 1)).toArray⟩)]).length = 1 := rfl
  dsimp only [fX, fO]
  refine yn func100 ntmps100 fun _ _ _ _=>?_
  repeat' (first | refine yz ?_ | refine yp b179 h1 ?_ | (refine qS rfl ⟨by simp, fun d hd => by (obtain rfl := List.mem_singleton.1 hd; rfl), by (show (0 + 1) * 16 ≤ 140737488355328; omega), by (show 0 + 1 ≤ 9223372036854775807; omega)⟩ ?_) | refine retS1 [0, 1, 2, 3, 4] rfl rfl rfl rfl rfl ?_ | refine yx ?_ | (refine yy ?_ ?_ <;> intro _) | exact zD | exact zL)
  all_goals rfl
 | [], a0 :: ar, c0 :: cr, hv =>
  have hq : (([] : List D) ++ [D.imm (Value.string (⟨#[95]⟩ ++ ⟨(Lib.itoa (n + 1)).toArray⟩))]).length = 1 := rfl
  have hq2 : (([] : List D) ++ [D.str (⟨#[95]⟩ ++ ⟨(Lib.itoa (n + 1)).toArray⟩)]).length = 1 := rfl
  dsimp only [fX, fO]
  refine yn func100 ntmps100 fun _ _ _ _=>?_
  repeat' (first | refine yz ?_ | refine yp b179 h1 ?_ | (refine qS rfl ⟨by simp, fun d hd => by (obtain rfl := List.mem_singleton.1 hd; rfl), by (show (0 + 1) * 16 ≤ 140737488355328; omega), by (show 0 + 1 ≤ 9223372036854775807; omega)⟩ ?_) | refine retS1 [0, 1, 2, 3, 4] rfl rfl rfl rfl rfl ?_ | refine yx ?_ | (refine yy ?_ ?_ <;> intro _) | exact zD | exact zL)
  all_goals rfl
 | v0 :: vr, [], [], hv =>
  have hv2 : vr.length ≤ 1000000 := by simp at hv; omega
  have hq : ((v0 :: vr) ++ [D.imm (Value.string (⟨#[95]⟩ ++ ⟨(Lib.itoa (n + 1)).toArray⟩))]).length = vr.length + 2 := by simp
  have hq2 : ((v0 :: vr) ++ [D.str (⟨#[95]⟩ ++ ⟨(Lib.itoa (n + 1)).toArray⟩)]).length = vr.length + 2 := by simp
  dsimp only [fX, fO]
  refine yn func100 ntmps100 fun _ _ _ _=>?_
  repeat' (first | refine yz ?_ | refine yp b179 h1 ?_ | (refine qS rfl ⟨by simp, fun d hd => by (obtain rfl := List.mem_singleton.1 hd; rfl), by (show ((v0 :: vr).length + 1) * 16 ≤ 140737488355328; omega), by (show (v0 :: vr).length + 1 ≤ 9223372036854775807; omega)⟩ ?_) | refine retS1 [0, 1, 2, 3, 4] rfl rfl rfl rfl rfl ?_ | refine yx ?_ | (refine yy ?_ ?_ <;> intro _) | exact zD | exact zL)
  all_goals rfl
 | v0 :: vr, [], c0 :: cr, hv =>
  have hv2 : vr.length ≤ 1000000 := by simp at hv; omega
  have hq : ((v0 :: vr) ++ [D.imm (Value.string (⟨#[95]⟩ ++ ⟨(Lib.itoa (n + 1)).toArray⟩))]).length = vr.length + 2 := by simp
  have hq2 : ((v0 :: vr) ++ [D.str (⟨#[95]⟩ ++ ⟨(Lib.itoa (n + 1)).toArray⟩)]).length = vr.length + 2 := by simp
  dsimp only [fX, fO]
  refine yn func100 ntmps100 fun _ _ _ _=>?_
  repeat' (first | refine yz ?_ | refine yp b179 h1 ?_ | (refine qS rfl ⟨by simp, fun d hd => by (obtain rfl := List.mem_singleton.1 hd; rfl), by (show ((v0 :: vr).length + 1) * 16 ≤ 140737488355328; omega), by (show (v0 :: vr).length + 1 ≤ 9223372036854775807; omega)⟩ ?_) | refine retS1 [0, 1, 2, 3, 4] rfl rfl rfl rfl rfl ?_ | refine yx ?_ | (refine yy ?_ ?_ <;> intro _) | exact zD | exact zL)
  all_goals rfl
 | v0 :: vr, a0 :: ar, [], hv =>
  have hv2 : vr.length ≤ 1000000 := by simp at hv; omega
  have hq : ((v0 :: vr) ++ [D.imm (Value.string (⟨#[95]⟩ ++ ⟨(Lib.itoa (n + 1)).toArray⟩))]).length = vr.length + 2 := by simp
  have hq2 : ((v0 :: vr) ++ [D.str (⟨#[95]⟩ ++ ⟨(Lib.itoa (n + 1)).toArray⟩)]).length = vr.length + 2 := by simp
  dsimp only [fX, fO]
  refine yn func100 ntmps100 fun _ _ _ _=>?_
  repeat' (first | refine yz ?_ | refine yp b179 h1 ?_ | (refine qS rfl ⟨by simp, fun d hd => by (obtain rfl := List.mem_singleton.1 hd; rfl), by (show ((v0 :: vr).length + 1) * 16 ≤ 140737488355328; omega), by (show (v0 :: vr).length + 1 ≤ 9223372036854775807; omega)⟩ ?_) | refine retS1 [0, 1, 2, 3, 4] rfl rfl rfl rfl rfl ?_ | refine yx ?_ | (refine yy ?_ ?_ <;> intro _) | exact zD | exact zL)
  all_goals rfl
 | v0 :: vr, a0 :: ar, c0 :: cr, hv =>
  have hv2 : vr.length ≤ 1000000 := by simp at hv; omega
  have hq : ((v0 :: vr) ++ [D.imm (Value.string (⟨#[95]⟩ ++ ⟨(Lib.itoa (n + 1)).toArray⟩))]).length = vr.length + 2 := by simp
  have hq2 : ((v0 :: vr) ++ [D.str (⟨#[95]⟩ ++ ⟨(Lib.itoa (n + 1)).toArray⟩)]).length = vr.length + 2 := by simp
  dsimp only [fX, fO]
  refine yn func100 ntmps100 fun _ _ _ _=>?_
  repeat' (first | refine yz ?_ | refine yp b179 h1 ?_ | (refine qS rfl ⟨by simp, fun d hd => by (obtain rfl := List.mem_singleton.1 hd; rfl), by (show ((v0 :: vr).length + 1) * 16 ≤ 140737488355328; omega), by (show (v0 :: vr).length + 1 ≤ 9223372036854775807; omega)⟩ ?_) | refine retS1 [0, 1, 2, 3, 4] rfl rfl rfl rfl rfl ?_ | refine yx ?_ | (refine yy ?_ ?_ <;> intro _) | exact zD | exact zL)
  all_goals rfl
set_option maxHeartbeats 4000000 in
theorem variable2_evS (vs ats cs : List D) (n : Int) (s : ByteArray) (hs : (s.toList == (⟨#[]⟩ : ByteArray).toList) = false) (hx : Ev E 180 [.sl vs, .str s] (.d (.int (-1)))) (hv : vs.length ≤ 1000000) : EvS E 100 [.ptr 0 0, .d (.str s)] [bld (fX 1 vs) (fX 2 ats) (fX 3 cs) n, fO 9 1 vs, oAs ats, oCs cs] (.d (.int vs.length)) [bld (.own 4) (fX 2 ats) (fX 3 cs) n, .dead, oAs ats, oCs cs, rowS (vs ++ [.str s])] := by
 have g1 : decide ((-1 : Int) ≥ 0) = false := rfl
 have hl : (vs.length : Int) = ((vs ++ [D.str s]).length : Int) - 1 := by simp
 rw [hl]
 clear hl
 match vs, ats, cs, hv with
 | [], [], [], hv =>
  have hq : (([] : List D) ++ [D.imm (Value.string s)]).length = 1 := rfl
  have hq2 : (([] : List D) ++ [D.str s]).length = 1 := rfl
  dsimp only [fX, fO]
  refine yn func100 ntmps100 fun _ _ _ _=>?_
  repeat' (first | refine yz ?_ | refine yp b180 hx ?_ | (refine qS rfl ⟨by simp, fun d hd => by (obtain rfl := List.mem_singleton.1 hd; rfl), by (show (0 + 1) * 16 ≤ 140737488355328; omega), by (show 0 + 1 ≤ 9223372036854775807; omega)⟩ ?_) | refine retS1 [0, 1, 2, 3, 4] rfl rfl rfl rfl rfl ?_ | refine yx ?_ | (refine yy ?_ ?_ <;> intro _) | exact zD | exact zL)
  all_goals rfl
 | [], [], c0 :: cr, hv =>
  have hq : (([] : List D) ++ [D.imm (Value.string s)]).length = 1 := rfl
  have hq2 : (([] : List D) ++ [D.str s]).length = 1 := rfl
  dsimp only [fX, fO]
  refine yn func100 ntmps100 fun _ _ _ _=>?_
  repeat' (first | refine yz ?_ | refine yp b180 hx ?_ | (refine qS rfl ⟨by simp, fun d hd => by (obtain rfl := List.mem_singleton.1 hd; rfl), by (show (0 + 1) * 16 ≤ 140737488355328; omega), by (show 0 + 1 ≤ 9223372036854775807; omega)⟩ ?_) | refine retS1 [0, 1, 2, 3, 4] rfl rfl rfl rfl rfl ?_ | refine yx ?_ | (refine yy ?_ ?_ <;> intro _) | exact zD | exact zL)
  all_goals rfl
 | [], a0 :: ar, [], hv =>
  have hq : (([] : List D) ++ [D.imm (Value.string s)]).length = 1 := rfl
  have hq2 : (([] : List D) ++ [D.str s]).length = 1 := rfl
  dsimp only [fX, fO]
  refine yn func100 ntmps100 fun _ _ _ _=>?_
  repeat' (first | refine yz ?_ | refine yp b180 hx ?_ | (refine qS rfl ⟨by simp, fun d hd => by (obtain rfl := List.mem_singleton.1 hd; rfl), by (show (0 + 1) * 16 ≤ 140737488355328; omega), by (show 0 + 1 ≤ 9223372036854775807; omega)⟩ ?_) | refine retS1 [0, 1, 2, 3, 4] rfl rfl rfl rfl rfl ?_ | refine yx ?_ | (refine yy ?_ ?_ <;> intro _) | exact zD | exact zL)
  all_goals rfl
 | [], a0 :: ar, c0 :: cr, hv =>
  have hq : (([] : List D) ++ [D.imm (Value.string s)]).length = 1 := rfl
  have hq2 : (([] : List D) ++ [D.str s]).length = 1 := rfl
  dsimp only [fX, fO]
  refine yn func100 ntmps100 fun _ _ _ _=>?_
  repeat' (first | refine yz ?_ | refine yp b180 hx ?_ | (refine qS rfl ⟨by simp, fun d hd => by (obtain rfl := List.mem_singleton.1 hd; rfl), by (show (0 + 1) * 16 ≤ 140737488355328; omega), by (show 0 + 1 ≤ 9223372036854775807; omega)⟩ ?_) | refine retS1 [0, 1, 2, 3, 4] rfl rfl rfl rfl rfl ?_ | refine yx ?_ | (refine yy ?_ ?_ <;> intro _) | exact zD | exact zL)
  all_goals rfl
 | v0 :: vr, [], [], hv =>
  have hx := indexT_evS (v0 :: vr) s (-1) hx
  have hv2 : vr.length ≤ 1000000 := by simp at hv; omega
  have hq : ((v0 :: vr) ++ [D.imm (Value.string s)]).length = vr.length + 2 := by simp
  have hq2 : ((v0 :: vr) ++ [D.str s]).length = vr.length + 2 := by simp
  dsimp only [fX, fO]
  refine yn func100 ntmps100 fun _ _ _ _=>?_
  repeat' (first | refine yz ?_ | refine yc [1] b180 (hx) ?_ | (refine qS rfl ⟨by simp, fun d hd => by (obtain rfl := List.mem_singleton.1 hd; rfl), by (show ((v0 :: vr).length + 1) * 16 ≤ 140737488355328; omega), by (show (v0 :: vr).length + 1 ≤ 9223372036854775807; omega)⟩ ?_) | refine retS1 [0, 1, 2, 3, 4] rfl rfl rfl rfl rfl ?_ | refine yx ?_ | (refine yy ?_ ?_ <;> intro _) | exact zD | exact zL)
  all_goals rfl
 | v0 :: vr, [], c0 :: cr, hv =>
  have hx := indexT_evS (v0 :: vr) s (-1) hx
  have hv2 : vr.length ≤ 1000000 := by simp at hv; omega
  have hq : ((v0 :: vr) ++ [D.imm (Value.string s)]).length = vr.length + 2 := by simp
  have hq2 : ((v0 :: vr) ++ [D.str s]).length = vr.length + 2 := by simp
  dsimp only [fX, fO]
  refine yn func100 ntmps100 fun _ _ _ _=>?_
  repeat' (first | refine yz ?_ | refine yc [1] b180 (hx) ?_ | (refine qS rfl ⟨by simp, fun d hd => by (obtain rfl := List.mem_singleton.1 hd; rfl), by (show ((v0 :: vr).length + 1) * 16 ≤ 140737488355328; omega), by (show (v0 :: vr).length + 1 ≤ 9223372036854775807; omega)⟩ ?_) | refine retS1 [0, 1, 2, 3, 4] rfl rfl rfl rfl rfl ?_ | refine yx ?_ | (refine yy ?_ ?_ <;> intro _) | exact zD | exact zL)
  all_goals rfl
 | v0 :: vr, a0 :: ar, [], hv =>
  have hx := indexT_evS (v0 :: vr) s (-1) hx
  have hv2 : vr.length ≤ 1000000 := by simp at hv; omega
  have hq : ((v0 :: vr) ++ [D.imm (Value.string s)]).length = vr.length + 2 := by simp
  have hq2 : ((v0 :: vr) ++ [D.str s]).length = vr.length + 2 := by simp
  dsimp only [fX, fO]
  refine yn func100 ntmps100 fun _ _ _ _=>?_
  repeat' (first | refine yz ?_ | refine yc [1] b180 (hx) ?_ | (refine qS rfl ⟨by simp, fun d hd => by (obtain rfl := List.mem_singleton.1 hd; rfl), by (show ((v0 :: vr).length + 1) * 16 ≤ 140737488355328; omega), by (show (v0 :: vr).length + 1 ≤ 9223372036854775807; omega)⟩ ?_) | refine retS1 [0, 1, 2, 3, 4] rfl rfl rfl rfl rfl ?_ | refine yx ?_ | (refine yy ?_ ?_ <;> intro _) | exact zD | exact zL)
  all_goals rfl
 | v0 :: vr, a0 :: ar, c0 :: cr, hv =>
  have hx := indexT_evS (v0 :: vr) s (-1) hx
  have hv2 : vr.length ≤ 1000000 := by simp at hv; omega
  have hq : ((v0 :: vr) ++ [D.imm (Value.string s)]).length = vr.length + 2 := by simp
  have hq2 : ((v0 :: vr) ++ [D.str s]).length = vr.length + 2 := by simp
  dsimp only [fX, fO]
  refine yn func100 ntmps100 fun _ _ _ _=>?_
  repeat' (first | refine yz ?_ | refine yc [1] b180 (hx) ?_ | (refine qS rfl ⟨by simp, fun d hd => by (obtain rfl := List.mem_singleton.1 hd; rfl), by (show ((v0 :: vr).length + 1) * 16 ≤ 140737488355328; omega), by (show (v0 :: vr).length + 1 ≤ 9223372036854775807; omega)⟩ ?_) | refine retS1 [0, 1, 2, 3, 4] rfl rfl rfl rfl rfl ?_ | refine yx ?_ | (refine yy ?_ ?_ <;> intro _) | exact zD | exact zL)
  all_goals rfl
abbrev rowA (l : List D) : AObj := .row 58 9 l
set_option maxHeartbeats 4000000 in
theorem atomB_evS (vs ats cs : List D) (n : Int) (a : AT) (hv : ats.length ≤ 1000000) : EvS E 103 [.ptr 0 0, .d (encAT a)] [bld (fX 1 vs) (fX 2 ats) (fX 3 cs) n, fO 9 1 vs, oAs ats, oCs cs] (.tup []) [bld (fX 1 vs) (.own 4) (fX 3 cs) n, fO 9 1 vs, .dead, oCs cs, rowA (ats ++ [encAT a])] := by
 obtain ⟨k, avs, nm, ty, ⟨vk, vn, vd, vS, vl⟩⟩ := a
 match vs, ats, cs, hv with
 | [], [], [], hv =>
  dsimp only [fX, fO]
  refine yn func103 ntmps103 fun _ _ _ _=>?_
  repeat' (first | refine yu 1 [8,12] [0,2] ?_ | refine yk 1 0 1 ?_ | refine yf 1 1 7 ?_ | refine yw ?_ | refine yf 1 9 3 ?_ | refine rgN ?_ | refine yv ?_ | refine yz ?_ | refine rgS (id := 1) (i := 8) rfl rfl rfl rfl (⟨by simp, fun d hd => by (obtain rfl := List.mem_singleton.1 hd; rfl), by (show (0 + 1) * 136 ≤ 140737488355328; omega), by (show 0 + 1 ≤ 9223372036854775807; omega)⟩) (by repeat (first | exact trivial | refine ⟨⟨rfl, rfl⟩, ?_⟩ | refine ⟨trivial, ?_⟩)) ?_ | refine retS0 [0, 1, 2, 3, 5] rfl rfl rfl rfl | refine endS0 [0, 1, 2, 3, 5] rfl rfl rfl rfl | refine yx ?_ | (refine yy ?_ ?_ <;> intro _) | exact zD | exact zL)
 | [], [], c0 :: cr, hv =>
  dsimp only [fX, fO]
  refine yn func103 ntmps103 fun _ _ _ _=>?_
  repeat' (first | refine yu 1 [8,12] [0,2] ?_ | refine yk 1 0 1 ?_ | refine yf 1 1 7 ?_ | refine yw ?_ | refine yf 1 9 3 ?_ | refine rgN ?_ | refine yv ?_ | refine yz ?_ | refine rgS (id := 1) (i := 8) rfl rfl rfl rfl (⟨by simp, fun d hd => by (obtain rfl := List.mem_singleton.1 hd; rfl), by (show (0 + 1) * 136 ≤ 140737488355328; omega), by (show 0 + 1 ≤ 9223372036854775807; omega)⟩) (by repeat (first | exact trivial | refine ⟨⟨rfl, rfl⟩, ?_⟩ | refine ⟨trivial, ?_⟩)) ?_ | refine retS0 [0, 1, 2, 3, 5] rfl rfl rfl rfl | refine endS0 [0, 1, 2, 3, 5] rfl rfl rfl rfl | refine yx ?_ | (refine yy ?_ ?_ <;> intro _) | exact zD | exact zL)
 | [], a0 :: ar, [], hv =>
  dsimp only [fX, fO]
  refine yn func103 ntmps103 fun _ _ _ _=>?_
  repeat' (first | refine yu 1 [8,12] [0,2] ?_ | refine yk 1 0 1 ?_ | refine yf 1 1 7 ?_ | refine yw ?_ | refine yf 1 9 3 ?_ | refine rgN ?_ | refine yv ?_ | refine yz ?_ | refine rgS (id := 1) (i := 8) rfl rfl rfl rfl (⟨by simp, fun d hd => by (obtain rfl := List.mem_singleton.1 hd; rfl), by (show ((a0 :: ar).length + 1) * 136 ≤ 140737488355328; omega), by (show (a0 :: ar).length + 1 ≤ 9223372036854775807; omega)⟩) (by repeat (first | exact trivial | refine ⟨⟨rfl, rfl⟩, ?_⟩ | refine ⟨trivial, ?_⟩)) ?_ | refine retS0 [0, 1, 2, 3, 5] rfl rfl rfl rfl | refine endS0 [0, 1, 2, 3, 5] rfl rfl rfl rfl | refine yx ?_ | (refine yy ?_ ?_ <;> intro _) | exact zD | exact zL)
 | [], a0 :: ar, c0 :: cr, hv =>
  dsimp only [fX, fO]
  refine yn func103 ntmps103 fun _ _ _ _=>?_
  repeat' (first | refine yu 1 [8,12] [0,2] ?_ | refine yk 1 0 1 ?_ | refine yf 1 1 7 ?_ | refine yw ?_ | refine yf 1 9 3 ?_ | refine rgN ?_ | refine yv ?_ | refine yz ?_ | refine rgS (id := 1) (i := 8) rfl rfl rfl rfl (⟨by simp, fun d hd => by (obtain rfl := List.mem_singleton.1 hd; rfl), by (show ((a0 :: ar).length + 1) * 136 ≤ 140737488355328; omega), by (show (a0 :: ar).length + 1 ≤ 9223372036854775807; omega)⟩) (by repeat (first | exact trivial | refine ⟨⟨rfl, rfl⟩, ?_⟩ | refine ⟨trivial, ?_⟩)) ?_ | refine retS0 [0, 1, 2, 3, 5] rfl rfl rfl rfl | refine endS0 [0, 1, 2, 3, 5] rfl rfl rfl rfl | refine yx ?_ | (refine yy ?_ ?_ <;> intro _) | exact zD | exact zL)
 | v0 :: vr, [], [], hv =>
  dsimp only [fX, fO]
  refine yn func103 ntmps103 fun _ _ _ _=>?_
  repeat' (first | refine yu 1 [8,12] [0,2] ?_ | refine yk 1 0 1 ?_ | refine yf 1 1 7 ?_ | refine yw ?_ | refine yf 1 9 3 ?_ | refine rgN ?_ | refine yv ?_ | refine yz ?_ | refine rgS (id := 1) (i := 8) rfl rfl rfl rfl (⟨by simp, fun d hd => by (obtain rfl := List.mem_singleton.1 hd; rfl), by (show (0 + 1) * 136 ≤ 140737488355328; omega), by (show 0 + 1 ≤ 9223372036854775807; omega)⟩) (by repeat (first | exact trivial | refine ⟨⟨rfl, rfl⟩, ?_⟩ | refine ⟨trivial, ?_⟩)) ?_ | refine retS0 [0, 1, 2, 3, 5] rfl rfl rfl rfl | refine endS0 [0, 1, 2, 3, 5] rfl rfl rfl rfl | refine yx ?_ | (refine yy ?_ ?_ <;> intro _) | exact zD | exact zL)
 | v0 :: vr, [], c0 :: cr, hv =>
  dsimp only [fX, fO]
  refine yn func103 ntmps103 fun _ _ _ _=>?_
  repeat' (first | refine yu 1 [8,12] [0,2] ?_ | refine yk 1 0 1 ?_ | refine yf 1 1 7 ?_ | refine yw ?_ | refine yf 1 9 3 ?_ | refine rgN ?_ | refine yv ?_ | refine yz ?_ | refine rgS (id := 1) (i := 8) rfl rfl rfl rfl (⟨by simp, fun d hd => by (obtain rfl := List.mem_singleton.1 hd; rfl), by (show (0 + 1) * 136 ≤ 140737488355328; omega), by (show 0 + 1 ≤ 9223372036854775807; omega)⟩) (by repeat (first | exact trivial | refine ⟨⟨rfl, rfl⟩, ?_⟩ | refine ⟨trivial, ?_⟩)) ?_ | refine retS0 [0, 1, 2, 3, 5] rfl rfl rfl rfl | refine endS0 [0, 1, 2, 3, 5] rfl rfl rfl rfl | refine yx ?_ | (refine yy ?_ ?_ <;> intro _) | exact zD | exact zL)
 | v0 :: vr, a0 :: ar, [], hv =>
  dsimp only [fX, fO]
  refine yn func103 ntmps103 fun _ _ _ _=>?_
  repeat' (first | refine yu 1 [8,12] [0,2] ?_ | refine yk 1 0 1 ?_ | refine yf 1 1 7 ?_ | refine yw ?_ | refine yf 1 9 3 ?_ | refine rgN ?_ | refine yv ?_ | refine yz ?_ | refine rgS (id := 1) (i := 8) rfl rfl rfl rfl (⟨by simp, fun d hd => by (obtain rfl := List.mem_singleton.1 hd; rfl), by (show ((a0 :: ar).length + 1) * 136 ≤ 140737488355328; omega), by (show (a0 :: ar).length + 1 ≤ 9223372036854775807; omega)⟩) (by repeat (first | exact trivial | refine ⟨⟨rfl, rfl⟩, ?_⟩ | refine ⟨trivial, ?_⟩)) ?_ | refine retS0 [0, 1, 2, 3, 5] rfl rfl rfl rfl | refine endS0 [0, 1, 2, 3, 5] rfl rfl rfl rfl | refine yx ?_ | (refine yy ?_ ?_ <;> intro _) | exact zD | exact zL)
 | v0 :: vr, a0 :: ar, c0 :: cr, hv =>
  dsimp only [fX, fO]
  refine yn func103 ntmps103 fun _ _ _ _=>?_
  repeat' (first | refine yu 1 [8,12] [0,2] ?_ | refine yk 1 0 1 ?_ | refine yf 1 1 7 ?_ | refine yw ?_ | refine yf 1 9 3 ?_ | refine rgN ?_ | refine yv ?_ | refine yz ?_ | refine rgS (id := 1) (i := 8) rfl rfl rfl rfl (⟨by simp, fun d hd => by (obtain rfl := List.mem_singleton.1 hd; rfl), by (show ((a0 :: ar).length + 1) * 136 ≤ 140737488355328; omega), by (show (a0 :: ar).length + 1 ≤ 9223372036854775807; omega)⟩) (by repeat (first | exact trivial | refine ⟨⟨rfl, rfl⟩, ?_⟩ | refine ⟨trivial, ?_⟩)) ?_ | refine retS0 [0, 1, 2, 3, 5] rfl rfl rfl rfl | refine endS0 [0, 1, 2, 3, 5] rfl rfl rfl rfl | refine yx ?_ | (refine yy ?_ ?_ <;> intro _) | exact zD | exact zL)
end Go.Proofs.YtenpjlghikohmaaGreatDoor
