/- A row of the caller's handed to a function over data, anywhere among its arguments; slices.Index at texts; slices.Index at texts, over data and over a row of the caller's; The builder's variables; The builder's atoms. Conditions: each part's own, as it says. -/
import Derived.Test.YtenpjlghikohmaaGreatDoorLD
import Derived.Test.YtenpjlghikohmaaGreatDoorGC
import Derived.Test.YtenpjlghikohmaaGreatDoorMB
set_option linter.unusedVariables false
set_option linter.unusedSimpArgs false
namespace Go.Proofs.YtenpjlghikohmaaGreatDoor
set_option maxRecDepth 4000
open Go Go.Abs Go.Val Go.RowKit Go.Sort Go.Proofs Go.Proofs.Tryz
theorem en1 {f : FuncId} {ds xs es : List D} {e : TypeId} {size : Nat} {u : Value} (h : Ev E f (ds ++ .sl xs :: es) (.d (.imm u))) : EvS E f (ds.map .d ++ .own 0 :: es.map .d) [.row e size xs] (.d (.imm u)) [.row e size xs] := by
 intro w F σ vs hi hl hr;have hlen : vs.length = ds.length + 1 + es.length := by simp at hl; omega
 obtain ⟨v, hv⟩ : ∃ v, vs[ds.length]? = some v := ⟨_, ez5 (by omega)⟩;obtain ⟨b, c, n, e1, rfl⟩ := hr ds.length (.own 0) v (by rw [fa9 (by simp)]; simp) hv;obtain ⟨cs, g1, g2, g3, g4, g5, g6, g7, g8, g9, g10⟩ := hi.obs 0 _ _ rfl e1;have hbl : b < w.heap.size := (fg3.1 g1).1
 have hnew : Rd w (fun i => F i ∨ i = b) (.sl xs) (.slice (some ⟨b, 0, none⟩) n c) := by
  have hex : ∀ i j, ∃ u, ∀ x cd, xs[i]? = some x → x.cells[j]? = some cd → cs[i * size + j]? = some u ∧ Rd w F cd u := by
   intro i j
   cases hx : xs[i]? with
   | none => exact ⟨undef, fun x cd h => by cases h⟩
   | some x =>
    cases hc : x.cells[j]? with
    | none => exact ⟨undef, fun x' cd h h' => by cases h; rw [hc] at h'; cases h'⟩
    | some cd =>
     obtain ⟨u, e1, e2⟩ := g8 i x j cd hx hc;exact ⟨u, fun x' cd' h h' => by cases h; rw [hc] at h'; cases h'; exact ⟨e1, e2⟩⟩
  rw [g3];refine .sl size xs ⟨b, 0, none⟩ c (fun i j => Classical.choose (hex i j)) (by omega) g5 (fun _ => .inr rfl) g6 g7 (fun i x j cd hx hc => ?_) (fun i x j cd hx hc => ?_)
  ·have := (Classical.choose_spec (hex i j) x cd hx hc).1;rw [aa2, fc0];unfold World.cell?;simp only [g1];simpa using this
  ·exact (Classical.choose_spec (hex i j) x cd hx hc).2.mono (fun _ h => .inl h) fun _ _ => rfl
 refine (h w (fun i => F i ∨ i = b) vs (fun k hk => ?_) (hi.glob.mono (fun _ h => .inl h) fun _ _ => rfl) (by simp; omega) fun i d v' hd hv' => ?_).mono ?_
 ·rcases hk with hk | rfl
  ·exact hi.flt k hk
  ·exact hbl
 ·rcases ez6 i ds.length with hlt | hge
  ·rw [fa7 hlt] at hd;exact Rd.mono (hr i (.d d) v' (by rw [fa7 (by simpa using hlt), ez8, hd]; rfl) hv') (fun _ h => .inl h) fun _ _ => rfl
  ·rw [fa9 hge] at hd;rcases fi0 (i - ds.length) with h0 | h0
   ·have h1 : i = ds.length := by omega
    subst h1;rw [Nat.sub_self] at hd
    cases hd
    rw [hv] at hv'
    cases hv'
    exact hnew
   ·obtain ⟨m, hm⟩ : ∃ m, i - ds.length = m + 1 := ⟨i - ds.length - 1, by omega⟩;rw [hm, List.getElem?_cons_succ] at hd;exact Rd.mono (hr i (.d d) v' (by rw [fa9 (by simpa using hge), fb8, hm, List.getElem?_cons_succ, ez8, hd]; rfl) hv') (fun _ h => .inl h) fun _ _ => rfl
 ·rintro ev w' ⟨v', F', rfl, hext, hrd⟩;have hb := hext.below;obtain ⟨rfl, hok⟩ := Rd.imm_inv (show Rd w' F' (.imm u) v' from hrd);exact ⟨_, F, σ, rfl, aa7.of_below hb fun k hk => hk.1, fun _ h => h, fun _ h => .inl h, fun i p _ hp => hp, (ab2.lend hi).ext (Ext.of_below hb hi.flt), Rd.imm _ hok⟩
def ixT (l : List ByteArray) (s : ByteArray) : Option Nat := l.findIdx? fun y => s.toList == y.toList
def ixI : Option Nat → Int | some i => (i : Int) | none => -1
theorem en2 {l : List ByteArray} {s : ByteArray} {i : Nat} {x : ByteArray} (hx : l[i]? = some x) (hc : (s.toList == x.toList) = true) (h : ∀ j, j < i → ∀ y, l[j]? = some y → (s.toList == y.toList) = false) : ixT l s = some i := by
 obtain ⟨hlt, rfl⟩ := ez7.1 hx;unfold ixT;refine fj8.2 ⟨hlt, hc, fun j hj => ?_⟩;have := h j hj l[j] (ez5 (by omega));simpa using this
theorem en3 {l : List ByteArray} {s : ByteArray} (h : ∀ j, j < l.length → ∀ y, l[j]? = some y → (s.toList == y.toList) = false) : ixT l s = none := by
 unfold ixT;rw [fh4];intro x hx;obtain ⟨j, hj, rfl⟩ := List.mem_iff_getElem.1 hx;have := h j hj l[j] (ez5 hj);simpa using this
end Go.Proofs.YtenpjlghikohmaaGreatDoor
namespace Go.Proofs.YtenpjlghikohmaaGreatDoor
set_option maxRecDepth 4000
open Go Go.Abs Go.Val Go.RowKit Go.Proofs Go.Proofs.Tryz
attribute [local irreducible] go SGo an2 Ev aw2 EvO EvS PGo RGo
structure SIy (l : List ByteArray) (s : ByteArray) where
 i : Nat
 hi : i ≤ l.length
 ok : ∀ j, j < i → ∀ y, l[j]? = some y → (s.toList == y.toList) = false
theorem en4 (l : List ByteArray) (s : ByteArray) : Ev E 180 [.sl (l.map D.str), .str s] (.d (.int (ixI (ixT l s)))) := Ev.fit fun hfit => by
 have hmax := (cy4 (hfit (.sl (l.map D.str)) (by simp))).1;have hle : (l.map D.str).length = l.length := by simp
 refine ye2 func180 ntmps180 fun _ _ _=>?_
 repeat' (first | refine yz ?_ | refine yx ?_ | (refine yy ?_ ?_ <;> intro _) | exact zD | exact zL)
 refine ac7 (α := SIy l s) (fun p => ⟨[(0, .d (.sl (l.map D.str))), (1, .d (.str s)), (7, .d (.int (l.map D.str).length)), (8, .d (.int p.i))], []⟩) (fun p => l.length - p.i) ⟨0, by omega, fun j hj => absurd hj (by omega)⟩ (zle 0) ?_;rintro ⟨i, hi, ok⟩;dsimp only;rcases ez6 i l.length with hlt | hge
 ·have g1 : decide ((i : Int) < ((l.map D.str).length : Int)) = true := by rw [hle]; simpa using hlt
  have hx0 := ez5 hlt;generalize l[i] = y at hx0;have hx : (l.map D.str)[((i : Nat) : Int).toNat]? = some (.str y) := by rw [fb4, ez8, hx0]; rfl
  cases hc : s.toList == y.toList with
  | true =>
   rw [en2 hx0 hc ok]
   repeat' (first | refine yz ?_ | refine yi (.str y) hx ?_ | refine yx ?_ | (refine yy ?_ ?_ <;> intro _) | exact zD | exact zL)
  | false =>
   repeat' (first | refine yz ?_ | refine yi (.str y) hx ?_ | refine yx ?_ | (refine yy ?_ ?_ <;> intro _) | exact zD | exact zL)
   refine ac1 ?_;refine ⟨⟨i + 1, by omega, fun j hj z hz => ?_⟩, by dsimp only; omega, (zle 0)⟩;rcases fl7.1 hj with h1 | rfl
   ·exact ok j h1 z hz
   ·rw [hx0] at hz; cases hz; exact hc
 ·have g1 : decide ((i : Int) < ((l.map D.str).length : Int)) = false := by rw [hle]; simp; omega
  rw [en3 fun j hj => ok j (by omega)]
  repeat' (first | refine yz ?_ | refine yx ?_ | (refine yy ?_ ?_ <;> intro _) | exact zD | exact zL)
theorem en5 (l : List D) (s : ByteArray) (u : Int) (h : Ev E 180 [.sl l, .str s] (.d (.int u))) : EvS E 180 [.own 0, .d (.str s)] [.row 9 1 l] (.d (.int u)) [.row 9 1 l] :=
 en1 (ds := []) (es := [.str s]) h
def fX (k : Nat) : List D → X
 | [] => .nilS
 | _ :: _ => .own k
def fO (t : TypeId) (sz : Nat) : List D → aa5
 | [] => .dead
 | x :: r => .row t sz (x :: r)
abbrev bld (v a c : X) (n : Int) : aa5 := .var 81 (.cs [v, a, c, .d (.int n)])
abbrev en6 (l : List D) : aa5 := .row 9 1 l
abbrev oAs (l : List D) : aa5 := fO 58 9 l
abbrev oCs (l : List D) : aa5 := fO 92 9 l
def unN (n : Int) : ByteArray := ⟨#[95]⟩ ++ ⟨(Lib.itoa (n + 1)).toArray⟩
set_option maxHeartbeats 4000000 in
theorem en7 (vs ats cs : List D) (n : Int) (hv : vs.length ≤ 1000000) (hn : 0 ≤ n ∧ n ≤ 1000000) : EvS E 100 [.ptr 0 0, .d (.str ⟨#[]⟩)] [bld (fX 1 vs) (fX 2 ats) (fX 3 cs) n, fO 9 1 vs, oAs ats, oCs cs] (.d (.int vs.length)) [bld (.own 4) (fX 2 ats) (fX 3 cs) (n + 1), .dead, oAs ats, oCs cs, en6 (vs ++ [.str (unN n)])] := by
 have h1 := cb4 (n + 1);have h2 := cj8 (n := n + 1) (by simp only [inR]; omega);have z1 : (⟨(Lib.itoa (n + 1)).toArray⟩ : ByteArray).size ≤ 21 := h2;have z2 : (⟨#[95]⟩ : ByteArray).size = 1 := rfl;have g0 : ((⟨#[]⟩ : ByteArray).toList == (⟨#[]⟩ : ByteArray).toList) = true := beq_self_eq_true _;have hl : (vs.length : Int) = ((vs ++ [D.str (unN n)]).length : Int) - 1 := by simp
 rw [hl];unfold unN;clear hl
 match vs, ats, cs, hv with
 | [], [], [], hv =>
  have hq : (([] : List D) ++ [D.imm (Value.string (⟨#[95]⟩ ++ ⟨(Lib.itoa (n + 1)).toArray⟩))]).length = 1 := rfl;have hq2 : (([] : List D) ++ [D.str (⟨#[95]⟩ ++ ⟨(Lib.itoa (n + 1)).toArray⟩)]).length = 1 := rfl;dsimp only [fX, fO];refine yn func100 ntmps100 fun _ _ _ _=>?_
  repeat' (first | refine yz ?_ | refine yp bv2 h1 ?_ | (refine qS rfl ⟨by simp, fun d hd => by (obtain rfl := fa0.1 hd; rfl), by (show (0 + 1) * 16 ≤ 140737488355328; omega), by (show 0 + 1 ≤ 9223372036854775807; omega)⟩ ?_) | refine bd2 [0, 1, 2, 3, 4] rfl rfl rfl rfl rfl ?_)
  all_goals rfl
 | [], [], c0 :: cr, hv =>
  have hq : (([] : List D) ++ [D.imm (Value.string (⟨#[95]⟩ ++ ⟨(Lib.itoa (n + 1)).toArray⟩))]).length = 1 := rfl;have hq2 : (([] : List D) ++ [D.str (⟨#[95]⟩ ++ ⟨(Lib.itoa (n + 1)).toArray⟩)]).length = 1 := rfl;dsimp only [fX, fO];refine yn func100 ntmps100 fun _ _ _ _=>?_
  repeat' (first | refine yz ?_ | refine yp bv2 h1 ?_ | (refine qS rfl ⟨by simp, fun d hd => by (obtain rfl := fa0.1 hd; rfl), by (show (0 + 1) * 16 ≤ 140737488355328; omega), by (show 0 + 1 ≤ 9223372036854775807; omega)⟩ ?_) | refine bd2 [0, 1, 2, 3, 4] rfl rfl rfl rfl rfl ?_)
  all_goals rfl
 | [], a0 :: ar, [], hv =>
  have hq : (([] : List D) ++ [D.imm (Value.string (⟨#[95]⟩ ++ ⟨(Lib.itoa (n + 1)).toArray⟩))]).length = 1 := rfl;have hq2 : (([] : List D) ++ [D.str (⟨#[95]⟩ ++ ⟨(Lib.itoa (n + 1)).toArray⟩)]).length = 1 := rfl;dsimp only [fX, fO];refine yn func100 ntmps100 fun _ _ _ _=>?_
  repeat' (first | refine yz ?_ | refine yp bv2 h1 ?_ | (refine qS rfl ⟨by simp, fun d hd => by (obtain rfl := fa0.1 hd; rfl), by (show (0 + 1) * 16 ≤ 140737488355328; omega), by (show 0 + 1 ≤ 9223372036854775807; omega)⟩ ?_) | refine bd2 [0, 1, 2, 3, 4] rfl rfl rfl rfl rfl ?_)
  all_goals rfl
 | [], a0 :: ar, c0 :: cr, hv =>
  have hq : (([] : List D) ++ [D.imm (Value.string (⟨#[95]⟩ ++ ⟨(Lib.itoa (n + 1)).toArray⟩))]).length = 1 := rfl;have hq2 : (([] : List D) ++ [D.str (⟨#[95]⟩ ++ ⟨(Lib.itoa (n + 1)).toArray⟩)]).length = 1 := rfl;dsimp only [fX, fO];refine yn func100 ntmps100 fun _ _ _ _=>?_
  repeat' (first | refine yz ?_ | refine yp bv2 h1 ?_ | (refine qS rfl ⟨by simp, fun d hd => by (obtain rfl := fa0.1 hd; rfl), by (show (0 + 1) * 16 ≤ 140737488355328; omega), by (show 0 + 1 ≤ 9223372036854775807; omega)⟩ ?_) | refine bd2 [0, 1, 2, 3, 4] rfl rfl rfl rfl rfl ?_)
  all_goals rfl
 | v0 :: vr, [], [], hv =>
  have hv2 : vr.length ≤ 1000000 := by simp at hv; omega
  have hq : ((v0 :: vr) ++ [D.imm (Value.string (⟨#[95]⟩ ++ ⟨(Lib.itoa (n + 1)).toArray⟩))]).length = vr.length + 2 := by simp
  have hq2 : ((v0 :: vr) ++ [D.str (⟨#[95]⟩ ++ ⟨(Lib.itoa (n + 1)).toArray⟩)]).length = vr.length + 2 := by simp
  dsimp only [fX, fO];refine yn func100 ntmps100 fun _ _ _ _=>?_
  repeat' (first | refine yz ?_ | refine yp bv2 h1 ?_ | (refine qS rfl ⟨by simp, fun d hd => by (obtain rfl := fa0.1 hd; rfl), by (show ((v0 :: vr).length + 1) * 16 ≤ 140737488355328; omega), by (show (v0 :: vr).length + 1 ≤ 9223372036854775807; omega)⟩ ?_) | refine bd2 [0, 1, 2, 3, 4] rfl rfl rfl rfl rfl ?_)
  all_goals rfl
 | v0 :: vr, [], c0 :: cr, hv =>
  have hv2 : vr.length ≤ 1000000 := by simp at hv; omega
  have hq : ((v0 :: vr) ++ [D.imm (Value.string (⟨#[95]⟩ ++ ⟨(Lib.itoa (n + 1)).toArray⟩))]).length = vr.length + 2 := by simp
  have hq2 : ((v0 :: vr) ++ [D.str (⟨#[95]⟩ ++ ⟨(Lib.itoa (n + 1)).toArray⟩)]).length = vr.length + 2 := by simp
  dsimp only [fX, fO];refine yn func100 ntmps100 fun _ _ _ _=>?_
  repeat' (first | refine yz ?_ | refine yp bv2 h1 ?_ | (refine qS rfl ⟨by simp, fun d hd => by (obtain rfl := fa0.1 hd; rfl), by (show ((v0 :: vr).length + 1) * 16 ≤ 140737488355328; omega), by (show (v0 :: vr).length + 1 ≤ 9223372036854775807; omega)⟩ ?_) | refine bd2 [0, 1, 2, 3, 4] rfl rfl rfl rfl rfl ?_)
  all_goals rfl
 | v0 :: vr, a0 :: ar, [], hv =>
  have hv2 : vr.length ≤ 1000000 := by simp at hv; omega
  have hq : ((v0 :: vr) ++ [D.imm (Value.string (⟨#[95]⟩ ++ ⟨(Lib.itoa (n + 1)).toArray⟩))]).length = vr.length + 2 := by simp
  have hq2 : ((v0 :: vr) ++ [D.str (⟨#[95]⟩ ++ ⟨(Lib.itoa (n + 1)).toArray⟩)]).length = vr.length + 2 := by simp
  dsimp only [fX, fO];refine yn func100 ntmps100 fun _ _ _ _=>?_
  repeat' (first | refine yz ?_ | refine yp bv2 h1 ?_ | (refine qS rfl ⟨by simp, fun d hd => by (obtain rfl := fa0.1 hd; rfl), by (show ((v0 :: vr).length + 1) * 16 ≤ 140737488355328; omega), by (show (v0 :: vr).length + 1 ≤ 9223372036854775807; omega)⟩ ?_) | refine bd2 [0, 1, 2, 3, 4] rfl rfl rfl rfl rfl ?_)
  all_goals rfl
 | v0 :: vr, a0 :: ar, c0 :: cr, hv =>
  have hv2 : vr.length ≤ 1000000 := by simp at hv; omega
  have hq : ((v0 :: vr) ++ [D.imm (Value.string (⟨#[95]⟩ ++ ⟨(Lib.itoa (n + 1)).toArray⟩))]).length = vr.length + 2 := by simp
  have hq2 : ((v0 :: vr) ++ [D.str (⟨#[95]⟩ ++ ⟨(Lib.itoa (n + 1)).toArray⟩)]).length = vr.length + 2 := by simp
  dsimp only [fX, fO];refine yn func100 ntmps100 fun _ _ _ _=>?_
  repeat' (first | refine yz ?_ | refine yp bv2 h1 ?_ | (refine qS rfl ⟨by simp, fun d hd => by (obtain rfl := fa0.1 hd; rfl), by (show ((v0 :: vr).length + 1) * 16 ≤ 140737488355328; omega), by (show (v0 :: vr).length + 1 ≤ 9223372036854775807; omega)⟩ ?_) | refine bd2 [0, 1, 2, 3, 4] rfl rfl rfl rfl rfl ?_)
  all_goals rfl
set_option maxHeartbeats 4000000 in
theorem en8 (vs ats cs : List D) (n : Int) (s : ByteArray) (hs : (s.toList == (⟨#[]⟩ : ByteArray).toList) = false) (hx : Ev E 180 [.sl vs, .str s] (.d (.int (-1)))) (hv : vs.length ≤ 1000000) : EvS E 100 [.ptr 0 0, .d (.str s)] [bld (fX 1 vs) (fX 2 ats) (fX 3 cs) n, fO 9 1 vs, oAs ats, oCs cs] (.d (.int vs.length)) [bld (.own 4) (fX 2 ats) (fX 3 cs) n, .dead, oAs ats, oCs cs, en6 (vs ++ [.str s])] := by
 have g1 : decide ((-1 : Int) ≥ 0) = false := rfl;have hl : (vs.length : Int) = ((vs ++ [D.str s]).length : Int) - 1 := by simp
 rw [hl];clear hl
 match vs, ats, cs, hv with
 | [], [], [], hv =>
  have hq : (([] : List D) ++ [D.imm (Value.string s)]).length = 1 := rfl;have hq2 : (([] : List D) ++ [D.str s]).length = 1 := rfl;dsimp only [fX, fO];refine yn func100 ntmps100 fun _ _ _ _=>?_
  repeat' (first | refine yz ?_ | refine yp bv3 hx ?_ | (refine qS rfl ⟨by simp, fun d hd => by (obtain rfl := fa0.1 hd; rfl), by (show (0 + 1) * 16 ≤ 140737488355328; omega), by (show 0 + 1 ≤ 9223372036854775807; omega)⟩ ?_) | refine bd2 [0, 1, 2, 3, 4] rfl rfl rfl rfl rfl ?_)
  all_goals rfl
 | [], [], c0 :: cr, hv =>
  have hq : (([] : List D) ++ [D.imm (Value.string s)]).length = 1 := rfl;have hq2 : (([] : List D) ++ [D.str s]).length = 1 := rfl;dsimp only [fX, fO];refine yn func100 ntmps100 fun _ _ _ _=>?_
  repeat' (first | refine yz ?_ | refine yp bv3 hx ?_ | (refine qS rfl ⟨by simp, fun d hd => by (obtain rfl := fa0.1 hd; rfl), by (show (0 + 1) * 16 ≤ 140737488355328; omega), by (show 0 + 1 ≤ 9223372036854775807; omega)⟩ ?_) | refine bd2 [0, 1, 2, 3, 4] rfl rfl rfl rfl rfl ?_)
  all_goals rfl
 | [], a0 :: ar, [], hv =>
  have hq : (([] : List D) ++ [D.imm (Value.string s)]).length = 1 := rfl;have hq2 : (([] : List D) ++ [D.str s]).length = 1 := rfl;dsimp only [fX, fO];refine yn func100 ntmps100 fun _ _ _ _=>?_
  repeat' (first | refine yz ?_ | refine yp bv3 hx ?_ | (refine qS rfl ⟨by simp, fun d hd => by (obtain rfl := fa0.1 hd; rfl), by (show (0 + 1) * 16 ≤ 140737488355328; omega), by (show 0 + 1 ≤ 9223372036854775807; omega)⟩ ?_) | refine bd2 [0, 1, 2, 3, 4] rfl rfl rfl rfl rfl ?_)
  all_goals rfl
 | [], a0 :: ar, c0 :: cr, hv =>
  have hq : (([] : List D) ++ [D.imm (Value.string s)]).length = 1 := rfl;have hq2 : (([] : List D) ++ [D.str s]).length = 1 := rfl;dsimp only [fX, fO];refine yn func100 ntmps100 fun _ _ _ _=>?_
  repeat' (first | refine yz ?_ | refine yp bv3 hx ?_ | (refine qS rfl ⟨by simp, fun d hd => by (obtain rfl := fa0.1 hd; rfl), by (show (0 + 1) * 16 ≤ 140737488355328; omega), by (show 0 + 1 ≤ 9223372036854775807; omega)⟩ ?_) | refine bd2 [0, 1, 2, 3, 4] rfl rfl rfl rfl rfl ?_)
  all_goals rfl
 | v0 :: vr, [], [], hv =>
  have hx := en5 (v0 :: vr) s (-1) hx;have hv2 : vr.length ≤ 1000000 := by simp at hv; omega
  have hq : ((v0 :: vr) ++ [D.imm (Value.string s)]).length = vr.length + 2 := by simp
  have hq2 : ((v0 :: vr) ++ [D.str s]).length = vr.length + 2 := by simp
  dsimp only [fX, fO];refine yn func100 ntmps100 fun _ _ _ _=>?_
  repeat' (first | refine yz ?_ | refine yc [1] bv3 (hx) ?_ | (refine qS rfl ⟨by simp, fun d hd => by (obtain rfl := fa0.1 hd; rfl), by (show ((v0 :: vr).length + 1) * 16 ≤ 140737488355328; omega), by (show (v0 :: vr).length + 1 ≤ 9223372036854775807; omega)⟩ ?_) | refine bd2 [0, 1, 2, 3, 4] rfl rfl rfl rfl rfl ?_)
  all_goals rfl
 | v0 :: vr, [], c0 :: cr, hv =>
  have hx := en5 (v0 :: vr) s (-1) hx;have hv2 : vr.length ≤ 1000000 := by simp at hv; omega
  have hq : ((v0 :: vr) ++ [D.imm (Value.string s)]).length = vr.length + 2 := by simp
  have hq2 : ((v0 :: vr) ++ [D.str s]).length = vr.length + 2 := by simp
  dsimp only [fX, fO];refine yn func100 ntmps100 fun _ _ _ _=>?_
  repeat' (first | refine yz ?_ | refine yc [1] bv3 (hx) ?_ | (refine qS rfl ⟨by simp, fun d hd => by (obtain rfl := fa0.1 hd; rfl), by (show ((v0 :: vr).length + 1) * 16 ≤ 140737488355328; omega), by (show (v0 :: vr).length + 1 ≤ 9223372036854775807; omega)⟩ ?_) | refine bd2 [0, 1, 2, 3, 4] rfl rfl rfl rfl rfl ?_)
  all_goals rfl
 | v0 :: vr, a0 :: ar, [], hv =>
  have hx := en5 (v0 :: vr) s (-1) hx;have hv2 : vr.length ≤ 1000000 := by simp at hv; omega
  have hq : ((v0 :: vr) ++ [D.imm (Value.string s)]).length = vr.length + 2 := by simp
  have hq2 : ((v0 :: vr) ++ [D.str s]).length = vr.length + 2 := by simp
  dsimp only [fX, fO];refine yn func100 ntmps100 fun _ _ _ _=>?_
  repeat' (first | refine yz ?_ | refine yc [1] bv3 (hx) ?_ | (refine qS rfl ⟨by simp, fun d hd => by (obtain rfl := fa0.1 hd; rfl), by (show ((v0 :: vr).length + 1) * 16 ≤ 140737488355328; omega), by (show (v0 :: vr).length + 1 ≤ 9223372036854775807; omega)⟩ ?_) | refine bd2 [0, 1, 2, 3, 4] rfl rfl rfl rfl rfl ?_)
  all_goals rfl
 | v0 :: vr, a0 :: ar, c0 :: cr, hv =>
  have hx := en5 (v0 :: vr) s (-1) hx;have hv2 : vr.length ≤ 1000000 := by simp at hv; omega
  have hq : ((v0 :: vr) ++ [D.imm (Value.string s)]).length = vr.length + 2 := by simp
  have hq2 : ((v0 :: vr) ++ [D.str s]).length = vr.length + 2 := by simp
  dsimp only [fX, fO];refine yn func100 ntmps100 fun _ _ _ _=>?_
  repeat' (first | refine yz ?_ | refine yc [1] bv3 (hx) ?_ | (refine qS rfl ⟨by simp, fun d hd => by (obtain rfl := fa0.1 hd; rfl), by (show ((v0 :: vr).length + 1) * 16 ≤ 140737488355328; omega), by (show (v0 :: vr).length + 1 ≤ 9223372036854775807; omega)⟩ ?_) | refine bd2 [0, 1, 2, 3, 4] rfl rfl rfl rfl rfl ?_)
  all_goals rfl
abbrev en9 (l : List D) : aa5 := .row 58 9 l
set_option maxHeartbeats 4000000 in
theorem eo0 (vs ats cs : List D) (n : Int) (a : AT) (hv : ats.length ≤ 1000000) : EvS E 103 [.ptr 0 0, .d (di7 a)] [bld (fX 1 vs) (fX 2 ats) (fX 3 cs) n, fO 9 1 vs, oAs ats, oCs cs] (.tup []) [bld (fX 1 vs) (.own 4) (fX 3 cs) n, fO 9 1 vs, .dead, oCs cs, en9 (ats ++ [di7 a])] := by
 obtain ⟨k, avs, nm, ty, ⟨vk, vn, vd, vS, vl⟩⟩ := a
 match vs, ats, cs, hv with
 | [], [], [], hv =>
  dsimp only [fX, fO];refine yn func103 ntmps103 fun _ _ _ _=>?_
  repeat' (first | refine yu 1 [8,12] [0,2] ?_ | refine yk 1 0 1 ?_ | refine yf 1 1 7 ?_ | refine yf 1 9 3 ?_ | refine yw ?_ | refine rgN ?_ | refine yv ?_ | refine yz ?_ | refine rgS (id := 1) (i := 8) rfl rfl rfl rfl (⟨by simp, fun d hd => by (obtain rfl := fa0.1 hd; rfl), by (show (0 + 1) * 136 ≤ 140737488355328; omega), by (show 0 + 1 ≤ 9223372036854775807; omega)⟩) (by repeat (first | exact trivial | refine ⟨⟨rfl, rfl⟩, ?_⟩ | refine ⟨trivial, ?_⟩)) ?_ | refine yo [0, 1, 2, 3, 5])
 | [], [], c0 :: cr, hv =>
  dsimp only [fX, fO];refine yn func103 ntmps103 fun _ _ _ _=>?_
  repeat' (first | refine yu 1 [8,12] [0,2] ?_ | refine yk 1 0 1 ?_ | refine yf 1 1 7 ?_ | refine yf 1 9 3 ?_ | refine yw ?_ | refine rgN ?_ | refine yv ?_ | refine yz ?_ | refine rgS (id := 1) (i := 8) rfl rfl rfl rfl (⟨by simp, fun d hd => by (obtain rfl := fa0.1 hd; rfl), by (show (0 + 1) * 136 ≤ 140737488355328; omega), by (show 0 + 1 ≤ 9223372036854775807; omega)⟩) (by repeat (first | exact trivial | refine ⟨⟨rfl, rfl⟩, ?_⟩ | refine ⟨trivial, ?_⟩)) ?_ | refine yo [0, 1, 2, 3, 5])
 | [], a0 :: ar, [], hv =>
  dsimp only [fX, fO];refine yn func103 ntmps103 fun _ _ _ _=>?_
  repeat' (first | refine yu 1 [8,12] [0,2] ?_ | refine yk 1 0 1 ?_ | refine yf 1 1 7 ?_ | refine yf 1 9 3 ?_ | refine yw ?_ | refine rgN ?_ | refine yv ?_ | refine yz ?_ | refine rgS (id := 1) (i := 8) rfl rfl rfl rfl (⟨by simp, fun d hd => by (obtain rfl := fa0.1 hd; rfl), by (show ((a0 :: ar).length + 1) * 136 ≤ 140737488355328; omega), by (show (a0 :: ar).length + 1 ≤ 9223372036854775807; omega)⟩) (by repeat (first | exact trivial | refine ⟨⟨rfl, rfl⟩, ?_⟩ | refine ⟨trivial, ?_⟩)) ?_ | refine yo [0, 1, 2, 3, 5])
 | [], a0 :: ar, c0 :: cr, hv =>
  dsimp only [fX, fO];refine yn func103 ntmps103 fun _ _ _ _=>?_
  repeat' (first | refine yu 1 [8,12] [0,2] ?_ | refine yk 1 0 1 ?_ | refine yf 1 1 7 ?_ | refine yf 1 9 3 ?_ | refine yw ?_ | refine rgN ?_ | refine yv ?_ | refine yz ?_ | refine rgS (id := 1) (i := 8) rfl rfl rfl rfl (⟨by simp, fun d hd => by (obtain rfl := fa0.1 hd; rfl), by (show ((a0 :: ar).length + 1) * 136 ≤ 140737488355328; omega), by (show (a0 :: ar).length + 1 ≤ 9223372036854775807; omega)⟩) (by repeat (first | exact trivial | refine ⟨⟨rfl, rfl⟩, ?_⟩ | refine ⟨trivial, ?_⟩)) ?_ | refine yo [0, 1, 2, 3, 5])
 | v0 :: vr, [], [], hv =>
  dsimp only [fX, fO];refine yn func103 ntmps103 fun _ _ _ _=>?_
  repeat' (first | refine yu 1 [8,12] [0,2] ?_ | refine yk 1 0 1 ?_ | refine yf 1 1 7 ?_ | refine yf 1 9 3 ?_ | refine yw ?_ | refine rgN ?_ | refine yv ?_ | refine yz ?_ | refine rgS (id := 1) (i := 8) rfl rfl rfl rfl (⟨by simp, fun d hd => by (obtain rfl := fa0.1 hd; rfl), by (show (0 + 1) * 136 ≤ 140737488355328; omega), by (show 0 + 1 ≤ 9223372036854775807; omega)⟩) (by repeat (first | exact trivial | refine ⟨⟨rfl, rfl⟩, ?_⟩ | refine ⟨trivial, ?_⟩)) ?_ | refine yo [0, 1, 2, 3, 5])
 | v0 :: vr, [], c0 :: cr, hv =>
  dsimp only [fX, fO];refine yn func103 ntmps103 fun _ _ _ _=>?_
  repeat' (first | refine yu 1 [8,12] [0,2] ?_ | refine yk 1 0 1 ?_ | refine yf 1 1 7 ?_ | refine yf 1 9 3 ?_ | refine yw ?_ | refine rgN ?_ | refine yv ?_ | refine yz ?_ | refine rgS (id := 1) (i := 8) rfl rfl rfl rfl (⟨by simp, fun d hd => by (obtain rfl := fa0.1 hd; rfl), by (show (0 + 1) * 136 ≤ 140737488355328; omega), by (show 0 + 1 ≤ 9223372036854775807; omega)⟩) (by repeat (first | exact trivial | refine ⟨⟨rfl, rfl⟩, ?_⟩ | refine ⟨trivial, ?_⟩)) ?_ | refine yo [0, 1, 2, 3, 5])
 | v0 :: vr, a0 :: ar, [], hv =>
  dsimp only [fX, fO];refine yn func103 ntmps103 fun _ _ _ _=>?_
  repeat' (first | refine yu 1 [8,12] [0,2] ?_ | refine yk 1 0 1 ?_ | refine yf 1 1 7 ?_ | refine yf 1 9 3 ?_ | refine yw ?_ | refine rgN ?_ | refine yv ?_ | refine yz ?_ | refine rgS (id := 1) (i := 8) rfl rfl rfl rfl (⟨by simp, fun d hd => by (obtain rfl := fa0.1 hd; rfl), by (show ((a0 :: ar).length + 1) * 136 ≤ 140737488355328; omega), by (show (a0 :: ar).length + 1 ≤ 9223372036854775807; omega)⟩) (by repeat (first | exact trivial | refine ⟨⟨rfl, rfl⟩, ?_⟩ | refine ⟨trivial, ?_⟩)) ?_ | refine yo [0, 1, 2, 3, 5])
 | v0 :: vr, a0 :: ar, c0 :: cr, hv =>
  dsimp only [fX, fO];refine yn func103 ntmps103 fun _ _ _ _=>?_
  repeat' (first | refine yu 1 [8,12] [0,2] ?_ | refine yk 1 0 1 ?_ | refine yf 1 1 7 ?_ | refine yf 1 9 3 ?_ | refine yw ?_ | refine rgN ?_ | refine yv ?_ | refine yz ?_ | refine rgS (id := 1) (i := 8) rfl rfl rfl rfl (⟨by simp, fun d hd => by (obtain rfl := fa0.1 hd; rfl), by (show ((a0 :: ar).length + 1) * 136 ≤ 140737488355328; omega), by (show (a0 :: ar).length + 1 ≤ 9223372036854775807; omega)⟩) (by repeat (first | exact trivial | refine ⟨⟨rfl, rfl⟩, ?_⟩ | refine ⟨trivial, ?_⟩)) ?_ | refine yo [0, 1, 2, 3, 5])
end Go.Proofs.YtenpjlghikohmaaGreatDoor
