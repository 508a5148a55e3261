/- Words of the language and the checking of expressions, by both texts; The checking of expressions, by both texts; The checking of expressions by the reference; and what both checks answer; Expressions as canonical text: what both texts write; constants and signs; Expressions as canonical text, by both texts; Lists of expressions and operands as text, given the expressions' own texts, by both texts; Expressions as canonical text, by both texts. Conditions: each part's own, as it says. -/
import Derived.Test.YtenpjlghikohmaaGreatDoorGC
import Derived.Test.YtenpjlghikohmaaGreatDoorFA
import Derived.Test.YtenpjlghikohmaaGreatDoorMB
set_option linter.unusedVariables false
set_option linter.unusedSimpArgs false
namespace Go.Proofs.YtenpjlghikohmaaGreatDoor
set_option maxRecDepth 4000
open Go Go.Abs Go.Val Go.RowKit Go.Proofs.Tryz
attribute [local irreducible] go SGo an2 Ev aw2 EvO EvS
theorem cw4 (s : ByteArray) : (upF s).size = s.size := by unfold upF; rw [at4, cu3]
set_option maxRecDepth 10000 in
attribute [local irreducible] upF cv2 cr7 cv1 in
theorem cw5 (s : ByteArray) (hs : s.size ≤ 1000) : Ev E 173 [.str s] (.d (.bool (cv2 s))) := by
 have hu := cv0 s;have hus := cw4 s;have h1 : (⟨#[32]⟩ : ByteArray).size = 1 := rfl;have hc1 := cw3 s ⟨#[32]⟩ (by omega)
 cases h0 : !(s.toList == (⟨#[]⟩ : ByteArray).toList) with
 | false =>
  have e : cv2 s = false := by
   rw [cw0, cv4];have : s.data.toList = [] := by rw [Bool.not_eq_false', beq_iff_eq, ByteArray.toList_eq, ByteArray.toList_eq] at h0; exact h0
   rw [this];unfold cv1;decide +kernel
  rw [e];refine ye1 func173 ntmps173 fun _ _ _=>?_
  repeat' (first | refine yz ?_ | refine yx ?_ | exact zD)
 | true =>
  cases hb : Lib.contains s.data.toList [32] with
  | true =>
   rw [show (⟨#[32]⟩ : ByteArray).data.toList = [32] from rfl, hb] at hc1;rw [cw2 s hb];refine ye1 func173 ntmps173 fun _ _ _=>?_
   repeat' (first | refine yz ?_ | refine yp b255 hc1 ?_ | refine yx ?_ | exact zD)
  | false =>
   rw [show (⟨#[32]⟩ : ByteArray).data.toList = [32] from rfl, hb] at hc1;have hr := cw1 s hb;refine ye1 func173 ntmps173 fun _ _ _=>?_
   repeat' (first | refine yz ?_ | refine qP (d := 7) rfl rfl rfl rfl rfl rfl b255 (hc1) ?_ | refine yp b256 hu ?_ | refine qP (d := 15) rfl rfl rfl rfl rfl rfl b255 ((cw3 _ _ (by decide +kernel))) ?_ | refine yx ?_)
   rw [show ∀ x, (cond (bif true then !false else false) x false) = x from fun _ => rfl];refine congrArg D.bool (Eq.trans (congr (congrArg Lib.contains ?_) ?_) hr)
   ·unfold cr7 cv1;decide +kernel
   ·simp only [ByteArray.data_append, Array.toList_append];simp
def cw6 (s : ByteArray) : Bool := cr0 s && !cv2 s
theorem cw7 {s : ByteArray} (h : cr0 s = true) : s.size ≤ 1000 := by
 unfold cr0 at h;simp only [fa3, decide_eq_true_eq] at h;omega
theorem cw8 (s : ByteArray) : Ev E 91 [.str s] (.d (.bool (cw6 s))) := by
 have h1 := cr5 s;unfold cw6
 cases hn : cr0 s with
 | false =>
  rw [hn] at h1;refine ye1 func91 ntmps91 fun _ _ _=>?_
  repeat' (first | refine yz ?_ | refine yp bu4 h1 ?_ | exact zD)
 | true =>
  rw [hn] at h1;have h2 := cw5 s (cw7 hn);refine ye1 func91 ntmps91 fun _ _ _=>?_
  repeat' (first | refine yz ?_ | refine yp bu4 h1 ?_ | refine yp b173 h2 ?_ | exact zD)
def nlF (e : Ex) : Bool :=
 bif e.op == 2 || (e.op == 3 || e.op == 4) then !cw6 e.nm else
 bif e.op == 23 then cs3 e.nm == 0 else
 bif e.op == 24 then !aggF e.nm else false
theorem cw9 (e : Ex) : Ev E 260 [cq3 e] (.d (.bool (nlF e))) := by
 have h1 := cw8 e.nm;have h2 := cs5 e.nm;have h3 := cs6 e.nm;refine ye1 func260 ntmps260 fun _ _ _=>?_
 repeat' (first | refine yz ?_ | refine yp b91 h1 ?_ | refine yp b325 h2 ?_ | refine yp b327 h3 ?_ | (refine qV rfl ?_ ?_ <;> intro _))
 all_goals (refine congrArg D.bool ?_; simp_all [nlF, fk8])
end Go.Proofs.YtenpjlghikohmaaGreatDoor
namespace Go.Proofs.YtenpjlghikohmaaGreatDoor
set_option maxRecDepth 4000
open Go Go.Abs Go.Val Go.RowKit Go.Proofs.Tryz
attribute [local irreducible] go SGo an2 Ev aw2 EvO EvS
def cx0 (e : Ex) (w : Bool) : Int :=
 bif (decide (e.op < 1) || decide (e.op > 24)) || (!cs9 e || !ct1 e) then 1 else
 bif e.op == 1 && !ct3 e.v then 8 else
 bif nlF e then 6 else
 bif e.op == 24 && w then 9 else 0
mutual
def cx1 : Ex → Bool → Int
 | .mk op v nm ds ks, w => bif cx0 (.mk op v nm ds ks) w != 0 then cx0 (.mk op v nm ds ks) w else cx2 ks (w || op == 24)
def cx2 : List Ex → Bool → Int
 | [], _ => 0
 | x :: r, w => bif cx1 x w != 0 then cx1 x w else cx2 r w
end
theorem cx3 {l : List Ex} {i : Nat} {x : Ex} {w : Bool} (h : l[i]? = some x) : cx2 (l.drop i) w = bif cx1 x w != 0 then cx1 x w else cx2 (l.drop (i + 1)) w := by
 rw [bz2 h, cx2]
structure SVs (l : List Ex) (w : Bool) where
 i : Nat
 hi : i ≤ l.length
 ok : cx2 l w = cx2 (l.drop i) w
theorem cx4 {e : Ex} {w : Bool} (h : cx0 e w = 0) : cx1 e w = cx2 e.ks (w || e.op == 24) := by
 cases e
 rw [cx1, h]; rfl
theorem cx5 {e : Ex} {w : Bool} {c : Int} (h : cx0 e w = c) (hc : (c != 0) = true) : c = cx1 e w := by
 cases e
 rw [cx1, h, hc]; rfl
set_option maxHeartbeats 4000000 in
theorem cx6 (e : Ex) : ∀ w, Ev E 177 [cq3 e, .bool w] (.d (.int (cx1 e w))) := by
 refine xind (P := fun e => ∀ w, Ev E 177 [cq3 e, .bool w] (.d (.int (cx1 e w)))) (fun op v nm ds ks ih w => ?_) e;refine Ev.fit fun hfit => ?_
 obtain ⟨-, -, -, hmax, -⟩ := cq8 (hfit (cq3 (.mk op v nm ds ks)) (by simp));have hlen : (cq1 (.mk op v nm ds ks)).length = ks.length := cq7 _;have hkg : ∀ (i : Nat) (x : Ex), ks[i]? = some x → (cq1 (.mk op v nm ds ks))[(i : Int).toNat]? = some (cq3 x) := fun i x h => cq6 (e := .mk op v nm ds ks) (by rw [fb4]; exact h)
 have hks : Ex.ks (.mk op v nm ds ks) = ks := rfl;generalize Ex.mk op v nm ds ks = e at *;rw [hks] at hmax;have h1 := ct0 e;have h2 := ct2 e;have h3 := ct4 e.v;have h4 := cw9 e;have hsf : ∀ c, (bif (decide (e.op < 1) || decide (e.op > 24)) || (!cs9 e || !ct1 e) then 1 else bif e.op == 1 && !ct3 e.v then 8 else bif nlF e then 6 else bif e.op == 24 && w then 9 else 0) = c → cx0 e w = c := fun c h => h
 have hbad := fun c (h : cx0 e w = c) => cx5 h
 have hok := cx4 (e := e) (w := w);rw [hks] at hok;clear hks;generalize hW : (w || e.op == 24) = W at hok
 cases w
 all_goals
  refine ye2 func177 ntmps177 fun _ _ _=>?_
  repeat' (first | refine yz ?_ | refine yp b257 h1 ?_ | refine yp b258 h2 ?_ | refine yp b259 h3 ?_ | refine yp b260 h4 ?_ | (refine yy ?_ ?_ <;> intro _) | (refine qV rfl ?_ ?_ <;> intro _))
  any_goals (refine congrArg D.int (hbad _ (hsf _ ?_) rfl); clear ih hkg hfit hsf hbad hok h1 h2 h3 h4; simp_all [fk8]; done)
 all_goals
  rw [hok (hsf _ (by clear ih hkg hfit hsf hbad hok h1 h2 h3 h4; simp_all [fk8]))];clear hsf hbad hok h1 h2 h3 h4;refine ac7 (α := SVs ks W) (fun p => ⟨[(1, .d (.bool _)), (2, .ptr 0 0), (44, .d (.sl (cq1 e))), (45, .d (.int (cq1 e).length)), (46, .d (.int p.i))], [.var 92 (.w (.d (cq3 e)))]⟩) (fun p => ks.length - p.i) ⟨0, by omega, rfl⟩ (zle 1) ?_;rintro ⟨i, hi, ok⟩;dsimp only;rcases ez6 i ks.length with hlt | hge
  ·have hd1 : decide ((i : Int) < ((cq1 e).length : Int)) = true := by rw [hlen]; simpa using hlt
   have hx0 := ez5 hlt;generalize ks[i] = x at hx0;have hx := hkg i x hx0;have hv := ih x (ez9 hx0) W;rw [← hW] at hv;rw [ok, cx3 hx0]
   cases hz : cx1 x W != 0 with
   | true =>
    rw [← hW] at hz ⊢
    repeat' (first | refine yz ?_ | refine yi (cq3 x) hx ?_ | refine yp b177 hv ?_ | exact zD)
   | false =>
    rw [← hW] at hz
    repeat' (first | refine yz ?_ | refine yi (cq3 x) hx ?_ | refine yp b177 hv ?_)
    refine ac1 ?_;exact ⟨⟨i + 1, by omega, by rw [ok, cx3 hx0, ← hW, hz]; rfl⟩, by dsimp only; omega, (zle 1)⟩
  ·have hd1 : decide ((i : Int) < ((cq1 e).length : Int)) = false := by rw [hlen]; simp; omega
   rw [ok, fa1 hge, cx2]
   repeat' (first | refine yz ?_ | exact zD)
end Go.Proofs.YtenpjlghikohmaaGreatDoor
namespace Go.Proofs.YtenpjlghikohmaaGreatDoor
set_option maxRecDepth 4000
open Go Go.Abs Go.Val Go.RowKit Go.Proofs.Tryz
attribute [local irreducible] go SGo an2 Ev aw2 EvO EvS
def cx7 (e : Ex) : Int := bif decide (dp e > 24) then 5 else bif decide (nd e > 300) then 4 else cx1 e false
theorem cx8 (e : Ex) (h1 : dp e ≤ 1000000) (h2 : nd e ≤ 1000000) : Ev E 95 [cq3 e] (.d (.int (cx7 e))) := by
 have a1 := cu0 e h1;have a2 := ct7 e h2;have a3 := cx6 e false;unfold cx7
 cases g1 : decide (dp e > 24) with
 | true =>
  have b1 : decide ((dp e : Int) > 24) = true := by simp at g1 ⊢; omega
  refine ye1 func95 ntmps95 fun _ _ _=>?_
  repeat' (first | refine yz ?_ | refine yp b175 a1 ?_ | exact zD)
 | false =>
  have b1 : decide ((dp e : Int) > 24) = false := by simp at g1 ⊢; omega
  cases g2 : decide (nd e > 300) with
  | true =>
   have b2 : decide ((nd e : Int) > 300) = true := by simp at g2 ⊢; omega
   refine ye1 func95 ntmps95 fun _ _ _=>?_
   repeat' (first | refine yz ?_ | refine yp b175 a1 ?_ | refine yp b176 a2 ?_ | exact zD)
  | false =>
   have b2 : decide ((nd e : Int) > 300) = false := by simp at g2 ⊢; omega
   refine ye1 func95 ntmps95 fun _ _ _=>?_
   repeat' (first | refine yz ?_ | refine yp b175 a1 ?_ | refine yp b176 a2 ?_ | refine yp b177 a3 ?_ | exact zD)
def okN (e : Ex) : Prop := 1 ≤ e.op ∧ e.op ≤ 24 ∧ cs9 e = true ∧ (e.op = 1 → ct3 e.v = true)
end Go.Proofs.YtenpjlghikohmaaGreatDoor
