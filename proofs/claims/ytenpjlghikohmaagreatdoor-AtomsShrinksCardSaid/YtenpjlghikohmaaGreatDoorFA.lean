/- Expressions as plain trees, how they are written as data, and the weighing of expressions by the law's own text; Names of the language: letters, names, by both texts; A word between blanks in a text of words between blanks: it is one of them; The functions' numbers of operands and the aggregates' names, by both texts; Blank constants, numbers of operands, unused fields, by both texts; The size of an expression, by both texts; The depth of an expression, by both texts; Upper case and the reserved words, by both texts; The reserved words, by both texts. Conditions: each part's own, as it says. -/
import Derived.Test.YtenpjlghikohmaaGreatDoorGC
import Derived.Test.YtenpjlghikohmaaGreatDoorMA
import Derived.Lib.IndexMore
import Derived.Test.YtenpjlghikohmaaGreatDoorGB
set_option linter.unusedVariables false
set_option linter.unusedSimpArgs false
namespace Go.Proofs.YtenpjlghikohmaaGreatDoor
set_option maxRecDepth 4000
open Go Go.Abs Go.Val Go.Proofs.Tryz
attribute [local irreducible] go SGo an2 Ev aw2 EvO EvS
inductive Ex where
 | mk (op : Int) (v : V) (nm : ByteArray) (ds : Bool) (ks : List Ex)
 deriving Inhabited
def Ex.op : Ex → Int | .mk op _ _ _ _ => op
def Ex.v : Ex → V | .mk _ v _ _ _ => v
def Ex.nm : Ex → ByteArray | .mk _ _ nm _ _ => nm
def Ex.ds : Ex → Bool | .mk _ _ _ ds _ => ds
def Ex.ks : Ex → List Ex | .mk _ _ _ _ ks => ks
theorem Ex.eta (e : Ex) : Ex.mk e.op e.v e.nm e.ds e.ks = e := by cases e; rfl
mutual
def cq1 : Ex → List D
 | .mk _ _ _ _ l => cq2 l
def cq2 : List Ex → List D
 | [] => []
 | e :: r => .agg [.int e.op, .int e.v.k, .int e.v.n, .int e.v.d, .str e.v.s, .sl (br4 e.v), .str e.nm, .bool e.ds, .sl (cq1 e)] :: cq2 r
end
def cq3 (e : Ex) : D := .agg [.int e.op, .int e.v.k, .int e.v.n, .int e.v.d, .str e.v.s, .sl (br4 e.v), .str e.nm, .bool e.ds, .sl (cq1 e)]
theorem cq4 (l : List Ex) : cq2 l = l.map cq3 := by
 induction l with
 | nil => simp [cq2]
 | cons v r ih => simp [cq2, ih, cq3]
theorem cq5 (e : Ex) : cq1 e = e.ks.map cq3 := by
 cases e
 simp [cq1, cq4, Ex.ks]
theorem cq6 {e : Ex} {i : Nat} {x : Ex} (h : e.ks[i]? = some x) : (cq1 e)[i]? = some (cq3 x) := by
 rw [cq5, ez8, h]; rfl
theorem cq7 (e : Ex) : (cq1 e).length = e.ks.length := by rw [cq5]; simp
theorem cq8 {e : Ex} (h : Fit (cq3 e)) : inR .i64 e.op ∧ Fit (enc e.v) ∧ e.nm.size ≤ 9223372036854775807 ∧ e.ks.length ≤ 9223372036854775807 ∧ ∀ x ∈ e.ks, Fit (cq3 x) := by
 have hc := h.aggs;have h5 := (hc (.sl (cq1 e)) (by simp)).sls;rw [cq7] at h5;refine ⟨(hc (.int e.op) (by simp)).int, ?_, (hc (.str e.nm) (by simp)).str, h5.1, fun x hx => h5.2 _ ?_⟩
 ·refine Fit.agg _ fun c hm => hc c ?_
  simp only [fa6, List.not_mem_nil, or_false] at hm ⊢;rcases hm with rfl | rfl | rfl | rfl | rfl <;> simp
 ·rw [cq5];exact fh0 hx
theorem xind {P : Ex → Prop} (h : ∀ op v nm ds ks, (∀ x ∈ ks, P x) → P (.mk op v nm ds ks)) : ∀ e, P e := by
 intro e;refine Ex.rec (motive_1 := P) (motive_2 := fun l => ∀ x ∈ l, P x) (fun op v nm ds ks ih => h op v nm ds ks ih) (fun x hx => by simp at hx) (fun a r ha hr x hx => ?_) e;rcases fa6.1 hx with rfl | hx
 ·exact ha
 ·exact hr x hx
end Go.Proofs.YtenpjlghikohmaaGreatDoor
namespace Go.Proofs.YtenpjlghikohmaaGreatDoor
set_option maxRecDepth 4000
open Go Go.Abs Go.Val Go.Proofs.Tryz
attribute [local irreducible] go SGo an2 Ev aw2 EvO EvS
def cq9 (n : Int) : Bool := (decide (n ≥ 97) && decide (n ≤ 122)) || (decide (n ≥ 65) && decide (n ≤ 90))
def wcF (n : Int) : Bool := cq9 n || ((decide (n ≥ 48) && decide (n ≤ 57)) || n == 95)
def cr0 (s : ByteArray) : Bool := decide (1 ≤ s.size) && (decide (s.size ≤ 20) && (cq9 (ag0 s 0) && (List.range s.size).all fun j => wcF (ag0 s j)))
theorem cr1 (n : Int) : Ev E 216 [.imm (.int .u8 n)] (.d (.bool (cq9 n))) := by
 refine ye1 func216 ntmps216 fun _ _ _=>?_
 repeat' (first | refine yz ?_ | (refine yy ?_ ?_ <;> intro _))
 all_goals (refine congrArg D.bool ?_; simp_all [cq9] <;> omega)
theorem cr2 (n : Int) : Ev E 252 [.imm (.int .u8 n)] (.d (.bool (cq9 n))) := by
 refine ye1 func252 ntmps252 fun _ _ _=>?_
 repeat' (first | refine yz ?_ | (refine yy ?_ ?_ <;> intro _))
 all_goals (refine congrArg D.bool ?_; simp_all [cq9] <;> omega)
structure SNm (s : ByteArray) where
 i : Nat
 hi : i ≤ s.size
 ok : ((List.range s.size).all fun j => wcF (ag0 s j)) = ((List.range s.size).drop i).all fun j => wcF (ag0 s j)
theorem cr3 {n i : Nat} (h : i < n) : (List.range n)[i]? = some i := by rw [ff0 h]
theorem cr4 (s : ByteArray) (i : Nat) (h : i < s.size) : 0 ≤ ag0 s i ∧ ag0 s i ≤ 255 := by
 obtain ⟨b, -, hb2⟩ := by6 h;rw [hb2];have := b.toNat_lt;omega
set_option maxHeartbeats 2000000 in
theorem cr5 (s : ByteArray) : Ev E 122 [.str s] (.d (.bool (cr0 s))) := Ev.fit fun hfit => by
 have hs := (hfit (.str s) (by simp)).str
 by_cases h0 : s.size = 0
 ·have hse : s = ByteArray.empty := by simpa using h0
  have gs : (s.toList == (⟨#[]⟩ : ByteArray).toList) = true := by rw [hse]; exact beq_self_eq_true ByteArray.empty.toList
  have e : cr0 s = false := by unfold cr0; rw [h0]; rfl
  rw [e];refine ye1 func122 ntmps122 fun _ _ _=>?_
  repeat' (first | refine yz ?_ | refine yx ?_ | exact zD)
 have g0 : (s.toList == (⟨#[]⟩ : ByteArray).toList) = false := by
  rw [beq_eq_false_iff_ne];intro e;rw [ByteArray.toList_eq, ByteArray.toList_eq] at e;have := congrArg List.length e;simp at this;exact h0 (by rw [this]; rfl)
 cases h20 : decide (s.size ≤ 20) with
 | false =>
  have g1 : decide ((s.size : Int) > 20) = true := by simp at h20 ⊢; omega
  have e : cr0 s = false := by unfold cr0; rw [h20]; simp
  rw [e];refine ye1 func122 ntmps122 fun _ _ _=>?_
  repeat' (first | refine yz ?_ | refine yx ?_ | exact zD)
 | true =>
  have g1 : decide ((s.size : Int) > 20) = false := by simp at h20 ⊢; omega
  have hb0 := cr4 s 0 (by omega);have hl := cr1 (ag0 s 0)
  cases hl0 : cq9 (ag0 s 0) with
  | false =>
   rw [hl0] at hl;have e : cr0 s = false := by unfold cr0; rw [hl0]; simp
   rw [e];refine ye1 func122 ntmps122 fun _ _ _=>?_
   repeat' (first | refine yz ?_ | refine yp bv7 hl ?_ | refine yx ?_ | exact zD)
  | true =>
   rw [hl0] at hl
   have e : cr0 s = (List.range s.size).all fun j => wcF (ag0 s j) := by
    unfold cr0; rw [hl0, h20, show decide (1 ≤ s.size) = true by simp; omega]; rfl
   rw [e];refine ye1 func122 ntmps122 fun _ _ _=>?_
   repeat' (first | refine yz ?_ | refine yp bv7 hl ?_ | refine yx ?_)
   refine ac7 (α := SNm s) (fun p => ⟨[(0, .d (.str s)), (18, .d (.int s.size)), (19, .d (.int p.i))], []⟩) (fun p => s.size - p.i) ⟨0, by omega, rfl⟩ (zle 0) ?_;rintro ⟨i, hi, ok⟩;dsimp only;rcases ez6 i s.size with hlt | hge
   ·have hd : decide ((i : Int) < (s.size : Int)) = true := by simpa using hlt
    have hb := cr4 s i hlt;rw [ok, bz2 (cr3 hlt), fe0];have hli := cr1 (ag0 s i);have hti : (i : Int).toNat = i := fb4 i;rw [← hti] at hli hb
    cases hl1 : cq9 (ag0 s (i : Int).toNat) with
    | true =>
     rw [hl1] at hli;rw [hti] at hl1;have hw : wcF (ag0 s i) = true := by unfold wcF; rw [hl1]; rfl
     repeat' (first | refine yz ?_ | refine yp bv7 hli ?_)
     refine ac1 ?_;exact ⟨⟨i + 1, by omega, by rw [ok, bz2 (cr3 hlt), fe0, hw, fc3]⟩, by dsimp only; omega, (zle 0)⟩
    | false =>
     rw [hl1] at hli
     have key : ∀ b, ((decide (ag0 s i ≥ 48) && decide (ag0 s i ≤ 57)) || ag0 s i == 95) = b → wcF (ag0 s i) = b := by
      intro b hb;unfold wcF;rw [← hti, hl1, hti, hb, fe2]
     cases h48 : decide (ag0 s (i : Int).toNat < 48) with
     | true =>
      cases h95 : ag0 s (i : Int).toNat != 95 with
      | true =>
       have hw : wcF (ag0 s i) = false := key _ (by rw [hti] at h48 h95; simp at h48 h95 ⊢; exact ⟨fun h => by omega, h95⟩)
       repeat' (first | refine yz ?_ | refine yp bv7 hli ?_ | refine yx ?_)
       rw [hw]; rfl
      | false =>
       have hw : wcF (ag0 s i) = true := key _ (by rw [hti] at h48 h95; simp at h48 h95 ⊢; exact .inr h95)
       repeat' (first | refine yz ?_ | refine yp bv7 hli ?_ | refine yx ?_)
       refine ac1 ?_;exact ⟨⟨i + 1, by omega, by rw [ok, bz2 (cr3 hlt), fe0, hw, fc3]⟩, by dsimp only; omega, (zle 0)⟩
     | false =>
      cases h57 : decide (ag0 s (i : Int).toNat > 57) with
      | false =>
       have hw : wcF (ag0 s i) = true := key _ (by rw [hti] at h48 h57; simp at h48 h57 ⊢; exact .inl ⟨h48, h57⟩)
       repeat' (first | refine yz ?_ | refine yp bv7 hli ?_ | refine yx ?_)
       refine ac1 ?_;exact ⟨⟨i + 1, by omega, by rw [ok, bz2 (cr3 hlt), fe0, hw, fc3]⟩, by dsimp only; omega, (zle 0)⟩
      | true =>
       cases h95 : ag0 s (i : Int).toNat != 95 with
       | true =>
        have hw : wcF (ag0 s i) = false := key _ (by rw [hti] at h48 h57 h95; simp at h48 h57 h95 ⊢; exact ⟨fun h => by omega, h95⟩)
        repeat' (first | refine yz ?_ | refine yp bv7 hli ?_ | refine yx ?_)
        rw [hw]; rfl
       | false =>
        have hw : wcF (ag0 s i) = true := key _ (by rw [hti] at h95; simp at h95 ⊢; exact .inr h95)
        repeat' (first | refine yz ?_ | refine yp bv7 hli ?_ | refine yx ?_)
        refine ac1 ?_;exact ⟨⟨i + 1, by omega, by rw [ok, bz2 (cr3 hlt), fe0, hw, fc3]⟩, by dsimp only; omega, (zle 0)⟩
   ·have hd : decide ((i : Int) < (s.size : Int)) = false := by simp; omega
    have : (List.range s.size).drop i = [] := fa1 (by simpa using hge);rw [ok, this]
    repeat' (first | refine yz ?_ | exact zD)
set_option maxHeartbeats 2000000 in
theorem cr6 (s : ByteArray) : Ev E 162 [.str s] (.d (.bool (cr0 s))) := Ev.fit fun hfit => by
 have hs := (hfit (.str s) (by simp)).str
 cases h0 : decide (1 ≤ s.size) with
 | false =>
  have g0 := yT ((s.size : Int) < 1) (by have := of_decide_eq_false h0; omega);have e : cr0 s = false := by unfold cr0; rw [h0]; simp
  rw [e];refine ye1 func162 ntmps162 fun _ _ _=>?_
  repeat' (first | refine yz ?_ | refine yx ?_ | exact zD)
 | true =>
 have hs1 := of_decide_eq_true h0;have g0 : decide ((s.size : Int) < 1) = false := by simp; omega
 cases h20 : decide (s.size ≤ 20) with
 | false =>
  have g1 : decide ((s.size : Int) > 20) = true := by simp at h20 ⊢; omega
  have e : cr0 s = false := by unfold cr0; rw [h20]; simp
  rw [e];refine ye1 func162 ntmps162 fun _ _ _=>?_
  repeat' (first | refine yz ?_ | refine yx ?_ | exact zD)
 | true =>
  have g1 : decide ((s.size : Int) > 20) = false := by simp at h20 ⊢; omega
  have hb0 := cr4 s 0 (by omega);have hl := cr2 (ag0 s 0)
  cases hl0 : cq9 (ag0 s 0) with
  | false =>
   rw [hl0] at hl;have e : cr0 s = false := by unfold cr0; rw [hl0]; simp
   rw [e];refine ye1 func162 ntmps162 fun _ _ _=>?_
   repeat' (first | refine yz ?_ | refine yp bv9 hl ?_ | refine yx ?_ | exact zD)
  | true =>
   rw [hl0] at hl
   have e : cr0 s = (List.range s.size).all fun j => wcF (ag0 s j) := by
    unfold cr0; rw [hl0, h20, h0]; rfl
   have hw0 : wcF (ag0 s 0) = true := by unfold wcF; rw [hl0]; rfl
   have hst1 : ((List.range s.size).all fun j => wcF (ag0 s j)) = ((List.range s.size).drop 1).all fun j => wcF (ag0 s j) := by
    have := bz2 (cr3 (show 0 < s.size by omega));rw [fk0] at this
    conv => lhs; rw [this]
    rw [fe0, hw0, fc3]
   rw [e];refine ye1 func162 ntmps162 fun _ _ _=>?_
   repeat' (first | refine yz ?_ | refine yp bv9 hl ?_ | refine yx ?_)
   refine ac7 (α := SNm s) (fun p => ⟨[(0, .d (.str s)), (3, .d (.int p.i))], []⟩) (fun p => s.size - p.i) ⟨1, by omega, hst1⟩ (zle 0) ?_;rintro ⟨i, hi, ok⟩;dsimp only;rcases ez6 i s.size with hlt | hge
   ·have hd : decide ((i : Int) < (s.size : Int)) = true := by simpa using hlt
    have hb := cr4 s i hlt;rw [ok, bz2 (cr3 hlt), fe0];have hli := cr2 (ag0 s i);have hti : (i : Int).toNat = i := fb4 i;rw [← hti] at hli hb
    cases hl1 : cq9 (ag0 s (i : Int).toNat) with
    | true =>
     rw [hl1] at hli;rw [hti] at hl1;have hw : wcF (ag0 s i) = true := by unfold wcF; rw [hl1]; rfl
     repeat' (first | refine yz ?_ | refine yp bv9 hli ?_)
     refine ac1 ?_;exact ⟨⟨i + 1, by omega, by rw [ok, bz2 (cr3 hlt), fe0, hw, fc3]⟩, by dsimp only; omega, (zle 0)⟩
    | false =>
     rw [hl1] at hli
     have key : ∀ b, ((decide (ag0 s i ≥ 48) && decide (ag0 s i ≤ 57)) || ag0 s i == 95) = b → wcF (ag0 s i) = b := by
      intro b hb;unfold wcF;rw [← hti, hl1, hti, hb, fe2]
     cases h95 : ag0 s (i : Int).toNat != 95 with
     | false =>
      have hw : wcF (ag0 s i) = true := key _ (by rw [hti] at h95; simp at h95 ⊢; exact .inr h95)
      repeat' (first | refine yz ?_ | refine yp bv9 hli ?_ | refine yx ?_)
      refine ac1 ?_;exact ⟨⟨i + 1, by omega, by rw [ok, bz2 (cr3 hlt), fe0, hw, fc3]⟩, by dsimp only; omega, (zle 0)⟩
     | true =>
      cases h48 : decide (ag0 s (i : Int).toNat < 48) with
      | true =>
       have hw : wcF (ag0 s i) = false := key _ (by rw [hti] at h48 h95; simp at h48 h95 ⊢; exact ⟨fun h => by omega, h95⟩)
       repeat' (first | refine yz ?_ | refine yp bv9 hli ?_ | refine yx ?_)
       rw [hw]; rfl
      | false =>
       cases h57 : decide (ag0 s (i : Int).toNat > 57) with
       | false =>
        have hw : wcF (ag0 s i) = true := key _ (by rw [hti] at h48 h57; simp at h48 h57 ⊢; exact .inl ⟨h48, h57⟩)
        repeat' (first | refine yz ?_ | refine yp bv9 hli ?_ | refine yx ?_)
        refine ac1 ?_;exact ⟨⟨i + 1, by omega, by rw [ok, bz2 (cr3 hlt), fe0, hw, fc3]⟩, by dsimp only; omega, (zle 0)⟩
       | true =>
        have hw : wcF (ag0 s i) = false := key _ (by rw [hti] at h48 h57 h95; simp at h48 h57 h95 ⊢; exact ⟨fun h => by omega, h95⟩)
        repeat' (first | refine yz ?_ | refine yp bv9 hli ?_ | refine yx ?_)
        rw [hw]; rfl
   ·have hd : decide ((i : Int) < (s.size : Int)) = false := by simp; omega
    have : (List.range s.size).drop i = [] := fa1 (by simpa using hge);rw [ok, this]
    repeat' (first | refine yz ?_ | exact zD)
end Go.Proofs.YtenpjlghikohmaaGreatDoor
namespace Go.Proofs.YtenpjlghikohmaaGreatDoor
set_option maxRecDepth 4000
open Go Go.Abs Go.Val Go.Proofs.Tryz
def cr7 : List (List UInt8) → List UInt8
 | [] => [32]
 | w :: r => 32 :: (w ++ cr7 r)
theorem cr8 : ∀ r, ∃ t, cr7 r = 32 :: t
 | [] => ⟨[], rfl⟩
 | w :: r => ⟨w ++ cr7 r, rfl⟩
theorem cr9 (b : UInt8) (l sub : List UInt8) : Lib.contains (b :: l) sub = (sub.isPrefixOf (b :: l) || Lib.contains l sub) := by
 unfold Lib.contains;have hg := Lib.index_ge l sub;rw [show Lib.index (b :: l) sub = if sub.isPrefixOf (b :: l) then 0 else if Lib.index l sub == -1 then -1 else Lib.index l sub + 1 from rfl]
 cases hp : sub.isPrefixOf (b :: l) with
 | true => simp
 | false =>
  simp only [Bool.false_eq_true, if_false, fe2]
  by_cases h : Lib.index l sub = -1
  ·simp [h]
  ·have hb : (Lib.index l sub == -1) = false := by rw [beq_eq_false_iff_ne]; exact h
   rw [hb];simp only [Bool.false_eq_true, if_false, decide_eq_decide];omega
theorem cs0 (p : List UInt8) : ∀ (w l : List UInt8), (32 : UInt8) ∉ w → Lib.contains (w ++ l) (32 :: p) = Lib.contains l (32 :: p)
 | [], l, _ => rfl
 | b :: w, l, h => by
  simp only [fa6, not_or] at h;have hb : ((32 : UInt8) == b) = false := by rw [beq_eq_false_iff_ne]; exact h.1
  rw [fe3, cr9, cs0 p w l h.2];have : (32 :: p).isPrefixOf (b :: (w ++ l)) = false := by simp only [List.isPrefixOf, hb, fe1]
  rw [this, fe2]
theorem cs1 : ∀ (U w t : List UInt8), (32 : UInt8) ∉ U → (32 : UInt8) ∉ w → (U ++ [32]).isPrefixOf (w ++ 32 :: t) = (U == w)
 | [], [], t, _, _ => by simp [List.isPrefixOf]
 | [], b :: w, t, _, h => by
  simp only [fa6, not_or] at h;have hb : ((32 : UInt8) == b) = false := by rw [beq_eq_false_iff_ne]; exact h.1
  simp only [fd9, fe3, List.isPrefixOf, hb, fe1];rfl
 | a :: U, [], t, h, _ => by
  simp only [fa6, not_or] at h;have ha : (a == (32 : UInt8)) = false := by rw [beq_eq_false_iff_ne]; exact fun e => h.1 e.symm
  simp only [fd9, fe3, List.isPrefixOf, ha, fe1];rfl
 | a :: U, b :: w, t, h, h' => by
  simp only [fa6, not_or] at h h';simp only [fe3, List.isPrefixOf];rw [cs1 U w t h.2 h'.2];rfl
theorem cs2 (U : List UInt8) (hU : (32 : UInt8) ∉ U) : ∀ ws : List (List UInt8), (∀ w ∈ ws, (32 : UInt8) ∉ w) → Lib.contains (cr7 ws) (32 :: (U ++ [32])) = ws.any fun w => U == w
 | [], _ => by
  have : (32 :: (U ++ [32])).isPrefixOf [(32 : UInt8)] = false := by cases U <;> simp [List.isPrefixOf]
  rw [cr7, cr9, this];simp [Lib.contains, Lib.index]
 | w :: r, h => by
  obtain ⟨t, ht⟩ := cr8 r;have ih := cs2 U hU r fun x hx => h x (by simp [hx])
  rw [cr7, cr9, cs0 _ w _ (h w (by simp)), ih, fe6];congr 1;rw [ht];show ((32 : UInt8) == 32 && (U ++ [32]).isPrefixOf (w ++ 32 :: t)) = _;rw [cs1 U w t hU (h w (by simp))];rfl
attribute [local irreducible] Ev EvO EvS aw2 an2 SGo go
def isS (s : ByteArray) (t : ByteArray) : Bool := s.toList == t.toList
def fun1 (s : ByteArray) : Bool := isS s ⟨#[105, 100]⟩ || (isS s ⟨#[116, 121, 112, 101]⟩ || (isS s ⟨#[108, 97, 98, 101, 108, 115]⟩ || (isS s ⟨#[115, 105, 122, 101]⟩ || (isS s ⟨#[108, 101, 110, 103, 116, 104]⟩ || (isS s ⟨#[110, 111, 100, 101, 115]⟩ ||
 (isS s ⟨#[101, 100, 103, 101, 115]⟩ || (isS s ⟨#[102, 105, 114, 115, 116]⟩ || (isS s ⟨#[108, 97, 115, 116]⟩ || (isS s ⟨#[115, 116, 97, 114, 116]⟩ || (isS s ⟨#[101, 110, 100]⟩ || (isS s ⟨#[97, 98, 115]⟩ || isS s ⟨#[116, 101, 120, 116]⟩)))))))))))
def fun2 (s : ByteArray) : Bool := isS s ⟨#[99, 111, 97, 108, 101, 115, 99, 101]⟩
def cs3 (s : ByteArray) : Int := bif fun1 s then 1 else bif fun2 s then 2 else 0
def cs4 (s : ByteArray) : Int := bif fun1 s then 1 else bif fun2 s then 4 else 0
def aggF (s : ByteArray) : Bool := isS s ⟨#[99, 111, 117, 110, 116]⟩ || (isS s ⟨#[115, 117, 109]⟩ || (isS s ⟨#[109, 105, 110]⟩ || (isS s ⟨#[109, 97, 120]⟩ || (isS s ⟨#[97, 118, 103]⟩ || isS s ⟨#[99, 111, 108, 108, 101, 99, 116]⟩))))
theorem cs5 (s : ByteArray) : Ev E 325 [.str s] (.tup [.int (cs3 s), .int (cs4 s)]) := by
 refine ye1 func325 ntmps325 fun _ _ _=>?_
 repeat' (first | refine yz ?_ | (refine qV rfl ?_ ?_ <;> intro _))
 all_goals simp_all [cs3, cs4, fun1, fun2, isS, fk8]
theorem cs6 (s : ByteArray) : Ev E 327 [.str s] (.d (.bool (aggF s))) := by
 refine ye1 func327 ntmps327 fun _ _ _=>?_
 repeat' (first | refine yz ?_ | (refine qV rfl ?_ ?_ <;> intro _))
 all_goals (refine congrArg D.bool ?_; simp_all [aggF, isS])
def cs7 (v : V) : Bool := v.k == 0 && (v.n == 0 && (v.d == 0 && (s0 v.s && l0 v)))
theorem cs8 (v : V) : Ev E 326 [enc v] (.d (.bool (cs7 v))) := by
 refine ye1 func326 ntmps326 fun _ _ _=>?_
 repeat' (first | refine yz ?_ | (refine yy ?_ ?_ <;> intro _))
 all_goals (refine congrArg D.bool ?_; simp_all [cs7, s0, l0])
def kn0 (e : Ex) : Int := ((cq1 e).length : Int)
def cs9 (e : Ex) : Bool :=
 bif e.op == 1 || e.op == 2 then kn0 e == 0 else
 bif e.op == 3 || (e.op == 4 || (e.op == 5 || (e.op == 6 || e.op == 21))) then kn0 e == 1 else
 bif e.op == 22 then decide (kn0 e ≤ 16) else
 bif e.op == 23 then cs3 e.nm == 0 || (decide (kn0 e ≥ cs3 e.nm) && decide (kn0 e ≤ cs4 e.nm)) else
 bif e.op == 24 then kn0 e == 1 || (kn0 e == 0 && (isS e.nm ⟨#[99, 111, 117, 110, 116]⟩ && !e.ds)) else kn0 e == 2
theorem ct0 (e : Ex) : Ev E 257 [cq3 e] (.d (.bool (cs9 e))) := by
 have ha := cs5 e.nm;refine ye1 func257 ntmps257 fun _ _ _=>?_
 repeat' (first | refine yz ?_ | refine yp b325 ha ?_ | (refine yy ?_ ?_ <;> intro _) | (refine qV rfl ?_ ?_ <;> intro _))
 all_goals (refine congrArg D.bool ?_; simp_all [cs9, kn0, isS, fk8] <;> first | rfl | (intro h; exfalso; omega) | (rw [show (cs3 e.nm == 0) = false by rw [beq_eq_false_iff_ne]; assumption]; rfl))
def namF (op : Int) : Bool := op == 2 || (op == 3 || (op == 4 || (op == 23 || op == 24)))
def ct1 (e : Ex) : Bool := (e.op == 1 || cs7 e.v) && ((namF e.op || isS e.nm ⟨#[]⟩) && (e.op == 24 || !e.ds))
theorem ct2 (e : Ex) : Ev E 258 [cq3 e] (.d (.bool (ct1 e))) := by
 have hb := cs8 e.v;refine ye1 func258 ntmps258 fun _ _ _=>?_
 repeat' (first | refine yz ?_ | refine yp b326 hb ?_ | refine yx ?_ | (refine yy ?_ ?_ <;> intro _))
 all_goals (refine congrArg D.bool ?_; simp_all [ct1, namF, isS])
def ct3 (v : V) : Bool := cs7 v || ((v.k == 1 || (v.k == 2 || v.k == 4)) && Val.okV v)
theorem ct4 (v : V) : Ev E 259 [enc v] (.d (.bool (ct3 v))) := by
 have hb := cs8 v;have hv := ca5 cc1 v;refine ye1 func259 ntmps259 fun _ _ _=>?_
 repeat' (first | refine yz ?_ | refine yp b326 hb ?_ | refine yp bv8 hv ?_ | (refine yy ?_ ?_ <;> intro _))
 all_goals (refine congrArg D.bool ?_; simp_all [ct3])
mutual
def nd : Ex → Nat
 | .mk _ _ _ _ l => ndL l + 1
def ndL : List Ex → Nat
 | [] => 0
 | x :: r => nd x + ndL r
end
theorem nd_eq (e : Ex) : nd e = ndL e.ks + 1 := by cases e; simp [nd, Ex.ks]
theorem ct5 : ∀ {l : List Ex} {x : Ex}, x ∈ l → nd x ≤ ndL l
 | [], x, h => by simp at h
 | y :: r, x, h => by
  simp only [ndL];rcases fa6.1 h with e | e
  ·rw [e]; omega
  ·have := ct5 e; omega
theorem ct6 {l : List Ex} {i : Nat} {x : Ex} (h : l[i]? = some x) : ndL (l.drop i) = nd x + ndL (l.drop (i + 1)) := by
 rw [bz2 h]; rfl
structure SNd (l : List Ex) where
 i : Nat
 n : Nat
 hi : i ≤ l.length
 ok : ndL l + 1 = n + ndL (l.drop i)
theorem ct7 (e : Ex) : nd e ≤ 1000000 → Ev E 176 [cq3 e] (.d (.int (nd e))) := by
 refine xind (P := fun e => nd e ≤ 1000000 → Ev E 176 [cq3 e] (.d (.int (nd e)))) (fun op v nm ds ks ih hb => ?_) e;refine Ev.fit fun hfit => ?_
 obtain ⟨-, -, -, hmax, -⟩ := cq8 (hfit (cq3 (.mk op v nm ds ks)) (by simp));simp only [Ex.ks] at hmax;have hlen : (cq1 (.mk op v nm ds ks)).length = ks.length := cq7 _;have hnd : nd (.mk op v nm ds ks) = ndL ks + 1 := nd_eq _;rw [hnd] at hb ⊢;refine ye1 func176 ntmps176 fun _ _ _=>?_
 repeat' (refine yz ?_)
 refine ac7 (α := SNd ks) (fun p => ⟨[(3, .d (.int p.n)), (7, .d (.sl (cq1 (.mk op v nm ds ks)))), (8, .d (.int (cq1 (.mk op v nm ds ks)).length)), (9, .d (.int p.i))], []⟩) (fun p => ks.length - p.i) ⟨0, 1, by omega, by rw [fk0]; omega⟩ (zle 0) ?_;rintro ⟨i, n, hi, ok⟩;dsimp only;rcases ez6 i ks.length with hlt | hge
 ·have hd1 : decide ((i : Int) < ((cq1 (.mk op v nm ds ks)).length : Int)) = true := by rw [hlen]; simpa using hlt
  have hx0 := ez5 hlt;generalize ks[i] = x at hx0;have hx : (cq1 (.mk op v nm ds ks))[(i : Int).toNat]? = some (cq3 x) := cq6 (e := .mk op v nm ds ks) (by rw [fb4]; exact hx0);have hdr := ct6 hx0;have hm := ct5 (ez9 hx0);have hs := ih x (ez9 hx0) (by omega)
  repeat' (first | refine yz ?_ | refine yi (cq3 x) hx ?_ | refine yp b176 hs ?_)
  refine ac1 ?_;refine ⟨⟨i + 1, n + nd x, by omega, by omega⟩, by dsimp only; omega, ?_⟩;dsimp only;rw [Int.natCast_add];exact (zle 0)
 ·have hd1 : decide ((i : Int) < ((cq1 (.mk op v nm ds ks)).length : Int)) = false := by rw [hlen]; simp; omega
  have : ks.drop i = [] := fa1 hge;rw [ok, this]
  repeat' (first | refine yz ?_ | exact zD)
end Go.Proofs.YtenpjlghikohmaaGreatDoor
namespace Go.Proofs.YtenpjlghikohmaaGreatDoor
set_option maxRecDepth 4000
open Go Go.Abs Go.Val Go.Proofs.Tryz
attribute [local irreducible] go SGo an2 Ev aw2 EvO EvS
mutual
def dp : Ex → Nat
 | .mk _ _ _ _ l => dpL l + 1
def dpL : List Ex → Nat
 | [] => 0
 | x :: r => max (dp x) (dpL r)
end
theorem dp_eq (e : Ex) : dp e = dpL e.ks + 1 := by cases e; simp [dp, Ex.ks]
theorem ct8 : ∀ {l : List Ex} {x : Ex}, x ∈ l → dp x ≤ dpL l
 | [], x, h => by simp at h
 | y :: r, x, h => by
  simp only [dpL];rcases fa6.1 h with e | e
  ·rw [e]; omega
  ·have := ct8 e; omega
theorem ct9 {l : List Ex} {i : Nat} {x : Ex} (h : l[i]? = some x) : dpL (l.drop i) = max (dp x) (dpL (l.drop (i + 1))) := by
 rw [bz2 h]; rfl
structure SDp (l : List Ex) where
 i : Nat
 n : Nat
 hi : i ≤ l.length
 ok : dpL l = max n (dpL (l.drop i))
theorem cu0 (e : Ex) : dp e ≤ 1000000 → Ev E 175 [cq3 e] (.d (.int (dp e))) := by
 refine xind (P := fun e => dp e ≤ 1000000 → Ev E 175 [cq3 e] (.d (.int (dp e)))) (fun op v nm ds ks ih hb => ?_) e;refine Ev.fit fun hfit => ?_
 obtain ⟨-, -, -, hmax, -⟩ := cq8 (hfit (cq3 (.mk op v nm ds ks)) (by simp));simp only [Ex.ks] at hmax;have hlen : (cq1 (.mk op v nm ds ks)).length = ks.length := cq7 _;have hnd : dp (.mk op v nm ds ks) = dpL ks + 1 := dp_eq _;rw [hnd] at hb ⊢;refine ye1 func175 ntmps175 fun _ _ _=>?_
 repeat' (refine yz ?_)
 refine ac7 (α := SDp ks) (fun p => ⟨[(3, .d (.int p.n)), (7, .d (.sl (cq1 (.mk op v nm ds ks)))), (8, .d (.int (cq1 (.mk op v nm ds ks)).length)), (9, .d (.int p.i))], []⟩) (fun p => ks.length - p.i) ⟨0, 0, by omega, by rw [fk0]; omega⟩ (zle 0) ?_;rintro ⟨i, n, hi, ok⟩;dsimp only;rcases ez6 i ks.length with hlt | hge
 ·have hd1 : decide ((i : Int) < ((cq1 (.mk op v nm ds ks)).length : Int)) = true := by rw [hlen]; simpa using hlt
  have hx0 := ez5 hlt;generalize ks[i] = x at hx0;have hx : (cq1 (.mk op v nm ds ks))[(i : Int).toNat]? = some (cq3 x) := cq6 (e := .mk op v nm ds ks) (by rw [fb4]; exact hx0);have hdr := ct9 hx0;have hm := ct8 (ez9 hx0);have hs := ih x (ez9 hx0) (by omega)
  repeat' (first | refine yz ?_ | refine yi (cq3 x) hx ?_ | refine yp b175 hs ?_)
  refine ac1 ?_;refine ⟨⟨i + 1, max n (dp x), by omega, by omega⟩, by dsimp only; omega, ?_⟩;dsimp only;rw [show ((max n (dp x) : Nat) : Int) = max (n : Int) (dp x : Int) by omega];exact (zle 0)
 ·have hd1 : decide ((i : Int) < ((cq1 (.mk op v nm ds ks)).length : Int)) = false := by rw [hlen]; simp; omega
  have : ks.drop i = [] := fa1 hge;have hn : n = dpL ks := by rw [ok, this]; simp [dpL]
  subst hn
  repeat' (first | refine yz ?_ | exact zD)
end Go.Proofs.YtenpjlghikohmaaGreatDoor
namespace Go.Proofs.YtenpjlghikohmaaGreatDoor
set_option maxRecDepth 4000
open Go Go.Abs Go.Val Go.RowKit Go.Proofs.Tryz
attribute [local irreducible] go SGo an2 Ev aw2 EvO EvS
theorem cu1 (i : Nat) : Nat.blt i i = false := by
 cases h : Nat.blt i i with
 | false => rfl
 | true => simp at h
def upN (n : Int) : Int := bif decide (n ≥ 97) && decide (n ≤ 122) then n - 32 else n
def cu2 (s : ByteArray) (i : Nat) : List D := (List.range s.size).map fun j => D.imm (.int .u8 (bif Nat.blt j i then upN (ag0 s j) else ag0 s j))
def upL (s : ByteArray) (i : Nat) : List Int := (List.range i).map fun j => upN (ag0 s j)
def upF (s : ByteArray) : ByteArray := Go.Abs.strOf (upL s s.size)
theorem cu3 (s : ByteArray) (i : Nat) : (upL s i).length = i := by simp [upL]
theorem cu4 (s : ByteArray) (i : Nat) : (cu2 s i).length = s.size := by simp [cu2]
theorem cu5 {s : ByteArray} {i j : Nat} (h : j < s.size) : (cu2 s i)[j]? = some (D.imm (.int .u8 (bif Nat.blt j i then upN (ag0 s j) else ag0 s j))) := by
 rw [cu2, ez8, ff0 h]; rfl
theorem cu6 (s : ByteArray) : cu2 s 0 = bd7 s := by
 refine ff4 fun j => ?_
 rcases ez6 j s.size with h | h
 ·rw [cu5 h, be0 h]; rfl
 ·rw [fc8 (by rw [cu4]; exact h), fc8 (by rw [bd8]; exact h)]
theorem cu7 {s : ByteArray} {i : Nat} (h : i < s.size) : (cu2 s i).set i (.imm (.int .u8 (upN (ag0 s i)))) = cu2 s (i + 1) := by
 refine ff4 fun j => ?_
 rcases ez6 j s.size with hj | hj
 ·rw [fd2, cu5 hj, cu5 hj]
  by_cases e : i = j
  ·subst e;rw [if_pos rfl, if_pos (by rw [cu4]; exact h), show Nat.blt i (i + 1) = true by simp];rfl
  ·rw [if_neg e];have : Nat.blt j (i + 1) = Nat.blt j i := by rw [ff6]; simp; omega
   rw [this]
 ·rw [fc8 (by rw [List.length_set, cu4]; exact hj), fc8 (by rw [cu4]; exact hj)]
theorem cu8 {s : ByteArray} {i : Nat} (h : i < s.size) (hn : upN (ag0 s i) = ag0 s i) : cu2 s i = cu2 s (i + 1) := by
 rw [← cu7 h, hn];refine ff4 fun j => ?_
 rw [fd2]
 by_cases e : i = j
 ·subst e;rw [if_pos rfl, if_pos (by rw [cu4]; exact h), cu5 h, cu1];rfl
 ·rw [if_neg e]
theorem cu9 (s : ByteArray) : cu2 s s.size = (upL s s.size).map fun n => .imm (.int .u8 n) := by
 refine ff4 fun j => ?_
 rcases ez6 j s.size with hj | hj
 ·rw [cu5 hj, upL, List.map_map, ez8, ff0 hj, show Nat.blt j s.size = true by simpa using hj];rfl
 ·rw [fc8 (by rw [cu4]; exact hj), fc8 (by rw [fb8, cu3]; exact hj)]
structure SUp (s : ByteArray) where
 i : Nat
 hi : i ≤ s.size
set_option maxHeartbeats 1000000 in
theorem cv0 (s : ByteArray) : Ev E 256 [.str s] (.d (.str (upF s))) := Ev.fit fun hfit => by
 have hs := (hfit (.str s) (by simp)).str;have hlen : (bd7 s).length = s.size := bd8 s;refine ye1 func256 ntmps256 fun _ _ _=>?_
 repeat' (first | refine yz ?_ | refine be6 rfl rfl rfl rfl rfl rfl rfl rfl ?_)
 rw [hlen, ← cu6];refine ac7 (α := SUp s) (fun p => ⟨[(3, .own 0), (8, .own 0), (9, .d (.int s.size)), (10, .d (.int p.i))], [.mrow 5 1 (cu2 s p.i)]⟩) (fun p => s.size - p.i) ⟨0, by omega⟩ (zle 1) ?_;rintro ⟨i, hi⟩;dsimp only;have hrl := cu4 s i;rcases ez6 i s.size with hlt | hge
 ·have hd1 : decide ((i : Int) < (s.size : Int)) = true := by simpa using hlt
  have hti : (i : Int).toNat = i := fb4 i;have hx : (cu2 s i)[(i : Int).toNat]? = some (.imm (.int .u8 (ag0 s i))) := by rw [hti, cu5 hlt, cu1]; rfl
  have hb := cr4 s i hlt
  cases h1 : decide (ag0 s i ≥ 97) with
  | false =>
   have hn : upN (ag0 s i) = ag0 s i := by unfold upN; rw [h1]; rfl
   repeat' (first | refine yz ?_ | refine be9 rfl rfl rfl rfl rfl rfl rfl rfl (by constructor <;> first | omega | (simp; omega) | decide) ?_ | refine bf0 _ rfl rfl rfl rfl rfl rfl hx rfl ?_ | refine yx ?_)
   refine ac1 ?_;refine ⟨⟨i + 1, by omega⟩, by dsimp only; omega, ?_⟩;rw [cu8 hlt hn];exact (zle 1)
  | true =>
   cases h2 : decide (ag0 s i ≤ 122) with
   | false =>
    have hn : upN (ag0 s i) = ag0 s i := by unfold upN; rw [h1, h2]; rfl
    repeat' (first | refine yz ?_ | refine be9 rfl rfl rfl rfl rfl rfl rfl rfl (by constructor <;> first | omega | (simp; omega) | decide) ?_ | refine bf0 _ rfl rfl rfl rfl rfl rfl hx rfl ?_ | refine yx ?_)
    refine ac1 ?_;refine ⟨⟨i + 1, by omega⟩, by dsimp only; omega, ?_⟩;rw [cu8 hlt hn];exact (zle 1)
   | true =>
    have h1' := of_decide_eq_true h1;have h2' := of_decide_eq_true h2;have hn : ag0 s i - 97 + 65 = upN (ag0 s i) := by unfold upN; rw [h1, h2]; simp; omega
    repeat' (first | refine yz ?_ | refine be9 rfl rfl rfl rfl rfl rfl rfl rfl (by constructor <;> first | omega | (simp; omega) | decide) ?_ | refine bf0 _ rfl rfl rfl rfl rfl rfl hx rfl ?_ | refine bf1 _ rfl rfl rfl rfl rfl rfl hx rfl rfl rfl ?_ | refine yx ?_)
    refine ac1 ?_;refine ⟨⟨i + 1, by omega⟩, by dsimp only; omega, ?_⟩;rw [hti, hn, cu7 hlt];exact (zle 1)
 ·have hd1 : decide ((i : Int) < (s.size : Int)) = false := by simp; omega
  obtain rfl : i = s.size := by omega
  repeat' (refine yz ?_)
  refine be7 0 rfl ?_;dsimp only [ar8, ar7];have he := cu9 s
  repeat' (first | refine yz ?_ | refine be8 (upL s s.size) rfl rfl rfl rfl rfl rfl rfl rfl he ?_ | exact zD)
def cv1 : List ByteArray := [⟨#[77, 65, 84, 67, 72]⟩, ⟨#[79, 80, 84, 73, 79, 78, 65, 76]⟩, ⟨#[87, 72, 69, 82, 69]⟩, ⟨#[85, 78, 87, 73, 78, 68]⟩, ⟨#[65, 83]⟩, ⟨#[87, 73, 84, 72]⟩, ⟨#[68, 73, 83, 84, 73, 78, 67, 84]⟩, ⟨#[79, 82, 68, 69, 82]⟩, ⟨#[66, 89]⟩, ⟨#[65, 83, 67]⟩, ⟨#[68, 69, 83, 67]⟩, ⟨#[83, 75, 73, 80]⟩, ⟨#[76, 73, 77, 73, 84]⟩, ⟨#[82, 69, 84, 85, 82, 78]⟩, ⟨#[67, 82, 69, 65, 84, 69]⟩, ⟨#[77, 69, 82, 71, 69]⟩, ⟨#[83, 69, 84]⟩, ⟨#[82, 69, 77, 79, 86, 69]⟩, ⟨#[68, 69, 76, 69, 84, 69]⟩, ⟨#[68, 69, 84, 65, 67, 72]⟩, ⟨#[65, 78, 68]⟩, ⟨#[79, 82]⟩, ⟨#[78, 79, 84]⟩, ⟨#[73, 78]⟩, ⟨#[73, 83]⟩, ⟨#[78, 85, 76, 76]⟩, ⟨#[84, 82, 85, 69]⟩, ⟨#[70, 65, 76, 83, 69]⟩, ⟨#[87, 65, 76, 75]⟩, ⟨#[84, 82, 65, 73, 76]⟩, ⟨#[83, 73, 77, 80, 76, 69]⟩, ⟨#[83, 72, 79, 82, 84, 69, 83, 84]⟩, ⟨#[65, 78, 89]⟩]
def cv2 (s : ByteArray) : Bool := cv1.any fun w => w.toList == (upF s).toList
def upB (b : UInt8) : UInt8 := UInt8.ofNat (upN b.toNat).toNat
theorem cv3 (ns : List Int) : (Go.Abs.strOf ns).data.toList = ns.map fun n => UInt8.ofNat n.toNat := by
 have key : ∀ (ns : List Int) (r : ByteArray), (ns.foldl (fun r n => r.push (UInt8.ofNat n.toNat)) r).data.toList = r.data.toList ++ ns.map fun n => UInt8.ofNat n.toNat := by
  intro ns
  induction ns with
  | nil => intro r; simp
  | cons n ns ih =>
   intro r;rw [ff3, ih];simp [ByteArray.push]
 have := key ns ByteArray.empty;unfold Go.Abs.strOf;rw [this];simp
theorem cv4 (s : ByteArray) : (upF s).data.toList = s.data.toList.map upB := by
 unfold upF;rw [cv3];refine ff4 fun j => ?_
 have hl : s.data.toList.length = s.size := by simp
 rcases ez6 j s.size with hj | hj
 ·have hx := ez5 (show j < s.data.toList.length by omega);rw [ez8, upL, ez8, ff0 hj, ez8, hx];simp only [fd0, upB, ag0, fb9, hx, fd8]
 ·rw [fc8 (by rw [fb8, cu3]; exact hj), fc8 (by rw [fb8]; omega)]
theorem cv5 (b : UInt8) : upB b = 32 ↔ b = 32 := by
 have key : ∀ c : Fin 256, (upB (UInt8.ofFin c) = 32) = (UInt8.ofFin c = 32) := by
  intro c;revert c;decide +kernel
 have hb : b = UInt8.ofFin b.toFin := by rfl
 rw [hb];exact iff_of_eq (key b.toFin)
theorem cv6 : ∀ l : List UInt8, Lib.contains l [32] = decide ((32 : UInt8) ∈ l)
 | [] => by simp [Lib.contains, Lib.index]
 | b :: l => by
  rw [cr9, cv6 l];have : ([32] : List UInt8).isPrefixOf (b :: l) = ((32 : UInt8) == b) := by simp only [List.isPrefixOf, fj6]
  rw [this, ff6, fc7, beq_iff_eq, decide_eq_true_eq, decide_eq_true_eq, fa6]
theorem cv7 (s : ByteArray) : (32 : UInt8) ∈ (upF s).data.toList ↔ (32 : UInt8) ∈ s.data.toList := by
 rw [cv4, fc4];constructor
 ·rintro ⟨b, h1, h2⟩;rw [(cv5 b).1 h2] at h1;exact h1
 ·intro h;exact ⟨32, h, (cv5 32).2 rfl⟩
theorem cv8 : ∀ w ∈ cv1.map (·.data.toList), (32 : UInt8) ∉ w := by
 have : (cv1.map (·.data.toList)).all (fun w => !w.contains 32) = true := by decide
 intro w hw hm;have := fb2.1 this w hw;simp [fl6] at this;exact this hm
theorem cv9 (U : List UInt8) : ((cv1.map (·.data.toList)).any fun w => U == w) = cv1.any fun w => w.data.toList == U := by
 rw [List.any_map];congr 1
 funext w
 simp only [Function.comp];rw [ff6, beq_iff_eq, beq_iff_eq];exact ⟨fun h => h.symm, fun h => h.symm⟩
theorem cw0 (s : ByteArray) : cv2 s = cv1.any fun w => w.data.toList == (upF s).data.toList := by
 unfold cv2;simp only [ByteArray.toList_eq]
theorem cw1 (s : ByteArray) (h : Lib.contains s.data.toList [32] = false) : Lib.contains (cr7 (cv1.map (·.data.toList))) (32 :: ((upF s).data.toList ++ [32])) = cv2 s := by
 rw [cv6, decide_eq_false_iff_not] at h;rw [cs2 _ (fun hm => h ((cv7 s).1 hm)) _ cv8, cv9, cw0]
theorem cw2 (s : ByteArray) (h : Lib.contains s.data.toList [32] = true) : cv2 s = false := by
 rw [cv6, decide_eq_true_eq] at h;rw [cw0, fh3];intro w hw he;have e := eq_of_beq he;refine cv8 _ (fh0 hw) ?_;rw [e];exact (cv7 s).2 h
theorem cw3 (s sub : ByteArray) (hs : s.size < 4294967281) : Ev E 255 [.str s, .str sub] (.d (.bool (Lib.contains s.data.toList sub.data.toList))) := by
 refine cb3 rfl fun w F hG _ _ => ?_
 obtain ⟨-, -, m, hm⟩ := hG.2;refine (Tryz.strings_Contains s sub m w hs hm).mono ?_;rintro e w' ⟨rfl, rfl⟩;exact ⟨rfl, Below.refl _ _⟩
end Go.Proofs.YtenpjlghikohmaaGreatDoor
