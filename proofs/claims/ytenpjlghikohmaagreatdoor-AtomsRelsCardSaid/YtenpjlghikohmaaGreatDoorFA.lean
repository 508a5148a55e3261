/- Expressions as plain trees, how they are written as data, and the weighing of expressions by the law's own text; Names of the language: letters, names, by both texts; A word between blanks in a text of words between blanks: it is one of them; The functions' numbers of operands and the aggregates' names, by both texts; Blank constants, numbers of operands, unused fields, by both texts; The size of an expression, by both texts; The depth of an expression, by both texts; Upper case and the reserved words, by both texts; The reserved words, by both texts. Conditions: each part's own, as it says. -/
import Derived.Test.YtenpjlghikohmaaGreatDoorGC
import Derived.Test.YtenpjlghikohmaaGreatDoorMA
import Derived.Lib.IndexMore
import Derived.Test.YtenpjlghikohmaaGreatDoorGB
set_option linter.unusedVariables false
set_option linter.unusedSimpArgs false
namespace Go.Proofs.YtenpjlghikohmaaGreatDoor
set_option maxRecDepth 4000
open Go Go.Abs Go.Val Go.Proofs.Tryz
attribute [local irreducible] go SGo HasBody Ev ExtEv EvO EvS
inductive Ex where
 | mk (op : Int) (v : V) (nm : ByteArray) (ds : Bool) (ks : List Ex)
 deriving Inhabited
def Ex.op : Ex → Int | .mk op _ _ _ _ => op
def Ex.v : Ex → V | .mk _ v _ _ _ => v
def Ex.nm : Ex → ByteArray | .mk _ _ nm _ _ => nm
def Ex.ds : Ex → Bool | .mk _ _ _ ds _ => ds
def Ex.ks : Ex → List Ex | .mk _ _ _ _ ks => ks
theorem Ex.eta (e : Ex) : Ex.mk e.op e.v e.nm e.ds e.ks = e := by cases e; rfl
mutual
def kidsE : Ex → List D
 | .mk _ _ _ _ l => encEL l
def encEL : List Ex → List D
 | [] => []
 | e :: r => .agg [.int e.op, .int e.v.k, .int e.v.n, .int e.v.d, .str e.v.s, .sl (kids e.v), .str e.nm, .bool e.ds, .sl (kidsE e)] :: encEL r
end
def encE (e : Ex) : D := .agg [.int e.op, .int e.v.k, .int e.v.n, .int e.v.d, .str e.v.s, .sl (kids e.v), .str e.nm, .bool e.ds, .sl (kidsE e)]
theorem encEL_map (l : List Ex) : encEL l = l.map encE := by
 induction l with
 | nil => simp [encEL]
 | cons v r ih => simp [encEL, ih, encE]
theorem kidsE_eq (e : Ex) : kidsE e = e.ks.map encE := by
 cases e
 simp [kidsE, encEL_map, Ex.ks]
theorem kidsE_get {e : Ex} {i : Nat} {x : Ex} (h : e.ks[i]? = some x) : (kidsE e)[i]? = some (encE x) := by
 rw [kidsE_eq, List.getElem?_map, h]; rfl
theorem kidsE_len (e : Ex) : (kidsE e).length = e.ks.length := by rw [kidsE_eq]; simp
theorem fit_encE {e : Ex} (h : Fit (encE e)) : inR .i64 e.op ∧ Fit (enc e.v) ∧ e.nm.size ≤ 9223372036854775807 ∧ e.ks.length ≤ 9223372036854775807 ∧ ∀ x ∈ e.ks, Fit (encE x) := by
 have hc := h.aggs
 have h5 := (hc (.sl (kidsE e)) (by simp)).sls
 rw [kidsE_len] at h5
 refine ⟨(hc (.int e.op) (by simp)).int, ?_, (hc (.str e.nm) (by simp)).str, h5.1, fun x hx => h5.2 _ ?_⟩
 ·refine Fit.agg _ fun c hm => hc c ?_
  simp only [List.mem_cons, List.not_mem_nil, or_false] at hm ⊢
  rcases hm with rfl | rfl | rfl | rfl | rfl <;> simp
 ·rw [kidsE_eq]
  exact List.mem_map_of_mem hx
theorem xind {P : Ex → Prop} (h : ∀ op v nm ds ks, (∀ x ∈ ks, P x) → P (.mk op v nm ds ks)) : ∀ e, P e := by
 intro e
 refine Ex.rec (motive_1 := P) (motive_2 := fun l => ∀ x ∈ l, P x) (fun op v nm ds ks ih => h op v nm ds ks ih) (fun x hx => by simp at hx) (fun a r ha hr x hx => ?_) e
 rcases List.mem_cons.1 hx with rfl | hx
 ·exact ha
 ·exact hr x hx
end Go.Proofs.YtenpjlghikohmaaGreatDoor
namespace Go.Proofs.YtenpjlghikohmaaGreatDoor
set_option maxRecDepth 4000
open Go Go.Abs Go.Val Go.Proofs.Tryz
attribute [local irreducible] go SGo HasBody Ev ExtEv EvO EvS
def letF (n : Int) : Bool := (decide (n ≥ 97) && decide (n ≤ 122)) || (decide (n ≥ 65) && decide (n ≤ 90))
def wcF (n : Int) : Bool := letF n || ((decide (n ≥ 48) && decide (n ≤ 57)) || n == 95)
def nameF (s : ByteArray) : Bool := decide (1 ≤ s.size) && (decide (s.size ≤ 20) && (letF (byteAt s 0) && (List.range s.size).all fun j => wcF (byteAt s j)))
theorem letter_ev (n : Int) : Ev E 216 [.imm (.int .u8 n)] (.d (.bool (letF n))) := by
 refine ye1 func216 ntmps216 fun _ _ _=>?_
 repeat' (first | refine yz ?_ | (refine yy ?_ ?_ <;> intro _))
 all_goals (refine congrArg D.bool ?_; simp_all [letF] <;> omega)
theorem rletter_ev (n : Int) : Ev E 252 [.imm (.int .u8 n)] (.d (.bool (letF n))) := by
 refine ye1 func252 ntmps252 fun _ _ _=>?_
 repeat' (first | refine yz ?_ | (refine yy ?_ ?_ <;> intro _))
 all_goals (refine congrArg D.bool ?_; simp_all [letF] <;> omega)
structure SNm (s : ByteArray) where
 i : Nat
 hi : i ≤ s.size
 ok : ((List.range s.size).all fun j => wcF (byteAt s j)) = ((List.range s.size).drop i).all fun j => wcF (byteAt s j)
theorem range_at {n i : Nat} (h : i < n) : (List.range n)[i]? = some i := by rw [List.getElem?_range h]
theorem byteAt_rng (s : ByteArray) (i : Nat) (h : i < s.size) : 0 ≤ byteAt s i ∧ byteAt s i ≤ 255 := by
 obtain ⟨b, -, hb2⟩ := cOK_at h
 rw [hb2]
 have := b.toNat_lt
 omega
set_option maxHeartbeats 2000000 in
theorem name_ev (s : ByteArray) : Ev E 122 [.str s] (.d (.bool (nameF s))) := Ev.fit fun hfit => by
 have hs := (hfit (.str s) (by simp)).str
 by_cases h0 : s.size = 0
 ·have hse : s = ByteArray.empty := by simpa using h0
  have gs : (s.toList == (⟨#[]⟩ : ByteArray).toList) = true := by rw [hse]; exact beq_self_eq_true ByteArray.empty.toList
  have e : nameF s = false := by unfold nameF; rw [h0]; rfl
  rw [e]
  refine ye1 func122 ntmps122 fun _ _ _=>?_
  repeat' (first | refine yz ?_ | refine yx ?_ | exact zD)
 have g0 : (s.toList == (⟨#[]⟩ : ByteArray).toList) = false := by
  rw [beq_eq_false_iff_ne]
  intro e
  rw [ByteArray.toList_eq, ByteArray.toList_eq] at e
  have := congrArg List.length e
  simp at this
  exact h0 (by rw [this]; rfl)
 cases h20 : decide (s.size ≤ 20) with
 | false =>
  have g1 : decide ((s.size : Int) > 20) = true := by simp at h20 ⊢; omega
  have e : nameF s = false := by unfold nameF; rw [h20]; simp
  rw [e]
  refine ye1 func122 ntmps122 fun _ _ _=>?_
  repeat' (first | refine yz ?_ | refine yx ?_ | exact zD)
 | true =>
  have g1 : decide ((s.size : Int) > 20) = false := by simp at h20 ⊢; omega
  have hb0 := byteAt_rng s 0 (by omega)
  have hl := letter_ev (byteAt s 0)
  cases hl0 : letF (byteAt s 0) with
  | false =>
   rw [hl0] at hl
   have e : nameF s = false := by unfold nameF; rw [hl0]; simp
   rw [e]
   refine ye1 func122 ntmps122 fun _ _ _=>?_
   repeat' (first | refine yz ?_ | refine yp b216 hl ?_ | refine yx ?_ | exact zD)
  | true =>
   rw [hl0] at hl
   have e : nameF s = (List.range s.size).all fun j => wcF (byteAt s j) := by
    unfold nameF; rw [hl0, h20, show decide (1 ≤ s.size) = true by simp; omega]; rfl
   rw [e]
   refine ye1 func122 ntmps122 fun _ _ _=>?_
   repeat' (first | refine yz ?_ | refine yp b216 hl ?_ | refine yx ?_)
   refine go_loop_ (α := SNm s) (fun p => ⟨[(0, .d (.str s)), (18, .d (.int s.size)), (19, .d (.int p.i))], []⟩) (fun p => s.size - p.i) ⟨0, by omega, rfl⟩ (zle 0) ?_
   rintro ⟨i, hi, ok⟩
   dsimp only
   rcases Nat.lt_or_ge i s.size with hlt | hge
   ·have hd : decide ((i : Int) < (s.size : Int)) = true := by simpa using hlt
    have hb := byteAt_rng s i hlt
    rw [ok, drop_at (range_at hlt), List.all_cons]
    have hli := letter_ev (byteAt s i)
    have hti : (i : Int).toNat = i := Int.toNat_natCast i
    rw [← hti] at hli hb
    cases hl1 : letF (byteAt s (i : Int).toNat) with
    | true =>
     rw [hl1] at hli
     rw [hti] at hl1
     have hw : wcF (byteAt s i) = true := by unfold wcF; rw [hl1]; rfl
     repeat' (first | refine yz ?_ | refine yp b216 hli ?_)
     refine go_stop ?_
     exact ⟨⟨i + 1, by omega, by rw [ok, drop_at (range_at hlt), List.all_cons, hw, Bool.true_and]⟩, by dsimp only; omega, (zle 0)⟩
    | false =>
     rw [hl1] at hli
     have key : ∀ b, ((decide (byteAt s i ≥ 48) && decide (byteAt s i ≤ 57)) || byteAt s i == 95) = b → wcF (byteAt s i) = b := by
      intro b hb
      unfold wcF
      rw [← hti, hl1, hti, hb, Bool.false_or]
     cases h48 : decide (byteAt s (i : Int).toNat < 48) with
     | true =>
      cases h95 : byteAt s (i : Int).toNat != 95 with
      | true =>
       have hw : wcF (byteAt s i) = false := key _ (by rw [hti] at h48 h95; simp at h48 h95 ⊢; exact ⟨fun h => by omega, h95⟩)
       repeat' (first | refine yz ?_ | refine yp b216 hli ?_ | refine yx ?_)
       rw [hw]; rfl
      | false =>
       have hw : wcF (byteAt s i) = true := key _ (by rw [hti] at h48 h95; simp at h48 h95 ⊢; exact .inr h95)
       repeat' (first | refine yz ?_ | refine yp b216 hli ?_ | refine yx ?_)
       refine go_stop ?_
       exact ⟨⟨i + 1, by omega, by rw [ok, drop_at (range_at hlt), List.all_cons, hw, Bool.true_and]⟩, by dsimp only; omega, (zle 0)⟩
     | false =>
      cases h57 : decide (byteAt s (i : Int).toNat > 57) with
      | false =>
       have hw : wcF (byteAt s i) = true := key _ (by rw [hti] at h48 h57; simp at h48 h57 ⊢; exact .inl ⟨h48, h57⟩)
       repeat' (first | refine yz ?_ | refine yp b216 hli ?_ | refine yx ?_)
       refine go_stop ?_
       exact ⟨⟨i + 1, by omega, by rw [ok, drop_at (range_at hlt), List.all_cons, hw, Bool.true_and]⟩, by dsimp only; omega, (zle 0)⟩
      | true =>
       cases h95 : byteAt s (i : Int).toNat != 95 with
       | true =>
        have hw : wcF (byteAt s i) = false := key _ (by rw [hti] at h48 h57 h95; simp at h48 h57 h95 ⊢; exact ⟨fun h => by omega, h95⟩)
        repeat' (first | refine yz ?_ | refine yp b216 hli ?_ | refine yx ?_)
        rw [hw]; rfl
       | false =>
        have hw : wcF (byteAt s i) = true := key _ (by rw [hti] at h95; simp at h95 ⊢; exact .inr h95)
        repeat' (first | refine yz ?_ | refine yp b216 hli ?_ | refine yx ?_)
        refine go_stop ?_
        exact ⟨⟨i + 1, by omega, by rw [ok, drop_at (range_at hlt), List.all_cons, hw, Bool.true_and]⟩, by dsimp only; omega, (zle 0)⟩
   ·have hd : decide ((i : Int) < (s.size : Int)) = false := by simp; omega
    have : (List.range s.size).drop i = [] := List.drop_eq_nil_of_le (by simpa using hge)
    rw [ok, this]
    repeat' (first | refine yz ?_ | exact zD)
set_option maxHeartbeats 2000000 in
theorem rname_ev (s : ByteArray) : Ev E 162 [.str s] (.d (.bool (nameF s))) := Ev.fit fun hfit => by
 have hs := (hfit (.str s) (by simp)).str
 cases h0 : decide (1 ≤ s.size) with
 | false =>
  have g0 := yT ((s.size : Int) < 1) (by have := of_decide_eq_false h0; omega)
  have e : nameF s = false := by unfold nameF; rw [h0]; simp
  rw [e]
  refine ye1 func162 ntmps162 fun _ _ _=>?_
  repeat' (first | refine yz ?_ | refine yx ?_ | exact zD)
 | true =>
 have hs1 := of_decide_eq_true h0
 have g0 : decide ((s.size : Int) < 1) = false := by simp; omega
 cases h20 : decide (s.size ≤ 20) with
 | false =>
  have g1 : decide ((s.size : Int) > 20) = true := by simp at h20 ⊢; omega
  have e : nameF s = false := by unfold nameF; rw [h20]; simp
  rw [e]
  refine ye1 func162 ntmps162 fun _ _ _=>?_
  repeat' (first | refine yz ?_ | refine yx ?_ | exact zD)
 | true =>
  have g1 : decide ((s.size : Int) > 20) = false := by simp at h20 ⊢; omega
  have hb0 := byteAt_rng s 0 (by omega)
  have hl := rletter_ev (byteAt s 0)
  cases hl0 : letF (byteAt s 0) with
  | false =>
   rw [hl0] at hl
   have e : nameF s = false := by unfold nameF; rw [hl0]; simp
   rw [e]
   refine ye1 func162 ntmps162 fun _ _ _=>?_
   repeat' (first | refine yz ?_ | refine yp b252 hl ?_ | refine yx ?_ | exact zD)
  | true =>
   rw [hl0] at hl
   have e : nameF s = (List.range s.size).all fun j => wcF (byteAt s j) := by
    unfold nameF; rw [hl0, h20, h0]; rfl
   have hw0 : wcF (byteAt s 0) = true := by unfold wcF; rw [hl0]; rfl
   have hst1 : ((List.range s.size).all fun j => wcF (byteAt s j)) = ((List.range s.size).drop 1).all fun j => wcF (byteAt s j) := by
    have := drop_at (range_at (show 0 < s.size by omega))
    rw [List.drop_zero] at this
    conv => lhs; rw [this]
    rw [List.all_cons, hw0, Bool.true_and]
   rw [e]
   refine ye1 func162 ntmps162 fun _ _ _=>?_
   repeat' (first | refine yz ?_ | refine yp b252 hl ?_ | refine yx ?_)
   refine go_loop_ (α := SNm s) (fun p => ⟨[(0, .d (.str s)), (3, .d (.int p.i))], []⟩) (fun p => s.size - p.i) ⟨1, by omega, hst1⟩ (zle 0) ?_
   rintro ⟨i, hi, ok⟩
   dsimp only
   rcases Nat.lt_or_ge i s.size with hlt | hge
   ·have hd : decide ((i : Int) < (s.size : Int)) = true := by simpa using hlt
    have hb := byteAt_rng s i hlt
    rw [ok, drop_at (range_at hlt), List.all_cons]
    have hli := rletter_ev (byteAt s i)
    have hti : (i : Int).toNat = i := Int.toNat_natCast i
    rw [← hti] at hli hb
    cases hl1 : letF (byteAt s (i : Int).toNat) with
    | true =>
     rw [hl1] at hli
     rw [hti] at hl1
     have hw : wcF (byteAt s i) = true := by unfold wcF; rw [hl1]; rfl
     repeat' (first | refine yz ?_ | refine yp b252 hli ?_)
     refine go_stop ?_
     exact ⟨⟨i + 1, by omega, by rw [ok, drop_at (range_at hlt), List.all_cons, hw, Bool.true_and]⟩, by dsimp only; omega, (zle 0)⟩
    | false =>
     rw [hl1] at hli
     have key : ∀ b, ((decide (byteAt s i ≥ 48) && decide (byteAt s i ≤ 57)) || byteAt s i == 95) = b → wcF (byteAt s i) = b := by
      intro b hb
      unfold wcF
      rw [← hti, hl1, hti, hb, Bool.false_or]
     cases h95 : byteAt s (i : Int).toNat != 95 with
     | false =>
      have hw : wcF (byteAt s i) = true := key _ (by rw [hti] at h95; simp at h95 ⊢; exact .inr h95)
      repeat' (first | refine yz ?_ | refine yp b252 hli ?_ | refine yx ?_)
      refine go_stop ?_
      exact ⟨⟨i + 1, by omega, by rw [ok, drop_at (range_at hlt), List.all_cons, hw, Bool.true_and]⟩, by dsimp only; omega, (zle 0)⟩
     | true =>
      cases h48 : decide (byteAt s (i : Int).toNat < 48) with
      | true =>
       have hw : wcF (byteAt s i) = false := key _ (by rw [hti] at h48 h95; simp at h48 h95 ⊢; exact ⟨fun h => by omega, h95⟩)
       repeat' (first | refine yz ?_ | refine yp b252 hli ?_ | refine yx ?_)
       rw [hw]; rfl
      | false =>
       cases h57 : decide (byteAt s (i : Int).toNat > 57) with
       | false =>
        have hw : wcF (byteAt s i) = true := key _ (by rw [hti] at h48 h57; simp at h48 h57 ⊢; exact .inl ⟨h48, h57⟩)
        repeat' (first | refine yz ?_ | refine yp b252 hli ?_ | refine yx ?_)
        refine go_stop ?_
        exact ⟨⟨i + 1, by omega, by rw [ok, drop_at (range_at hlt), List.all_cons, hw, Bool.true_and]⟩, by dsimp only; omega, (zle 0)⟩
       | true =>
        have hw : wcF (byteAt s i) = false := key _ (by rw [hti] at h48 h57 h95; simp at h48 h57 h95 ⊢; exact ⟨fun h => by omega, h95⟩)
        repeat' (first | refine yz ?_ | refine yp b252 hli ?_ | refine yx ?_)
        rw [hw]; rfl
   ·have hd : decide ((i : Int) < (s.size : Int)) = false := by simp; omega
    have : (List.range s.size).drop i = [] := List.drop_eq_nil_of_le (by simpa using hge)
    rw [ok, this]
    repeat' (first | refine yz ?_ | exact zD)
end Go.Proofs.YtenpjlghikohmaaGreatDoor
namespace Go.Proofs.YtenpjlghikohmaaGreatDoor
set_option maxRecDepth 4000
open Go Go.Abs Go.Val Go.Proofs.Tryz
def joinW : List (List UInt8) → List UInt8
 | [] => [32]
 | w :: r => 32 :: (w ++ joinW r)
theorem joinW_head : ∀ r, ∃ t, joinW r = 32 :: t
 | [] => ⟨[], rfl⟩
 | w :: r => ⟨w ++ joinW r, rfl⟩
theorem contains_step (b : UInt8) (l sub : List UInt8) : Lib.contains (b :: l) sub = (sub.isPrefixOf (b :: l) || Lib.contains l sub) := by
 unfold Lib.contains
 have hg := Lib.index_ge l sub
 rw [show Lib.index (b :: l) sub = if sub.isPrefixOf (b :: l) then 0 else if Lib.index l sub == -1 then -1 else Lib.index l sub + 1 from rfl]
 cases hp : sub.isPrefixOf (b :: l) with
 | true => simp
 | false =>
  simp only [Bool.false_eq_true, if_false, Bool.false_or]
  by_cases h : Lib.index l sub = -1
  ·simp [h]
  ·have hb : (Lib.index l sub == -1) = false := by rw [beq_eq_false_iff_ne]; exact h
   rw [hb]
   simp only [Bool.false_eq_true, if_false, decide_eq_decide]
   omega
theorem contains_skip (p : List UInt8) : ∀ (w l : List UInt8), (32 : UInt8) ∉ w → Lib.contains (w ++ l) (32 :: p) = Lib.contains l (32 :: p)
 | [], l, _ => rfl
 | b :: w, l, h => by
  simp only [List.mem_cons, not_or] at h
  have hb : ((32 : UInt8) == b) = false := by rw [beq_eq_false_iff_ne]; exact h.1
  rw [List.cons_append, contains_step, contains_skip p w l h.2]
  have : (32 :: p).isPrefixOf (b :: (w ++ l)) = false := by simp only [List.isPrefixOf, hb, Bool.false_and]
  rw [this, Bool.false_or]
theorem pre_word : ∀ (U w t : List UInt8), (32 : UInt8) ∉ U → (32 : UInt8) ∉ w → (U ++ [32]).isPrefixOf (w ++ 32 :: t) = (U == w)
 | [], [], t, _, _ => by simp [List.isPrefixOf]
 | [], b :: w, t, _, h => by
  simp only [List.mem_cons, not_or] at h
  have hb : ((32 : UInt8) == b) = false := by rw [beq_eq_false_iff_ne]; exact h.1
  simp only [List.nil_append, List.cons_append, List.isPrefixOf, hb, Bool.false_and]
  rfl
 | a :: U, [], t, h, _ => by
  simp only [List.mem_cons, not_or] at h
  have ha : (a == (32 : UInt8)) = false := by rw [beq_eq_false_iff_ne]; exact fun e => h.1 e.symm
  simp only [List.nil_append, List.cons_append, List.isPrefixOf, ha, Bool.false_and]
  rfl
 | a :: U, b :: w, t, h, h' => by
  simp only [List.mem_cons, not_or] at h h'
  simp only [List.cons_append, List.isPrefixOf]
  rw [pre_word U w t h.2 h'.2]
  rfl
theorem contains_join (U : List UInt8) (hU : (32 : UInt8) ∉ U) : ∀ ws : List (List UInt8), (∀ w ∈ ws, (32 : UInt8) ∉ w) → Lib.contains (joinW ws) (32 :: (U ++ [32])) = ws.any fun w => U == w
 | [], _ => by
  have : (32 :: (U ++ [32])).isPrefixOf [(32 : UInt8)] = false := by cases U <;> simp [List.isPrefixOf]
  rw [joinW, contains_step, this]
  simp [Lib.contains, Lib.index]
 | w :: r, h => by
  obtain ⟨t, ht⟩ := joinW_head r
  have ih := contains_join U hU r fun x hx => h x (by simp [hx])
  rw [joinW, contains_step, contains_skip _ w _ (h w (by simp)), ih, List.any_cons]
  congr 1
  rw [ht]
  show ((32 : UInt8) == 32 && (U ++ [32]).isPrefixOf (w ++ 32 :: t)) = _
  rw [pre_word U w t hU (h w (by simp))]
  rfl
attribute [local irreducible] Ev EvO EvS ExtEv HasBody SGo go
def isS (s : ByteArray) (t : ByteArray) : Bool := s.toList == t.toList
def fun1 (s : ByteArray) : Bool := isS s ⟨#[105, 100]⟩ || (isS s ⟨#[116, 121, 112, 101]⟩ || (isS s ⟨#[108, 97, 98, 101, 108, 115]⟩ || (isS s ⟨#[115, 105, 122, 101]⟩ || (isS s ⟨#[108, 101, 110, 103, 116, 104]⟩ || (isS s ⟨#[110, 111, 100, 101, 115]⟩ ||
 (isS s ⟨#[101, 100, 103, 101, 115]⟩ || (isS s ⟨#[102, 105, 114, 115, 116]⟩ || (isS s ⟨#[108, 97, 115, 116]⟩ || (isS s ⟨#[115, 116, 97, 114, 116]⟩ || (isS s ⟨#[101, 110, 100]⟩ || (isS s ⟨#[97, 98, 115]⟩ || isS s ⟨#[116, 101, 120, 116]⟩)))))))))))
def fun2 (s : ByteArray) : Bool := isS s ⟨#[99, 111, 97, 108, 101, 115, 99, 101]⟩
def ariLo (s : ByteArray) : Int := bif fun1 s then 1 else bif fun2 s then 2 else 0
def ariHi (s : ByteArray) : Int := bif fun1 s then 1 else bif fun2 s then 4 else 0
def aggF (s : ByteArray) : Bool := isS s ⟨#[99, 111, 117, 110, 116]⟩ || (isS s ⟨#[115, 117, 109]⟩ || (isS s ⟨#[109, 105, 110]⟩ || (isS s ⟨#[109, 97, 120]⟩ || (isS s ⟨#[97, 118, 103]⟩ || isS s ⟨#[99, 111, 108, 108, 101, 99, 116]⟩))))
theorem arity_ev (s : ByteArray) : Ev E 325 [.str s] (.tup [.int (ariLo s), .int (ariHi s)]) := by
 refine ye1 func325 ntmps325 fun _ _ _=>?_
 repeat' (first | refine yz ?_ | (refine qV rfl ?_ ?_ <;> intro _))
 all_goals simp_all [ariLo, ariHi, fun1, fun2, isS, Bool.cond_eq_ite]
theorem agg_ev (s : ByteArray) : Ev E 327 [.str s] (.d (.bool (aggF s))) := by
 refine ye1 func327 ntmps327 fun _ _ _=>?_
 repeat' (first | refine yz ?_ | (refine qV rfl ?_ ?_ <;> intro _))
 all_goals (refine congrArg D.bool ?_; simp_all [aggF, isS])
def blankF (v : V) : Bool := v.k == 0 && (v.n == 0 && (v.d == 0 && (s0 v.s && l0 v)))
theorem blank_ev (v : V) : Ev E 326 [enc v] (.d (.bool (blankF v))) := by
 refine ye1 func326 ntmps326 fun _ _ _=>?_
 repeat' (first | refine yz ?_ | (refine yy ?_ ?_ <;> intro _))
 all_goals (refine congrArg D.bool ?_; simp_all [blankF, s0, l0])
def kn0 (e : Ex) : Int := ((kidsE e).length : Int)
def opdF (e : Ex) : Bool :=
 bif e.op == 1 || e.op == 2 then kn0 e == 0 else
 bif e.op == 3 || (e.op == 4 || (e.op == 5 || (e.op == 6 || e.op == 21))) then kn0 e == 1 else
 bif e.op == 22 then decide (kn0 e ≤ 16) else
 bif e.op == 23 then ariLo e.nm == 0 || (decide (kn0 e ≥ ariLo e.nm) && decide (kn0 e ≤ ariHi e.nm)) else
 bif e.op == 24 then kn0 e == 1 || (kn0 e == 0 && (isS e.nm ⟨#[99, 111, 117, 110, 116]⟩ && !e.ds)) else kn0 e == 2
theorem operands_ev (e : Ex) : Ev E 257 [encE e] (.d (.bool (opdF e))) := by
 have ha := arity_ev e.nm
 refine ye1 func257 ntmps257 fun _ _ _=>?_
 repeat' (first | refine yz ?_ | refine yp b325 ha ?_ | (refine yy ?_ ?_ <;> intro _) | (refine qV rfl ?_ ?_ <;> intro _))
 all_goals (refine congrArg D.bool ?_; simp_all [opdF, kn0, isS, Bool.cond_eq_ite] <;> first | rfl | (intro h; exfalso; omega) | (rw [show (ariLo e.nm == 0) = false by rw [beq_eq_false_iff_ne]; assumption]; rfl))
def namF (op : Int) : Bool := op == 2 || (op == 3 || (op == 4 || (op == 23 || op == 24)))
def spareF (e : Ex) : Bool := (e.op == 1 || blankF e.v) && ((namF e.op || isS e.nm ⟨#[]⟩) && (e.op == 24 || !e.ds))
theorem spare_ev (e : Ex) : Ev E 258 [encE e] (.d (.bool (spareF e))) := by
 have hb := blank_ev e.v
 refine ye1 func258 ntmps258 fun _ _ _=>?_
 repeat' (first | refine yz ?_ | refine yp b326 hb ?_ | refine yx ?_ | (refine yy ?_ ?_ <;> intro _))
 all_goals (refine congrArg D.bool ?_; simp_all [spareF, namF, isS])
def constF (v : V) : Bool := blankF v || ((v.k == 1 || (v.k == 2 || v.k == 4)) && Val.okV v)
theorem constant_ev (v : V) : Ev E 259 [enc v] (.d (.bool (constF v))) := by
 have hb := blank_ev v
 have hv := Valid_ev ixOK v
 refine ye1 func259 ntmps259 fun _ _ _=>?_
 repeat' (first | refine yz ?_ | refine yp b326 hb ?_ | refine yp b231 hv ?_ | (refine yy ?_ ?_ <;> intro _))
 all_goals (refine congrArg D.bool ?_; simp_all [constF])
mutual
def nd : Ex → Nat
 | .mk _ _ _ _ l => ndL l + 1
def ndL : List Ex → Nat
 | [] => 0
 | x :: r => nd x + ndL r
end
theorem nd_eq (e : Ex) : nd e = ndL e.ks + 1 := by cases e; simp [nd, Ex.ks]
theorem ndL_mem : ∀ {l : List Ex} {x : Ex}, x ∈ l → nd x ≤ ndL l
 | [], x, h => by simp at h
 | y :: r, x, h => by
  simp only [ndL]
  rcases List.mem_cons.1 h with e | e
  ·rw [e]; omega
  ·have := ndL_mem e; omega
theorem ndL_drop {l : List Ex} {i : Nat} {x : Ex} (h : l[i]? = some x) : ndL (l.drop i) = nd x + ndL (l.drop (i + 1)) := by
 rw [drop_at h]; rfl
structure SNd (l : List Ex) where
 i : Nat
 n : Nat
 hi : i ≤ l.length
 ok : ndL l + 1 = n + ndL (l.drop i)
theorem sizeE_ev (e : Ex) : nd e ≤ 1000000 → Ev E 176 [encE e] (.d (.int (nd e))) := by
 refine xind (P := fun e => nd e ≤ 1000000 → Ev E 176 [encE e] (.d (.int (nd e)))) (fun op v nm ds ks ih hb => ?_) e
 refine Ev.fit fun hfit => ?_
 obtain ⟨-, -, -, hmax, -⟩ := fit_encE (hfit (encE (.mk op v nm ds ks)) (by simp))
 simp only [Ex.ks] at hmax
 have hlen : (kidsE (.mk op v nm ds ks)).length = ks.length := kidsE_len _
 have hnd : nd (.mk op v nm ds ks) = ndL ks + 1 := nd_eq _
 rw [hnd] at hb ⊢
 refine ye1 func176 ntmps176 fun _ _ _=>?_
 repeat' (refine yz ?_)
 refine go_loop_ (α := SNd ks) (fun p => ⟨[(3, .d (.int p.n)), (7, .d (.sl (kidsE (.mk op v nm ds ks)))), (8, .d (.int (kidsE (.mk op v nm ds ks)).length)), (9, .d (.int p.i))], []⟩) (fun p => ks.length - p.i) ⟨0, 1, by omega, by rw [List.drop_zero]; omega⟩ (zle 0) ?_
 rintro ⟨i, n, hi, ok⟩
 dsimp only
 rcases Nat.lt_or_ge i ks.length with hlt | hge
 ·have hd1 : decide ((i : Int) < ((kidsE (.mk op v nm ds ks)).length : Int)) = true := by rw [hlen]; simpa using hlt
  have hx0 := List.getElem?_eq_getElem hlt
  generalize ks[i] = x at hx0
  have hx : (kidsE (.mk op v nm ds ks))[(i : Int).toNat]? = some (encE x) := kidsE_get (e := .mk op v nm ds ks) (by rw [Int.toNat_natCast]; exact hx0)
  have hdr := ndL_drop hx0
  have hm := ndL_mem (List.mem_of_getElem? hx0)
  have hs := ih x (List.mem_of_getElem? hx0) (by omega)
  repeat' (first | refine yz ?_ | refine yi (encE x) hx ?_ | refine yp b176 hs ?_)
  refine go_stop ?_
  refine ⟨⟨i + 1, n + nd x, by omega, by omega⟩, by dsimp only; omega, ?_⟩
  dsimp only
  rw [Int.natCast_add]
  exact (zle 0)
 ·have hd1 : decide ((i : Int) < ((kidsE (.mk op v nm ds ks)).length : Int)) = false := by rw [hlen]; simp; omega
  have : ks.drop i = [] := List.drop_eq_nil_of_le hge
  rw [ok, this]
  repeat' (first | refine yz ?_ | exact zD)
end Go.Proofs.YtenpjlghikohmaaGreatDoor
namespace Go.Proofs.YtenpjlghikohmaaGreatDoor
set_option maxRecDepth 4000
open Go Go.Abs Go.Val Go.Proofs.Tryz
attribute [local irreducible] go SGo HasBody Ev ExtEv EvO EvS
mutual
def dp : Ex → Nat
 | .mk _ _ _ _ l => dpL l + 1
def dpL : List Ex → Nat
 | [] => 0
 | x :: r => max (dp x) (dpL r)
end
theorem dp_eq (e : Ex) : dp e = dpL e.ks + 1 := by cases e; simp [dp, Ex.ks]
theorem dpL_mem : ∀ {l : List Ex} {x : Ex}, x ∈ l → dp x ≤ dpL l
 | [], x, h => by simp at h
 | y :: r, x, h => by
  simp only [dpL]
  rcases List.mem_cons.1 h with e | e
  ·rw [e]; omega
  ·have := dpL_mem e; omega
theorem dpL_drop {l : List Ex} {i : Nat} {x : Ex} (h : l[i]? = some x) : dpL (l.drop i) = max (dp x) (dpL (l.drop (i + 1))) := by
 rw [drop_at h]; rfl
structure SDp (l : List Ex) where
 i : Nat
 n : Nat
 hi : i ≤ l.length
 ok : dpL l = max n (dpL (l.drop i))
theorem depth_ev (e : Ex) : dp e ≤ 1000000 → Ev E 175 [encE e] (.d (.int (dp e))) := by
 refine xind (P := fun e => dp e ≤ 1000000 → Ev E 175 [encE e] (.d (.int (dp e)))) (fun op v nm ds ks ih hb => ?_) e
 refine Ev.fit fun hfit => ?_
 obtain ⟨-, -, -, hmax, -⟩ := fit_encE (hfit (encE (.mk op v nm ds ks)) (by simp))
 simp only [Ex.ks] at hmax
 have hlen : (kidsE (.mk op v nm ds ks)).length = ks.length := kidsE_len _
 have hnd : dp (.mk op v nm ds ks) = dpL ks + 1 := dp_eq _
 rw [hnd] at hb ⊢
 refine ye1 func175 ntmps175 fun _ _ _=>?_
 repeat' (refine yz ?_)
 refine go_loop_ (α := SDp ks) (fun p => ⟨[(3, .d (.int p.n)), (7, .d (.sl (kidsE (.mk op v nm ds ks)))), (8, .d (.int (kidsE (.mk op v nm ds ks)).length)), (9, .d (.int p.i))], []⟩) (fun p => ks.length - p.i) ⟨0, 0, by omega, by rw [List.drop_zero]; omega⟩ (zle 0) ?_
 rintro ⟨i, n, hi, ok⟩
 dsimp only
 rcases Nat.lt_or_ge i ks.length with hlt | hge
 ·have hd1 : decide ((i : Int) < ((kidsE (.mk op v nm ds ks)).length : Int)) = true := by rw [hlen]; simpa using hlt
  have hx0 := List.getElem?_eq_getElem hlt
  generalize ks[i] = x at hx0
  have hx : (kidsE (.mk op v nm ds ks))[(i : Int).toNat]? = some (encE x) := kidsE_get (e := .mk op v nm ds ks) (by rw [Int.toNat_natCast]; exact hx0)
  have hdr := dpL_drop hx0
  have hm := dpL_mem (List.mem_of_getElem? hx0)
  have hs := ih x (List.mem_of_getElem? hx0) (by omega)
  repeat' (first | refine yz ?_ | refine yi (encE x) hx ?_ | refine yp b175 hs ?_)
  refine go_stop ?_
  refine ⟨⟨i + 1, max n (dp x), by omega, by omega⟩, by dsimp only; omega, ?_⟩
  dsimp only
  rw [show ((max n (dp x) : Nat) : Int) = max (n : Int) (dp x : Int) by omega]
  exact (zle 0)
 ·have hd1 : decide ((i : Int) < ((kidsE (.mk op v nm ds ks)).length : Int)) = false := by rw [hlen]; simp; omega
  have : ks.drop i = [] := List.drop_eq_nil_of_le hge
  have hn : n = dpL ks := by rw [ok, this]; simp [dpL]
  subst hn
  repeat' (first | refine yz ?_ | exact zD)
end Go.Proofs.YtenpjlghikohmaaGreatDoor
namespace Go.Proofs.YtenpjlghikohmaaGreatDoor
set_option maxRecDepth 4000
open Go Go.Abs Go.Val Go.RowKit Go.Proofs.Tryz
attribute [local irreducible] go SGo HasBody Ev ExtEv EvO EvS
theorem blt_irr (i : Nat) : Nat.blt i i = false := by
 cases h : Nat.blt i i with
 | false => rfl
 | true => simp at h
def upN (n : Int) : Int := bif decide (n ≥ 97) && decide (n ≤ 122) then n - 32 else n
def rowU (s : ByteArray) (i : Nat) : List D := (List.range s.size).map fun j => D.imm (.int .u8 (bif Nat.blt j i then upN (byteAt s j) else byteAt s j))
def upL (s : ByteArray) (i : Nat) : List Int := (List.range i).map fun j => upN (byteAt s j)
def upF (s : ByteArray) : ByteArray := Go.Abs.strOf (upL s s.size)
theorem upL_len (s : ByteArray) (i : Nat) : (upL s i).length = i := by simp [upL]
theorem rowU_len (s : ByteArray) (i : Nat) : (rowU s i).length = s.size := by simp [rowU]
theorem rowU_get {s : ByteArray} {i j : Nat} (h : j < s.size) : (rowU s i)[j]? = some (D.imm (.int .u8 (bif Nat.blt j i then upN (byteAt s j) else byteAt s j))) := by
 rw [rowU, List.getElem?_map, List.getElem?_range h]; rfl
theorem rowU_zero (s : ByteArray) : rowU s 0 = bytesD s := by
 refine List.ext_getElem? fun j => ?_
 rcases Nat.lt_or_ge j s.size with h | h
 ·rw [rowU_get h, bytesD_at h]; rfl
 ·rw [List.getElem?_eq_none (by rw [rowU_len]; exact h), List.getElem?_eq_none (by rw [bytesD_len]; exact h)]
theorem rowU_set {s : ByteArray} {i : Nat} (h : i < s.size) : (rowU s i).set i (.imm (.int .u8 (upN (byteAt s i)))) = rowU s (i + 1) := by
 refine List.ext_getElem? fun j => ?_
 rcases Nat.lt_or_ge j s.size with hj | hj
 ·rw [List.getElem?_set, rowU_get hj, rowU_get hj]
  by_cases e : i = j
  ·subst e
   rw [if_pos rfl, if_pos (by rw [rowU_len]; exact h), show Nat.blt i (i + 1) = true by simp]
   rfl
  ·rw [if_neg e]
   have : Nat.blt j (i + 1) = Nat.blt j i := by rw [Bool.eq_iff_iff]; simp; omega
   rw [this]
 ·rw [List.getElem?_eq_none (by rw [List.length_set, rowU_len]; exact hj), List.getElem?_eq_none (by rw [rowU_len]; exact hj)]
theorem rowU_same {s : ByteArray} {i : Nat} (h : i < s.size) (hn : upN (byteAt s i) = byteAt s i) : rowU s i = rowU s (i + 1) := by
 rw [← rowU_set h, hn]
 refine List.ext_getElem? fun j => ?_
 rw [List.getElem?_set]
 by_cases e : i = j
 ·subst e
  rw [if_pos rfl, if_pos (by rw [rowU_len]; exact h), rowU_get h, blt_irr]
  rfl
 ·rw [if_neg e]
theorem rowU_end (s : ByteArray) : rowU s s.size = (upL s s.size).map fun n => .imm (.int .u8 n) := by
 refine List.ext_getElem? fun j => ?_
 rcases Nat.lt_or_ge j s.size with hj | hj
 ·rw [rowU_get hj, upL, List.map_map, List.getElem?_map, List.getElem?_range hj, show Nat.blt j s.size = true by simpa using hj]
  rfl
 ·rw [List.getElem?_eq_none (by rw [rowU_len]; exact hj), List.getElem?_eq_none (by rw [List.length_map, upL_len]; exact hj)]
structure SUp (s : ByteArray) where
 i : Nat
 hi : i ≤ s.size
set_option maxHeartbeats 1000000 in
theorem upper_ev (s : ByteArray) : Ev E 256 [.str s] (.d (.str (upF s))) := Ev.fit fun hfit => by
 have hs := (hfit (.str s) (by simp)).str
 have hlen : (bytesD s).length = s.size := bytesD_len s
 refine ye1 func256 ntmps256 fun _ _ _=>?_
 repeat' (first | refine yz ?_ | refine go_bytes rfl rfl rfl rfl rfl rfl rfl rfl ?_)
 rw [hlen, ← rowU_zero]
 refine go_loop_ (α := SUp s) (fun p => ⟨[(3, .own 0), (8, .own 0), (9, .d (.int s.size)), (10, .d (.int p.i))], [.mrow 5 1 (rowU s p.i)]⟩) (fun p => s.size - p.i) ⟨0, by omega⟩ (zle 1) ?_
 rintro ⟨i, hi⟩
 dsimp only
 have hrl := rowU_len s i
 rcases Nat.lt_or_ge i s.size with hlt | hge
 ·have hd1 : decide ((i : Int) < (s.size : Int)) = true := by simpa using hlt
  have hti : (i : Int).toNat = i := Int.toNat_natCast i
  have hx : (rowU s i)[(i : Int).toNat]? = some (.imm (.int .u8 (byteAt s i))) := by rw [hti, rowU_get hlt, blt_irr]; rfl
  have hb := byteAt_rng s i hlt
  cases h1 : decide (byteAt s i ≥ 97) with
  | false =>
   have hn : upN (byteAt s i) = byteAt s i := by unfold upN; rw [h1]; rfl
   repeat' (first | refine yz ?_ | refine go_indexM rfl rfl rfl rfl rfl rfl rfl rfl (by constructor <;> first | omega | (simp; omega) | decide) ?_ | refine go_loadM _ rfl rfl rfl rfl rfl rfl hx rfl ?_ | refine yx ?_)
   refine go_stop ?_
   refine ⟨⟨i + 1, by omega⟩, by dsimp only; omega, ?_⟩
   rw [rowU_same hlt hn]
   exact (zle 1)
  | true =>
   cases h2 : decide (byteAt s i ≤ 122) with
   | false =>
    have hn : upN (byteAt s i) = byteAt s i := by unfold upN; rw [h1, h2]; rfl
    repeat' (first | refine yz ?_ | refine go_indexM rfl rfl rfl rfl rfl rfl rfl rfl (by constructor <;> first | omega | (simp; omega) | decide) ?_ | refine go_loadM _ rfl rfl rfl rfl rfl rfl hx rfl ?_ | refine yx ?_)
    refine go_stop ?_
    refine ⟨⟨i + 1, by omega⟩, by dsimp only; omega, ?_⟩
    rw [rowU_same hlt hn]
    exact (zle 1)
   | true =>
    have h1' := of_decide_eq_true h1
    have h2' := of_decide_eq_true h2
    have hn : byteAt s i - 97 + 65 = upN (byteAt s i) := by unfold upN; rw [h1, h2]; simp; omega
    repeat' (first | refine yz ?_ | refine go_indexM rfl rfl rfl rfl rfl rfl rfl rfl (by constructor <;> first | omega | (simp; omega) | decide) ?_ | refine go_loadM _ rfl rfl rfl rfl rfl rfl hx rfl ?_ | refine go_storeM _ rfl rfl rfl rfl rfl rfl hx rfl rfl rfl ?_ | refine yx ?_)
    refine go_stop ?_
    refine ⟨⟨i + 1, by omega⟩, by dsimp only; omega, ?_⟩
    rw [hti, hn, rowU_set hlt]
    exact (zle 1)
 ·have hd1 : decide ((i : Int) < (s.size : Int)) = false := by simp; omega
  obtain rfl : i = s.size := by omega
  repeat' (refine yz ?_)
  refine go_frzS 0 rfl ?_
  dsimp only [frzT, frzX]
  have he := rowU_end s
  repeat' (first | refine yz ?_ | refine go_convB (upL s s.size) rfl rfl rfl rfl rfl rfl rfl rfl he ?_ | exact zD)
def wordsB : List ByteArray := [⟨#[77, 65, 84, 67, 72]⟩, ⟨#[79, 80, 84, 73, 79, 78, 65, 76]⟩, ⟨#[87, 72, 69, 82, 69]⟩, ⟨#[85, 78, 87, 73, 78, 68]⟩, ⟨#[65, 83]⟩, ⟨#[87, 73, 84, 72]⟩, ⟨#[68, 73, 83, 84, 73, 78, 67, 84]⟩, ⟨#[79, 82, 68, 69, 82]⟩, ⟨#[66, 89]⟩, ⟨#[65, 83, 67]⟩, ⟨#[68, 69, 83, 67]⟩, ⟨#[83, 75, 73, 80]⟩, ⟨#[76, 73, 77, 73, 84]⟩, ⟨#[82, 69, 84, 85, 82, 78]⟩, ⟨#[67, 82, 69, 65, 84, 69]⟩, ⟨#[77, 69, 82, 71, 69]⟩, ⟨#[83, 69, 84]⟩, ⟨#[82, 69, 77, 79, 86, 69]⟩, ⟨#[68, 69, 76, 69, 84, 69]⟩, ⟨#[68, 69, 84, 65, 67, 72]⟩, ⟨#[65, 78, 68]⟩, ⟨#[79, 82]⟩, ⟨#[78, 79, 84]⟩, ⟨#[73, 78]⟩, ⟨#[73, 83]⟩, ⟨#[78, 85, 76, 76]⟩, ⟨#[84, 82, 85, 69]⟩, ⟨#[70, 65, 76, 83, 69]⟩, ⟨#[87, 65, 76, 75]⟩, ⟨#[84, 82, 65, 73, 76]⟩, ⟨#[83, 73, 77, 80, 76, 69]⟩, ⟨#[83, 72, 79, 82, 84, 69, 83, 84]⟩, ⟨#[65, 78, 89]⟩]
def resF (s : ByteArray) : Bool := wordsB.any fun w => w.toList == (upF s).toList
def upB (b : UInt8) : UInt8 := UInt8.ofNat (upN b.toNat).toNat
theorem strOf_list (ns : List Int) : (Go.Abs.strOf ns).data.toList = ns.map fun n => UInt8.ofNat n.toNat := by
 have key : ∀ (ns : List Int) (r : ByteArray), (ns.foldl (fun r n => r.push (UInt8.ofNat n.toNat)) r).data.toList = r.data.toList ++ ns.map fun n => UInt8.ofNat n.toNat := by
  intro ns
  induction ns with
  | nil => intro r; simp
  | cons n ns ih =>
   intro r
   rw [List.foldl_cons, ih]
   simp [ByteArray.push]
 have := key ns ByteArray.empty
 unfold Go.Abs.strOf
 rw [this]
 simp
theorem upF_list (s : ByteArray) : (upF s).data.toList = s.data.toList.map upB := by
 unfold upF
 rw [strOf_list]
 refine List.ext_getElem? fun j => ?_
 have hl : s.data.toList.length = s.size := by simp
 rcases Nat.lt_or_ge j s.size with hj | hj
 ·have hx := List.getElem?_eq_getElem (show j < s.data.toList.length by omega)
  rw [List.getElem?_map, upL, List.getElem?_map, List.getElem?_range hj, List.getElem?_map, hx]
  simp only [Option.map_some, upB, byteAt, List.getD_eq_getElem?_getD, hx, Option.getD_some]
 ·rw [List.getElem?_eq_none (by rw [List.length_map, upL_len]; exact hj), List.getElem?_eq_none (by rw [List.length_map]; omega)]
theorem upB_32 (b : UInt8) : upB b = 32 ↔ b = 32 := by
 have key : ∀ c : Fin 256, (upB (UInt8.ofFin c) = 32) = (UInt8.ofFin c = 32) := by
  intro c
  revert c
  decide +kernel
 have hb : b = UInt8.ofFin b.toFin := by rfl
 rw [hb]
 exact iff_of_eq (key b.toFin)
theorem contains_blank : ∀ l : List UInt8, Lib.contains l [32] = decide ((32 : UInt8) ∈ l)
 | [] => by simp [Lib.contains, Lib.index]
 | b :: l => by
  rw [contains_step, contains_blank l]
  have : ([32] : List UInt8).isPrefixOf (b :: l) = ((32 : UInt8) == b) := by simp only [List.isPrefixOf, Bool.and_true]
  rw [this, Bool.eq_iff_iff, Bool.or_eq_true, beq_iff_eq, decide_eq_true_eq, decide_eq_true_eq, List.mem_cons]
theorem up_blank (s : ByteArray) : (32 : UInt8) ∈ (upF s).data.toList ↔ (32 : UInt8) ∈ s.data.toList := by
 rw [upF_list, List.mem_map]
 constructor
 ·rintro ⟨b, h1, h2⟩
  rw [(upB_32 b).1 h2] at h1
  exact h1
 ·intro h
  exact ⟨32, h, (upB_32 32).2 rfl⟩
theorem words_blank : ∀ w ∈ wordsB.map (·.data.toList), (32 : UInt8) ∉ w := by
 have : (wordsB.map (·.data.toList)).all (fun w => !w.contains 32) = true := by decide
 intro w hw hm
 have := List.all_eq_true.1 this w hw
 simp [List.contains_iff_mem] at this
 exact this hm
theorem any_words (U : List UInt8) : ((wordsB.map (·.data.toList)).any fun w => U == w) = wordsB.any fun w => w.data.toList == U := by
 rw [List.any_map]
 congr 1
 funext w
 simp only [Function.comp]
 rw [Bool.eq_iff_iff, beq_iff_eq, beq_iff_eq]
 exact ⟨fun h => h.symm, fun h => h.symm⟩
theorem resF_data (s : ByteArray) : resF s = wordsB.any fun w => w.data.toList == (upF s).data.toList := by
 unfold resF
 simp only [ByteArray.toList_eq]
theorem res_eq (s : ByteArray) (h : Lib.contains s.data.toList [32] = false) : Lib.contains (joinW (wordsB.map (·.data.toList))) (32 :: ((upF s).data.toList ++ [32])) = resF s := by
 rw [contains_blank, decide_eq_false_iff_not] at h
 rw [contains_join _ (fun hm => h ((up_blank s).1 hm)) _ words_blank, any_words, resF_data]
theorem res_blank (s : ByteArray) (h : Lib.contains s.data.toList [32] = true) : resF s = false := by
 rw [contains_blank, decide_eq_true_eq] at h
 rw [resF_data, List.any_eq_false]
 intro w hw he
 have e := eq_of_beq he
 refine words_blank _ (List.mem_map_of_mem hw) ?_
 rw [e]
 exact (up_blank s).2 h
theorem contains_ev (s sub : ByteArray) (hs : s.size < 4294967281) : Ev E 255 [.str s, .str sub] (.d (.bool (Lib.contains s.data.toList sub.data.toList))) := by
 refine of_lib2 rfl fun w F hG _ _ => ?_
 obtain ⟨-, -, m, hm⟩ := hG.2
 refine (Tryz.strings_Contains s sub m w hs hm).mono ?_
 rintro e w' ⟨rfl, rfl⟩
 exact ⟨rfl, Below.refl _ _⟩
end Go.Proofs.YtenpjlghikohmaaGreatDoor
