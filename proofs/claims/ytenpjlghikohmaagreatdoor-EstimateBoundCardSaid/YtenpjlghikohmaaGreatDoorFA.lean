/- Expressions as plain trees, how they are written as data, and the weighing of expressions by the law's own text; Names of the language: letters, names, by both texts; A word between blanks in a text of words between blanks: it is one of them; The functions' numbers of operands and the aggregates' names, by both texts; Blank constants, numbers of operands, unused fields, by both texts; The size of an expression, by both texts; The depth of an expression, by both texts; Upper case and the reserved words, by both texts; The reserved words, by both texts. Conditions: each part's own, as it says. -/
import Derived.Test.YtenpjlghikohmaaGreatDoorGC
import Derived.Test.YtenpjlghikohmaaGreatDoorMA
import Derived.Lib.IndexMore
import Derived.Test.YtenpjlghikohmaaGreatDoorGB
set_option linter.unusedVariables false
set_option linter.unusedSimpArgs false
namespace Go.Proofs.YtenpjlghikohmaaGreatDoor
set_option maxRecDepth 4000
open Go Go.Abs Go.Val Go.Proofs.Tryz
attribute [local irreducible] go SGo HasBody Ev ExtEv EvO EvS
inductive Ex where
 | mk (op : Int) (v : V) (nm : ByteArray) (ds : Bool) (ks : List Ex)
 deriving Inhabited
def Ex.op : Ex → Int | .mk op _ _ _ _ => op
def Ex.v : Ex → V | .mk _ v _ _ _ => v
def Ex.nm : Ex → ByteArray | .mk _ _ nm _ _ => nm
def Ex.ds : Ex → Bool | .mk _ _ _ ds _ => ds
def Ex.ks : Ex → List Ex | .mk _ _ _ _ ks => ks
theorem Ex.eta (e : Ex) : Ex.mk e.op e.v e.nm e.ds e.ks = e := by cases e; rfl
mutual
def kidsE : Ex → List D
 | .mk _ _ _ _ l => encEL l
def encEL : List Ex → List D
 | [] => []
 | e :: r => .agg [.int e.op, .int e.v.k, .int e.v.n, .int e.v.d, .str e.v.s, .sl (kids e.v), .str e.nm, .bool e.ds, .sl (kidsE e)] :: encEL r
end
end Go.Proofs.YtenpjlghikohmaaGreatDoor
namespace Go.Proofs.YtenpjlghikohmaaGreatDoor
set_option maxRecDepth 4000
open Go Go.Abs Go.Val Go.Proofs.Tryz
attribute [local irreducible] go SGo HasBody Ev ExtEv EvO EvS
def letF (n : Int) : Bool := (decide (n ≥ 97) && decide (n ≤ 122)) || (decide (n ≥ 65) && decide (n ≤ 90))
def wcF (n : Int) : Bool := letF n || ((decide (n ≥ 48) && decide (n ≤ 57)) || n == 95)
def nameF (s : ByteArray) : Bool := decide (1 ≤ s.size) && (decide (s.size ≤ 20) && (letF (byteAt s 0) && (List.range s.size).all fun j => wcF (byteAt s j)))
theorem letter_ev (n : Int) : Ev E 216 [.imm (.int .u8 n)] (.d (.bool (letF n))) := by
 refine ye1 func216 ntmps216 fun _ _ _=>?_
 repeat' (first | refine yz ?_ | (refine yy ?_ ?_ <;> intro _))
 all_goals (refine congrArg D.bool ?_; simp_all [letF] <;> omega)
structure SNm (s : ByteArray) where
 i : Nat
 hi : i ≤ s.size
 ok : ((List.range s.size).all fun j => wcF (byteAt s j)) = ((List.range s.size).drop i).all fun j => wcF (byteAt s j)
theorem range_at {n i : Nat} (h : i < n) : (List.range n)[i]? = some i := by rw [List.getElem?_range h]
theorem byteAt_rng (s : ByteArray) (i : Nat) (h : i < s.size) : 0 ≤ byteAt s i ∧ byteAt s i ≤ 255 := by
 obtain ⟨b, -, hb2⟩ := cOK_at h
 rw [hb2]
 have := b.toNat_lt
 omega
set_option maxHeartbeats 2000000 in
theorem name_ev (s : ByteArray) : Ev E 122 [.str s] (.d (.bool (nameF s))) := Ev.fit fun hfit => by
 have hs := (hfit (.str s) (by simp)).str
 by_cases h0 : s.size = 0
 ·have hse : s = ByteArray.empty := by simpa using h0
  have gs : (s.toList == (⟨#[]⟩ : ByteArray).toList) = true := by rw [hse]; exact beq_self_eq_true ByteArray.empty.toList
  have e : nameF s = false := by unfold nameF; rw [h0]; rfl
  rw [e]
  refine ye1 func122 ntmps122 fun _ _ _=>?_
  repeat' (first | refine yz ?_ | refine yx ?_ | exact zD)
 have g0 : (s.toList == (⟨#[]⟩ : ByteArray).toList) = false := by
  rw [beq_eq_false_iff_ne]
  intro e
  rw [ByteArray.toList_eq, ByteArray.toList_eq] at e
  have := congrArg List.length e
  simp at this
  exact h0 (by rw [this]; rfl)
 cases h20 : decide (s.size ≤ 20) with
 | false =>
  have g1 : decide ((s.size : Int) > 20) = true := by simp at h20 ⊢; omega
  have e : nameF s = false := by unfold nameF; rw [h20]; simp
  rw [e]
  refine ye1 func122 ntmps122 fun _ _ _=>?_
  repeat' (first | refine yz ?_ | refine yx ?_ | exact zD)
 | true =>
  have g1 : decide ((s.size : Int) > 20) = false := by simp at h20 ⊢; omega
  have hb0 := byteAt_rng s 0 (by omega)
  have hl := letter_ev (byteAt s 0)
  cases hl0 : letF (byteAt s 0) with
  | false =>
   rw [hl0] at hl
   have e : nameF s = false := by unfold nameF; rw [hl0]; simp
   rw [e]
   refine ye1 func122 ntmps122 fun _ _ _=>?_
   repeat' (first | refine yz ?_ | refine yp b216 hl ?_ | refine yx ?_ | exact zD)
  | true =>
   rw [hl0] at hl
   have e : nameF s = (List.range s.size).all fun j => wcF (byteAt s j) := by
    unfold nameF; rw [hl0, h20, show decide (1 ≤ s.size) = true by simp; omega]; rfl
   rw [e]
   refine ye1 func122 ntmps122 fun _ _ _=>?_
   repeat' (first | refine yz ?_ | refine yp b216 hl ?_ | refine yx ?_)
   refine go_loop_ (α := SNm s) (fun p => ⟨[(0, .d (.str s)), (18, .d (.int s.size)), (19, .d (.int p.i))], []⟩) (fun p => s.size - p.i) ⟨0, by omega, rfl⟩ (zle 0) ?_
   rintro ⟨i, hi, ok⟩
   dsimp only
   rcases Nat.lt_or_ge i s.size with hlt | hge
   ·have hd : decide ((i : Int) < (s.size : Int)) = true := by simpa using hlt
    have hb := byteAt_rng s i hlt
    rw [ok, drop_at (range_at hlt), List.all_cons]
    have hli := letter_ev (byteAt s i)
    have hti : (i : Int).toNat = i := Int.toNat_natCast i
    rw [← hti] at hli hb
    cases hl1 : letF (byteAt s (i : Int).toNat) with
    | true =>
     rw [hl1] at hli
     rw [hti] at hl1
     have hw : wcF (byteAt s i) = true := by unfold wcF; rw [hl1]; rfl
     repeat' (first | refine yz ?_ | refine yp b216 hli ?_)
     refine go_stop ?_
     exact ⟨⟨i + 1, by omega, by rw [ok, drop_at (range_at hlt), List.all_cons, hw, Bool.true_and]⟩, by dsimp only; omega, (zle 0)⟩
    | false =>
     rw [hl1] at hli
     have key : ∀ b, ((decide (byteAt s i ≥ 48) && decide (byteAt s i ≤ 57)) || byteAt s i == 95) = b → wcF (byteAt s i) = b := by
      intro b hb
      unfold wcF
      rw [← hti, hl1, hti, hb, Bool.false_or]
     cases h48 : decide (byteAt s (i : Int).toNat < 48) with
     | true =>
      cases h95 : byteAt s (i : Int).toNat != 95 with
      | true =>
       have hw : wcF (byteAt s i) = false := key _ (by rw [hti] at h48 h95; simp at h48 h95 ⊢; exact ⟨fun h => by omega, h95⟩)
       repeat' (first | refine yz ?_ | refine yp b216 hli ?_ | refine yx ?_)
       rw [hw]; rfl
      | false =>
       have hw : wcF (byteAt s i) = true := key _ (by rw [hti] at h48 h95; simp at h48 h95 ⊢; exact .inr h95)
       repeat' (first | refine yz ?_ | refine yp b216 hli ?_ | refine yx ?_)
       refine go_stop ?_
       exact ⟨⟨i + 1, by omega, by rw [ok, drop_at (range_at hlt), List.all_cons, hw, Bool.true_and]⟩, by dsimp only; omega, (zle 0)⟩
     | false =>
      cases h57 : decide (byteAt s (i : Int).toNat > 57) with
      | false =>
       have hw : wcF (byteAt s i) = true := key _ (by rw [hti] at h48 h57; simp at h48 h57 ⊢; exact .inl ⟨h48, h57⟩)
       repeat' (first | refine yz ?_ | refine yp b216 hli ?_ | refine yx ?_)
       refine go_stop ?_
       exact ⟨⟨i + 1, by omega, by rw [ok, drop_at (range_at hlt), List.all_cons, hw, Bool.true_and]⟩, by dsimp only; omega, (zle 0)⟩
      | true =>
       cases h95 : byteAt s (i : Int).toNat != 95 with
       | true =>
        have hw : wcF (byteAt s i) = false := key _ (by rw [hti] at h48 h57 h95; simp at h48 h57 h95 ⊢; exact ⟨fun h => by omega, h95⟩)
        repeat' (first | refine yz ?_ | refine yp b216 hli ?_ | refine yx ?_)
        rw [hw]; rfl
       | false =>
        have hw : wcF (byteAt s i) = true := key _ (by rw [hti] at h95; simp at h95 ⊢; exact .inr h95)
        repeat' (first | refine yz ?_ | refine yp b216 hli ?_ | refine yx ?_)
        refine go_stop ?_
        exact ⟨⟨i + 1, by omega, by rw [ok, drop_at (range_at hlt), List.all_cons, hw, Bool.true_and]⟩, by dsimp only; omega, (zle 0)⟩
   ·have hd : decide ((i : Int) < (s.size : Int)) = false := by simp; omega
    have : (List.range s.size).drop i = [] := List.drop_eq_nil_of_le (by simpa using hge)
    rw [ok, this]
    repeat' (first | refine yz ?_ | exact zD)
end Go.Proofs.YtenpjlghikohmaaGreatDoor
namespace Go.Proofs.YtenpjlghikohmaaGreatDoor
set_option maxRecDepth 4000
open Go Go.Abs Go.Val Go.Proofs.Tryz
def joinW : List (List UInt8) → List UInt8
 | [] => [32]
 | w :: r => 32 :: (w ++ joinW r)
attribute [local irreducible] Ev EvO EvS ExtEv HasBody SGo go
def isS (s : ByteArray) (t : ByteArray) : Bool := s.toList == t.toList
def fun1 (s : ByteArray) : Bool := isS s ⟨#[105, 100]⟩ || (isS s ⟨#[116, 121, 112, 101]⟩ || (isS s ⟨#[108, 97, 98, 101, 108, 115]⟩ || (isS s ⟨#[115, 105, 122, 101]⟩ || (isS s ⟨#[108, 101, 110, 103, 116, 104]⟩ || (isS s ⟨#[110, 111, 100, 101, 115]⟩ ||
 (isS s ⟨#[101, 100, 103, 101, 115]⟩ || (isS s ⟨#[102, 105, 114, 115, 116]⟩ || (isS s ⟨#[108, 97, 115, 116]⟩ || (isS s ⟨#[115, 116, 97, 114, 116]⟩ || (isS s ⟨#[101, 110, 100]⟩ || (isS s ⟨#[97, 98, 115]⟩ || isS s ⟨#[116, 101, 120, 116]⟩)))))))))))
def fun2 (s : ByteArray) : Bool := isS s ⟨#[99, 111, 97, 108, 101, 115, 99, 101]⟩
def ariLo (s : ByteArray) : Int := bif fun1 s then 1 else bif fun2 s then 2 else 0
def ariHi (s : ByteArray) : Int := bif fun1 s then 1 else bif fun2 s then 4 else 0
def blankF (v : V) : Bool := v.k == 0 && (v.n == 0 && (v.d == 0 && (s0 v.s && l0 v)))
def kn0 (e : Ex) : Int := ((kidsE e).length : Int)
def opdF (e : Ex) : Bool :=
 bif e.op == 1 || e.op == 2 then kn0 e == 0 else
 bif e.op == 3 || (e.op == 4 || (e.op == 5 || (e.op == 6 || e.op == 21))) then kn0 e == 1 else
 bif e.op == 22 then decide (kn0 e ≤ 16) else
 bif e.op == 23 then ariLo e.nm == 0 || (decide (kn0 e ≥ ariLo e.nm) && decide (kn0 e ≤ ariHi e.nm)) else
 bif e.op == 24 then kn0 e == 1 || (kn0 e == 0 && (isS e.nm ⟨#[99, 111, 117, 110, 116]⟩ && !e.ds)) else kn0 e == 2
def constF (v : V) : Bool := blankF v || ((v.k == 1 || (v.k == 2 || v.k == 4)) && Val.okV v)
open Go.RowKit
def upN (n : Int) : Int := bif decide (n ≥ 97) && decide (n ≤ 122) then n - 32 else n
def upL (s : ByteArray) (i : Nat) : List Int := (List.range i).map fun j => upN (byteAt s j)
def upF (s : ByteArray) : ByteArray := Go.Abs.strOf (upL s s.size)
def wordsB : List ByteArray := [⟨#[77, 65, 84, 67, 72]⟩, ⟨#[79, 80, 84, 73, 79, 78, 65, 76]⟩, ⟨#[87, 72, 69, 82, 69]⟩, ⟨#[85, 78, 87, 73, 78, 68]⟩, ⟨#[65, 83]⟩, ⟨#[87, 73, 84, 72]⟩, ⟨#[68, 73, 83, 84, 73, 78, 67, 84]⟩, ⟨#[79, 82, 68, 69, 82]⟩, ⟨#[66, 89]⟩, ⟨#[65, 83, 67]⟩, ⟨#[68, 69, 83, 67]⟩, ⟨#[83, 75, 73, 80]⟩, ⟨#[76, 73, 77, 73, 84]⟩, ⟨#[82, 69, 84, 85, 82, 78]⟩, ⟨#[67, 82, 69, 65, 84, 69]⟩, ⟨#[77, 69, 82, 71, 69]⟩, ⟨#[83, 69, 84]⟩, ⟨#[82, 69, 77, 79, 86, 69]⟩, ⟨#[68, 69, 76, 69, 84, 69]⟩, ⟨#[68, 69, 84, 65, 67, 72]⟩, ⟨#[65, 78, 68]⟩, ⟨#[79, 82]⟩, ⟨#[78, 79, 84]⟩, ⟨#[73, 78]⟩, ⟨#[73, 83]⟩, ⟨#[78, 85, 76, 76]⟩, ⟨#[84, 82, 85, 69]⟩, ⟨#[70, 65, 76, 83, 69]⟩, ⟨#[87, 65, 76, 75]⟩, ⟨#[84, 82, 65, 73, 76]⟩, ⟨#[83, 73, 77, 80, 76, 69]⟩, ⟨#[83, 72, 79, 82, 84, 69, 83, 84]⟩, ⟨#[65, 78, 89]⟩]
def resF (s : ByteArray) : Bool := wordsB.any fun w => w.toList == (upF s).toList
end Go.Proofs.YtenpjlghikohmaaGreatDoor
