/- What the law's own same comes to; What the specification's weighing of values comes to; What the specification's test of smallness comes to; What the law's test of smallness comes to; The specification's wide numbers: their value, and what times, plus, minus, order and sum come to; The specification's product of wide numbers; The specification's sums of wide numbers; The specification's sum of signed wide numbers, and its comparison of fractions; The program's wide numbers and its comparison of fractions; Numbers and strings as text, by both texts; Values as text, by both texts; The program's . Conditions: each part's own, as it says. -/
import Derived.Test.YtmfjfclpdmpncaaGreatDoorGC
import Derived.Test.YtmfjfclpdmpncaaGreatDoorMA
import Derived.Test.YtmfjfclpdmpncaaGreatDoorGA
import Derived.Test.YtmfjfclpdmpncaaGreatDoorGB
import Derived.Shelf.Spec.BitsCarry
import Derived.Lib.ReplaceLaws
set_option linter.unusedVariables false
set_option linter.unusedSimpArgs false
/- What the law's own same comes to. Conditions: none. -/
namespace Go.Proofs.YtmfjfclpdmpncaaGreatDoor
set_option maxRecDepth 4000
open Go Go.Abs Go.Val
attribute [local irreducible] go SGo HasBody Ev

theorem vind {P : V → Prop} (h : ∀ (k n d : Int) (s : ByteArray) (l : List V), (∀ x ∈ l, P x) → P (.mk k n d s l)) (v : V) : P v :=
  V.rec (motive_1 := P) (motive_2 := fun l => ∀ x ∈ l, P x) (fun k n d s l ih => h k n d s l ih) (fun x hx => by simp at hx)
    (fun a r ha hr x hx => by
      rcases List.mem_cons.1 hx with e | e
      · rw [e]; exact ha
      · exact hr x e) v
end Go.Proofs.YtmfjfclpdmpncaaGreatDoor

/- What the specification's weighing of values comes to. Conditions: the budget is between -1 and 2^40. -/
namespace Go.Proofs.YtmfjfclpdmpncaaGreatDoor
set_option maxRecDepth 4000
open Go Go.Abs Go.Val
attribute [local irreducible] go SGo HasBody Ev

end Go.Proofs.YtmfjfclpdmpncaaGreatDoor

/- What the specification's test of smallness comes to. Conditions: the budget is between 0 and 2^40. -/
namespace Go.Proofs.YtmfjfclpdmpncaaGreatDoor
set_option maxRecDepth 4000
open Go Go.Abs Go.Val
attribute [local irreducible] go SGo HasBody Ev

end Go.Proofs.YtmfjfclpdmpncaaGreatDoor

/- What the law's test of smallness comes to. Conditions: none. -/
namespace Go.Proofs.YtmfjfclpdmpncaaGreatDoor
set_option maxRecDepth 4000
open Go Go.Abs Go.Val
attribute [local irreducible] go SGo HasBody Ev
end Go.Proofs.YtmfjfclpdmpncaaGreatDoor

/- The specification's wide numbers: their value, and what times, plus, minus, order and sum come to. Conditions: the bounds of each lemma. -/
namespace Go.Proofs.YtmfjfclpdmpncaaGreatDoor
set_option maxRecDepth 4000
open Go Go.Abs Go.Val
attribute [local irreducible] go SGo HasBody Ev

end Go.Proofs.YtmfjfclpdmpncaaGreatDoor

/- The specification's product of wide numbers. Conditions: both factors between 0 and 10^15. -/
namespace Go.Proofs.YtmfjfclpdmpncaaGreatDoor
set_option maxRecDepth 4000
open Go Go.Abs Go.Val
attribute [local irreducible] go SGo HasBody Ev



end Go.Proofs.YtmfjfclpdmpncaaGreatDoor

/- The specification's sums of wide numbers. Conditions: fourteen digits each. -/
namespace Go.Proofs.YtmfjfclpdmpncaaGreatDoor
set_option maxRecDepth 4000
open Go Go.Abs Go.Val
attribute [local irreducible] go SGo HasBody Ev

end Go.Proofs.YtmfjfclpdmpncaaGreatDoor

/- The specification's sum of signed wide numbers, and its comparison of fractions. Conditions: magnitudes up to 10^30. -/
namespace Go.Proofs.YtmfjfclpdmpncaaGreatDoor
set_option maxRecDepth 4000
open Go Go.Abs Go.Val
attribute [local irreducible] go SGo HasBody Ev


/-! ## Comparison -/
end Go.Proofs.YtmfjfclpdmpncaaGreatDoor

/- The program's wide numbers and its comparison of fractions. Conditions: the bounds of each lemma. -/
namespace Go.Proofs.YtmfjfclpdmpncaaGreatDoor
set_option maxRecDepth 4000
open Go Go.Abs Go.Val
attribute [local irreducible] go SGo HasBody Ev ExtEv

end Go.Proofs.YtmfjfclpdmpncaaGreatDoor

/- Numbers and strings as text, by both texts. Conditions: the bounds of each lemma. -/
namespace Go.Proofs.YtmfjfclpdmpncaaGreatDoor
set_option maxRecDepth 4000
open Go Go.Abs Go.Val Go.RowKit

/-- A string of these bytes. -/
def bs (l : List UInt8) : ByteArray := ⟨l.toArray⟩
theorem bs_append (a b : List UInt8) : bs a ++ bs b = bs (a ++ b) := by
  apply ByteArray.ext
  simp [bs, ByteArray.data_append]
theorem bs_list (s : ByteArray) : bs s.data.toList = s := by
  cases s
  simp [bs]
theorem bs_size (l : List UInt8) : (bs l).size = l.length := by simp [bs, ByteArray.size]
theorem bs_data (l : List UInt8) : (bs l).data.toList = l := by simp [bs]
theorem strOf_one (n : Int) : strOf [n] = bs [UInt8.ofNat n.toNat] := rfl
/-- The digits of a number; none for 0. -/
def dd (u : Nat) : List UInt8 := if u = 0 then [] else Lib.decDigits u
theorem dd_step {u : Nat} (h : u ≠ 0) : dd u = dd (u / 10) ++ [UInt8.ofNat (48 + u % 10)] := by
  unfold dd
  rw [if_neg h, Lib.decDigits]
  by_cases h10 : u < 10
  · rw [dif_pos h10, if_pos (by omega), List.nil_append, Nat.mod_eq_of_lt h10]
  · rw [dif_neg h10, if_neg (by omega)]
theorem dd_len {u : Nat} (h : u < 18446744073709551616) : (dd u).length ≤ 20 := by
  unfold dd
  split
  · simp
  · rw [Lib.decDigits_length]; exact Lib.nDigits_le20 u h
structure ST (n : Int) where
  m : Int
  s : List UInt8
  hm : m.natAbs ≤ n.natAbs
  hs : dd n.natAbs = dd m.natAbs ++ s
end Go.Proofs.YtmfjfclpdmpncaaGreatDoor
namespace Go.Proofs.YtmfjfclpdmpncaaGreatDoor
open Go Go.Abs Go.Val Go.RowKit
attribute [local irreducible] go SGo HasBody Ev ExtEv
theorem rtext_ev (n : Int) : Ev E 360 [.int n] (.d (.str (bs (Lib.itoa n)))) := Ev.fit fun hfit => by
  have hn := (hfit (.int n) (by simp)).int
  simp only [inR] at hn
  by_cases h0 : n = 0
  · subst h0
    have e : bs (Lib.itoa 0) = ⟨#[48]⟩ := by simp [bs, Lib.itoa, Lib.decDigits]
    rw [e]
    refine enter1 Tryz.func360 Tryz.ntmps360 rfl rfl fun w0 F0 O => ?_
    repeat' (first | refine zS rfl ?_ | refine qA ?_ | refine qB rfl ?_ | refine qD ?_ | refine zT rfl ?_ | refine qL rfl rfl ?_ | exact zD)
  · have g0 : (n == 0) = false := by simpa using h0
    have hdd : (dd n.natAbs).length ≤ 20 := dd_len (by omega)
    have he : dd n.natAbs = Lib.decDigits n.natAbs := by unfold dd; rw [if_neg (by omega)]
    refine enter1 Tryz.func360 Tryz.ntmps360 rfl rfl fun w0 F0 O => ?_
    repeat' (first | refine zS rfl ?_ | refine qA ?_ | refine qB rfl ?_ | refine qD ?_ | refine qE ?_ | refine qF ?_ | refine zU rfl ?_)
    refine go_loop_ (α := ST n) (fun p => ⟨[(0, .d (.int n)), (3, .d (.str (bs p.s))), (4, .d (.int p.m))], []⟩) (fun p => p.m.natAbs) ⟨n, [], Nat.le_refl _, by simp⟩ ((zle 0)) ?_
    rintro ⟨m, s, hm, hs⟩
    dsimp only
    by_cases hz : m = 0
    · subst hz
      have g1 : ((0 : Int) != 0) = false := rfl
      have hs' : s = Lib.decDigits n.natAbs := by rw [← he, hs]; rfl
      by_cases hneg : n < 0
      · have g2 : decide (n < 0) = true := by simpa using hneg
        have e : bs (Lib.itoa n) = ⟨#[45]⟩ ++ bs s := by
          show _ = bs [45] ++ bs s
          rw [bs_append, Lib.itoa, if_pos hneg, hs']
          rfl
        rw [e]
        have hsz : (bs s).size ≤ 20 := by rw [bs_size, hs', ← he]; exact hdd
        have hone : (⟨#[45]⟩ : ByteArray).size = 1 := rfl
        repeat' (first | refine zS rfl ?_ | refine qA ?_ | refine qB rfl ?_ | refine qD ?_ | refine qH rfl ?_ | refine zT rfl ?_ | refine zU rfl ?_ | refine qL rfl rfl ?_ | exact zD)
      · have g2 : decide (n < 0) = false := by simpa using hneg
        have e : bs (Lib.itoa n) = bs s := by rw [Lib.itoa, if_neg hneg, hs', show n.natAbs = n.toNat by omega]
        rw [e]
        repeat' (first | refine zS rfl ?_ | refine qA ?_ | refine qB rfl ?_ | refine qD ?_ | refine qE ?_ | refine qH rfl ?_ | refine zU rfl ?_ | refine qL rfl rfl ?_ | exact zD)
    · have g1 : (m != 0) = true := by simpa using hz
      have hstep := dd_step (u := m.natAbs) (by omega)
      have hq : (m.tdiv 10).natAbs = m.natAbs / 10 := by
        rw [Int.natAbs_tdiv]; rfl
      have hr : (m.tmod 10).natAbs = m.natAbs % 10 := by
        rw [Int.natAbs_tmod]; rfl
      have hr9 : -9 ≤ m.tmod 10 ∧ m.tmod 10 ≤ 9 := by omega
      have hlen : s.length ≤ 20 := by
        have := congrArg List.length hs
        rw [List.length_append] at this
        omega
      have hsz : (bs s).size ≤ 20 := by rw [bs_size]; exact hlen
      have key : ∀ d : Int, d = (m.tmod 10).natAbs → strOf [48 + d] ++ bs s = bs (UInt8.ofNat (48 + m.natAbs % 10) :: s) ∧ (strOf [48 + d]).size = 1 := by
        intro d hd
        refine ⟨?_, strOf_size _⟩
        rw [strOf_one, bs_append, show (48 + d).toNat = 48 + m.natAbs % 10 by omega]
        rfl
      by_cases hneg : m.tmod 10 < 0
      · have g2 : decide (m.tmod 10 < 0) = true := by simpa using hneg
        obtain ⟨k1, k2⟩ := key (0 - m.tmod 10) (by omega)
        repeat' (first | refine zS rfl ?_ | refine qA ?_ | refine qB rfl ?_ | refine qD ?_ | refine qE ?_ | refine qF ?_ | refine qG ?_ | refine zT rfl ?_)
        refine go_stop ?_
        rw [k1]
        exact ⟨⟨m.tdiv 10, _, by omega, by rw [hs, hstep, hq, List.append_assoc, List.singleton_append]⟩, by dsimp only; omega, (zle 0)⟩
      · have g2 : decide (m.tmod 10 < 0) = false := by simpa using hneg
        obtain ⟨k1, k2⟩ := key (m.tmod 10) (by omega)
        repeat' (first | refine zS rfl ?_ | refine qA ?_ | refine qB rfl ?_ | refine qD ?_ | refine qE ?_ | refine qF ?_ | refine qG ?_ | refine zT rfl ?_ | refine zU rfl ?_)
        refine go_stop ?_
        rw [k1]
        exact ⟨⟨m.tdiv 10, _, by omega, by rw [hs, hstep, hq, List.append_assoc, List.singleton_append]⟩, by dsimp only; omega, (zle 0)⟩
/-- A string with each quote doubled. -/
def dbl (l : List UInt8) : List UInt8 := l.flatMap fun b => bif b == 39 then [39, 39] else [b]
theorem dbl_len : ∀ l : List UInt8, (dbl l).length ≤ 2 * l.length
  | [] => by simp [dbl]
  | b :: r => by
    have := dbl_len r
    have e : dbl (b :: r) = (bif b == 39 then [39, 39] else [b]) ++ dbl r := rfl
    rw [e, List.length_append, List.length_cons]
    cases b == 39 <;> simp <;> omega
structure SD1 (l : List UInt8) where
  i : Nat
  s : List UInt8
  hi : i ≤ l.length
  hs : s ++ dbl (l.drop i) = dbl l
theorem doubled_ev (s : ByteArray) (h : s.size ≤ 1000000000000000000) : Ev E 361 [.str s] (.d (.str (bs (dbl s.data.toList)))) := by
  have hl : s.data.toList.length = s.size := by simp
  have hd2 := dbl_len s.data.toList
  refine enter1 Tryz.func361 Tryz.ntmps361 rfl rfl fun w0 F0 O => ?_
  repeat' (first | refine zS rfl ?_ | refine qA ?_ | refine qB rfl ?_ | refine qD ?_ | refine qF ?_)
  refine go_loop_ (α := SD1 s.data.toList) (fun p => ⟨[(0, .d (.str s)), (3, .d (.str (bs p.s))), (4, .d (.int p.i))], []⟩) (fun p => s.size - p.i) ⟨0, [], by omega, rfl⟩ ((zle 0)) ?_
  rintro ⟨i, t, hi, hs⟩
  dsimp only
  have htl : t.length ≤ 2 * s.size := by
    have := congrArg List.length hs
    rw [List.length_append] at this
    omega
  have hts : (bs t).size ≤ 2 * s.size := by rw [bs_size]; exact htl
  rcases Nat.lt_or_ge i s.size with hlt | hge
  · have g1 : decide ((i : Int) < (s.size : Int)) = true := by simpa using hlt
    have hx := List.getElem?_eq_getElem (show i < s.data.toList.length by omega)
    generalize s.data.toList[i] = b at hx
    have hb1 : byteAt s i = (b.toNat : Int) := by
      unfold byteAt
      rw [List.getD_eq_getElem?_getD, hx]
      rfl
    have hb : 0 ≤ byteAt s (i : Int).toNat ∧ byteAt s (i : Int).toNat ≤ 255 := by simp only [Int.toNat_natCast, hb1]; have := b.toNat_lt; omega
    have hex : s.extract (i : Int).toNat ((i : Int) + 1).toNat = bs [b] := by
      rw [Int.toNat_natCast, show ((i : Int) + 1).toNat = i + 1 by omega]
      have : (s.extract i (i + 1)).data.toList = [b] := by
        rw [ByteArray.data_extract, Array.toList_extract]
        simp only [List.extract_eq_take_drop, Nat.add_sub_cancel_left]
        rw [drop_at hx]
        rfl
      rw [← bs_list (s.extract i (i + 1)), this]
    have hdrop := drop_at hx
    have e : dbl (b :: s.data.toList.drop (i + 1)) = (bif b == 39 then [39, 39] else [b]) ++ dbl (s.data.toList.drop (i + 1)) := rfl
    rw [hdrop, e] at hs
    have hone : (bs [b]).size = 1 := rfl
    have hone' : (⟨#[39]⟩ : ByteArray).size = 1 := rfl
    have k0 : bs t ++ s.extract (i : Int).toNat ((i : Int) + 1).toNat = bs (t ++ [b]) := by rw [hex, bs_append]
    have k1 : (s.extract (i : Int).toNat ((i : Int) + 1).toNat).size = 1 := by rw [hex]; rfl
    cases hq : b == 39 with
    | true =>
      have g2 : (byteAt s (i : Int).toNat == 39) = true := by
        simp only [Int.toNat_natCast, hb1]
        rw [beq_iff_eq.1 hq]
        rfl
      rw [hq] at hs
      have k3 : (bs t ++ s.extract (i : Int).toNat ((i : Int) + 1).toNat).size = t.length + 1 := by rw [k0, bs_size, List.length_append]; rfl
      repeat' (first | refine zS rfl ?_ | refine qA ?_ | refine qB rfl ?_ | refine qD ?_ | refine qE ?_ | refine qF ?_ | refine qG ?_ | (refine qS rfl ⟨⟨by omega, by omega, by omega⟩, trivial⟩ ?_) | refine zT rfl ?_)
      refine go_stop ?_
      have k2 : bs t ++ s.extract (i : Int).toNat ((i : Int) + 1).toNat ++ ⟨#[39]⟩ = bs (t ++ [39, 39]) := by
        rw [k0]
        show bs (t ++ [b]) ++ bs [39] = _
        rw [bs_append, beq_iff_eq.1 hq, List.append_assoc]
        rfl
      rw [k2]
      exact ⟨⟨i + 1, t ++ [39, 39], by omega, by rw [List.append_assoc]; exact hs⟩, by dsimp only; omega, (zle 0)⟩
    | false =>
      have g2 : (byteAt s (i : Int).toNat == 39) = false := by
        simp only [Int.toNat_natCast, hb1]
        rw [beq_eq_false_iff_ne] at hq ⊢
        intro hc
        apply hq
        have : b.toNat = 39 := by omega
        exact UInt8.toNat_inj.1 this
      rw [hq] at hs
      repeat' (first | refine zS rfl ?_ | refine qA ?_ | refine qB rfl ?_ | refine qD ?_ | refine qE ?_ | refine qF ?_ | refine qG ?_ | (refine qS rfl ⟨⟨by omega, by omega, by omega⟩, trivial⟩ ?_) | refine zT rfl ?_ | refine zU rfl ?_)
      refine go_stop ?_
      rw [k0]
      exact ⟨⟨i + 1, t ++ [b], by omega, by rw [List.append_assoc]; exact hs⟩, by dsimp only; omega, (zle 0)⟩
  · have g1 : decide ((i : Int) < (s.size : Int)) = false := by simp; omega
    have : s.data.toList.drop i = [] := List.drop_eq_nil_of_le (by omega)
    rw [this] at hs
    have hs' : t = dbl s.data.toList := by rw [← hs]; simp [dbl]
    rw [← hs']
    repeat' (first | refine zS rfl ?_ | refine qA ?_ | refine qB rfl ?_ | refine qD ?_ | refine qH rfl ?_ | refine zU rfl ?_ | refine qL rfl rfl ?_ | exact zD)
theorem replaceK_dbl : ∀ l : List UInt8, Lib.replaceK [39] [39, 39] (Lib.count l [39]) l = dbl l
  | [] => rfl
  | b :: l => by
    have ih := replaceK_dbl l
    by_cases hb : b = 39
    · subst hb
      have hidx : Lib.index (39 :: l) [39] = ((0 : Nat) : Int) := rfl
      rw [Lib.count_cons_eq, Nat.add_comm, Lib.replaceK_hit _ _ _ _ _ hidx]
      show [] ++ [39, 39] ++ Lib.replaceK [39] [39, 39] (Lib.count l [39]) l = _
      rw [ih]
      rfl
    · have e : dbl (b :: l) = b :: dbl l := by
        show (bif b == 39 then [39, 39] else [b]) ++ dbl l = _
        rw [beq_eq_false_iff_ne.2 hb]
        rfl
      rw [Lib.count_cons_ne b 39 l hb, e]
      cases hc : Lib.count l [39] with
      | zero =>
        rw [hc] at ih
        have : l = dbl l := ih
        show b :: l = b :: dbl l
        rw [← this]
      | succ k =>
        obtain ⟨i, hi⟩ := Lib.index_of_count (s := l) (old := [39]) (by omega)
        have hidx : Lib.index (b :: l) [39] = ((i + 1 : Nat) : Int) := by
          have hp : ([39] : List UInt8).isPrefixOf (b :: l) = false := by
            simp [List.isPrefixOf]
            exact fun h => hb h.symm
          rw [Lib.index, hp, hi]
          have : ((i : Int) == -1) = false := by simp
          rw [this]
          rfl
        rw [hc, Lib.replaceK_hit _ _ _ _ _ hi] at ih
        rw [Lib.replaceK_hit _ _ _ _ _ hidx, ← ih]
        simp only [List.take_succ_cons, List.length_cons, List.length_nil, List.cons_append]
        rw [show i + 1 + (0 + 1) = (i + (0 + 1)) + 1 by omega, List.drop_succ_cons]
theorem replace_dbl (l : List UInt8) : Lib.replaceAll l [39] [39, 39] = dbl l := by
  rw [Lib.replaceAll, Lib.replace, if_neg (by decide), Lib.replaceNum, if_pos (.inl (by omega))]
  exact replaceK_dbl l
theorem of_lib3 {f : FuncId} {a b c r : Value} (hok : Go.Abs.okV r = true) (h : ∀ (w : World) (F : Nat → Prop), E.GI w F → Go.Abs.okV a = true → Go.Abs.okV b = true → Go.Abs.okV c = true → Calls E.P f #[a, b, c] w fun e w' => e = .returned r ∧ Below w.heap.size w w') : Ev E f [.imm a, .imm b, .imm c] (.d (.imm r)) := by
  refine of_lib hok fun w F vs hG hl hr => ?_
  match vs, hl with
  | [v, u, t], _ =>
    obtain ⟨rfl, hk⟩ := Rd.imm_inv (hr 0 _ v rfl rfl)
    obtain ⟨rfl, hk'⟩ := Rd.imm_inv (hr 1 _ u rfl rfl)
    obtain ⟨rfl, hk''⟩ := Rd.imm_inv (hr 2 _ t rfl rfl)
    exact h w F hG hk hk' hk''
theorem replaceAll_ev (s : ByteArray) (hs : s.size ≤ 1000000000) : Ev E 352 [.str s, .str ⟨#[39]⟩, .str ⟨#[39, 39]⟩] (.d (.str (bs (dbl s.data.toList)))) := by
  have hl : s.data.toList.length = s.size := by simp
  have hd2 := dbl_len s.data.toList
  refine of_lib3 ?_ fun w F hG _ _ _ => ?_
  · simp only [Go.Abs.okV, decide_eq_true_eq, bs_size, maxLen]
    omega
  · obtain ⟨-, -, m, hm⟩ := hG.2
    have hcnt := Lib.countB_mul_le ⟨#[39]⟩ (by decide) s.size s (Nat.le_refl _)
    have h1 : (⟨#[39]⟩ : ByteArray).size = 1 := rfl
    have h2 : (⟨#[39, 39]⟩ : ByteArray).size = 2 := rfl
    rw [h1, Nat.mul_one] at hcnt
    refine (Tryz.strings_ReplaceAll s ⟨#[39]⟩ ⟨#[39, 39]⟩ m w (by omega) hm (by decide) (by rw [h2]; omega)).mono ?_
    rintro e w' ⟨rfl, hb⟩
    refine ⟨?_, hb⟩
    show Ending.returned (.string (bs (Lib.replaceAll s.data.toList [39] [39, 39]))) = _
    rw [replace_dbl]
/-- A fraction as text. -/
def ftxt (n d : Int) : List UInt8 := bif fval n d then (bif d == 1 then Lib.itoa n else Lib.itoa n ++ [47] ++ Lib.itoa d) else []
theorem itoa_len {n : Int} (h : inR .i64 n) : (Lib.itoa n).length ≤ 21 := Lib.itoa_length_le n h.1 h.2
theorem fText_ev (n d : Int) : Ev E 351 [.agg [.int n, .int d]] (.d (.str (bs (ftxt n d)))) := Ev.fit fun hfit => by
  have hn := itoa_len ((hfit _ (List.mem_cons_self)).aggs (.int n) (by simp)).int
  have hd := itoa_len ((hfit _ (List.mem_cons_self)).aggs (.int d) (by simp)).int
  have hv := fvalid_ev n d
  unfold ftxt
  cases hf : fval n d with
  | false =>
    rw [hf] at hv
    show Ev E _ _ (.d (.str ⟨#[]⟩))
    refine enter1 Tryz.func351 Tryz.ntmps351 rfl rfl fun w0 F0 O => ?_
    repeat' (first | refine zS rfl ?_ | refine qA ?_ | refine qB rfl ?_ | refine qD ?_ | refine qF ?_ | refine qP rfl rfl rfl rfl rfl rfl b383 (hv) ?_ | refine zT rfl ?_ | refine qL rfl rfl ?_ | exact zD)
  | true =>
    rw [hf] at hv
    cases h1 : d == 1 with
    | true =>
      refine enter1 Tryz.func351 Tryz.ntmps351 rfl rfl fun w0 F0 O => ?_
      repeat' (first | refine zS rfl ?_ | refine qA ?_ | refine qB rfl ?_ | refine qD ?_ | refine qF ?_ | refine qP rfl rfl rfl rfl rfl rfl b383 (hv) ?_ | refine qP rfl rfl rfl rfl rfl rfl b211 (itoa_ev n) ?_ | refine zT rfl ?_ | refine zU rfl ?_ | refine qL rfl rfl ?_ | exact zD)
    | false =>
      have e : bs (Lib.itoa n ++ [47] ++ Lib.itoa d) = ⟨(Lib.itoa n).toArray⟩ ++ ⟨#[47]⟩ ++ ⟨(Lib.itoa d).toArray⟩ := by
        rw [← bs_append, ← bs_append]
        rfl
      simp only [cond_true, cond_false]
      rw [e]
      have z1 : (⟨(Lib.itoa n).toArray⟩ : ByteArray).size ≤ 21 := by show (bs (Lib.itoa n)).size ≤ 21; rw [bs_size]; exact hn
      have z2 : (⟨(Lib.itoa d).toArray⟩ : ByteArray).size ≤ 21 := by show (bs (Lib.itoa d)).size ≤ 21; rw [bs_size]; exact hd
      have z3 : (⟨#[47]⟩ : ByteArray).size = 1 := rfl
      refine enter1 Tryz.func351 Tryz.ntmps351 rfl rfl fun w0 F0 O => ?_
      repeat' (first | refine zS rfl ?_ | refine qA ?_ | refine qB rfl ?_ | refine qC (by kernel_rfl) ?_ | refine qD ?_ | refine qE ?_ | refine qF ?_ | refine qG ?_ | refine qP rfl rfl rfl rfl rfl rfl b383 (hv) ?_ | refine qP (d := 16) rfl rfl rfl rfl rfl rfl b211 (itoa_ev n) ?_ | refine qP rfl rfl rfl rfl rfl rfl b211 (itoa_ev d) ?_ | refine zU rfl ?_ | refine qL rfl rfl ?_ | exact zD)
end Go.Proofs.YtmfjfclpdmpncaaGreatDoor

/- Values as text, by both texts. Conditions: a text of at most 2^40 bytes. -/
namespace Go.Proofs.YtmfjfclpdmpncaaGreatDoor
set_option maxRecDepth 4000
open Go Go.Abs Go.Val Go.RowKit

mutual
def txt : V → List UInt8
  | .mk k n d s l =>
    bif !(Val.okV (.mk k n d s l)) then [63] else
    bif k == 1 then (bif n == 1 then [116, 114, 117, 101] else [102, 97, 108, 115, 101]) else
    bif k == 2 then Lib.itoa n else
    bif k == 3 then Lib.itoa n ++ [47] ++ Lib.itoa d else
    bif k == 4 then [39] ++ dbl s.data.toList ++ [39] else
    bif k == 5 then [35] ++ Lib.itoa n else
    bif k == 6 then [64] ++ Lib.itoa n else
    bif k == 8 then [91] ++ Lib.join (txtL l) [44, 32] ++ [93] else
    bif k == 7 then [60] ++ Lib.join (txtL l) [32] ++ [62] else [110, 117, 108, 108]
def txtL : List V → List (List UInt8)
  | [] => []
  | v :: r => txt v :: txtL r
end
theorem txtL_map (l : List V) : txtL l = l.map txt := by
  induction l with
  | nil => simp [txtL]
  | cons v r ih => simp [txtL, ih]
theorem join_len (sep : List UInt8) : ∀ (xs : List (List UInt8)) (x : List UInt8), x ∈ xs → x.length ≤ (Lib.join xs sep).length
  | [], x, h => by simp at h
  | a :: r, x, h => by
    rw [Lib.join_cons, List.length_append]
    rcases List.mem_cons.1 h with e | e
    · rw [e]; omega
    · have : x.length ≤ (Lib.joinTail sep r).length := by
        clear h
        induction r with
        | nil => simp at e
        | cons b q ih =>
          have hc : Lib.joinTail sep (b :: q) = (sep ++ b) ++ Lib.joinTail sep q := rfl
          rw [hc, List.length_append, List.length_append]
          rcases List.mem_cons.1 e with e' | e'
          · rw [e']; omega
          · have := ih e'; omega
      omega
theorem okV_k {v : V} (h : Val.okV v = true) : v.k = 0 ∨ v.k = 1 ∨ v.k = 2 ∨ v.k = 3 ∨ v.k = 4 ∨ v.k = 5 ∨ v.k = 6 ∨ v.k = 7 ∨ v.k = 8 := by
  unfold Val.okV at h
  simp only [okN, okFlat, Bool.or_eq_true, Bool.and_eq_true, beq_iff_eq] at h
  omega
theorem okV_3 {n d : Int} {s : ByteArray} {l : List V} (h : Val.okV (.mk 3 n d s l) = true) : d ≥ 2 ∧ fval n d = true := by
  unfold Val.okV at h
  rw [okN_flat 8 3 n d s l (by omega) (by omega)] at h
  simp [okFlat, V.k, V.n, V.d, V.s, V.l] at h
  exact ⟨h.2.1, h.2.2⟩
theorem okV_4 {n d : Int} {s : ByteArray} {l : List V} (h : Val.okV (.mk 4 n d s l) = true) : s.size ≤ 100 := by
  unfold Val.okV at h
  rw [okN_flat 8 4 n d s l (by omega) (by omega)] at h
  simp [okFlat, V.k, V.n, V.d, V.s, V.l, strOK] at h
  exact of_decide_eq_true h.2.2.2
theorem okV_7 {n d : Int} {s : ByteArray} {l : List V} (h : Val.okV (.mk 7 n d s l) = true) : l.length ≤ 25 := by
  unfold Val.okV at h
  rw [okN_7] at h
  simp only [okPath, Bool.and_eq_true, decide_eq_true_eq] at h
  omega
theorem okV_8 {n d : Int} {s : ByteArray} {l : List V} (h : Val.okV (.mk 8 n d s l) = true) : l.length ≤ 64 := by
  unfold Val.okV at h
  rw [okN_8 7] at h
  simp only [Bool.and_eq_true, decide_eq_true_eq] at h
  omega
structure SJ (xs : List (List UInt8)) (sep : List UInt8) where
  i : Nat
  s : List UInt8
  hi : i ≤ xs.length
  h0 : i = 0 → s = []
  h1 : i ≠ 0 → s ++ Lib.joinTail sep (xs.drop i) = Lib.join xs sep
theorem joinTail_at {xs : List (List UInt8)} {sep x : List UInt8} {i : Nat} (h : xs[i]? = some x) : Lib.joinTail sep (xs.drop i) = sep ++ x ++ Lib.joinTail sep (xs.drop (i + 1)) := by
  rw [drop_at h]
  rfl
theorem join_ev (xs : List ByteArray) (sep : ByteArray) (hN : xs.length ≤ 140737488355328) (hlen : (Lib.join (xs.map (·.data.toList)) sep.data.toList).length ≤ 140737488355328) : Ev E 57 [.sl (xs.map .str), .str sep] (.d (.str (bs (Lib.join (xs.map (·.data.toList)) sep.data.toList)))) := by
  intro w F vs hF hG hl hr
  match vs, hl with
  | [v, u], _ =>
    have h0 := hr 0 _ v rfl rfl
    obtain ⟨rfl, -⟩ := Rd.imm_inv (hr 1 _ u rfl rfl)
    have hok : Go.Abs.okV (.string (bs (Lib.join (xs.map (·.data.toList)) sep.data.toList))) = true := by
      simp only [Go.Abs.okV, decide_eq_true_eq, bs_size, maxLen]
      omega
    have hnone : ∀ (a : Option Addr) (c : Nat), v = .slice a 0 c → xs = [] → Calls E.P 57 #[v, .string sep] w fun e w' => ∃ v F', e = .returned v ∧ Ext w F w' F' ∧ RdX w' F' [] (.d (.str (bs (Lib.join (xs.map (·.data.toList)) sep.data.toList)))) v := by
      rintro a c rfl rfl
      refine (Tryz.strings_Join_none a c sep w).mono ?_
      rintro e w' ⟨rfl, rfl⟩
      exact ⟨_, F, rfl, Ext.refl hF, Rd.imm _ hok⟩
    rcases Rd.sl_inv h0 with ⟨hx, rfl⟩ | ⟨size, ad, cap, rfl, h1, h2, h3, h4, h5, h6⟩
    · exact hnone none 0 rfl (by simpa using hx)
    · by_cases hx : xs = []
      · exact hnone _ _ (by rw [hx]; rfl) hx
      · have hlen' : (xs.map D.str).length = xs.length := by simp
        have hcell : ∀ (j : Nat) x, xs[j]? = some x → w.cell? (ad.add j) = some (.string x) := by
          intro j x hj
          have hj' : (xs.map D.str)[j]? = some (.str x) := by rw [List.getElem?_map, hj]; rfl
          have hs1 : size = 1 := (h4 _ (List.mem_of_getElem? hj')).symm
          obtain ⟨q, e1, e2⟩ := h6 j _ 0 _ hj' rfl
          obtain ⟨rfl, -⟩ := Rd.imm_inv e2
          rw [hs1, Nat.mul_one, Nat.add_zero] at e1
          exact e1
        obtain ⟨bk, o, sp⟩ := ad
        have hsp : sp = none := by
          obtain ⟨x0, hx0⟩ : ∃ x, xs[0]? = some x := ⟨xs[0]'(List.length_pos_iff.2 hx), List.getElem?_eq_getElem _⟩
          have := hcell 0 x0 hx0
          cases sp with
          | none => rfl
          | some q =>
            have e : (⟨bk, o, some q⟩ : Addr).add 0 = ⟨bk, o, some q⟩ := by simp [Addr.add]
            rw [e] at this
            unfold World.cell? at this
            simp only [Option.isSome_some, if_true] at this
            split at this <;> cases this
        subst hsp
        rw [hlen'] at h1 ⊢
        have hbk : bk < w.heap.size := hF _ (h3 (by simpa using hx))
        refine (Tryz.strings_Join bk o cap xs sep w (fun j x hj => by rw [← add_mk]; exact hcell j x hj) hbk hN h1 hlen).mono ?_
        rintro e w' ⟨rfl, hb⟩
        exact ⟨_, F, rfl, Ext.of_below hb hF, Rd.imm _ hok⟩
end Go.Proofs.YtmfjfclpdmpncaaGreatDoor
namespace Go.Proofs.YtmfjfclpdmpncaaGreatDoor
open Go Go.Abs Go.Val Go.RowKit
attribute [local irreducible] go SGo HasBody Ev ExtEv
theorem joined_ev (l : List V) (sep : List UInt8) (hT : ∀ x ∈ l, Ev E 298 [enc x] (.d (.str (bs (txt x))))) (hlen : (Lib.join (l.map txt) sep).length ≤ 1099511627776) (hsep : sep.length ≤ 2) :
    Ev E 362 [.sl (encL l), .str (bs sep)] (.d (.str (bs (Lib.join (l.map txt) sep)))) := Ev.fit fun hfit => by
  obtain ⟨hmax, -⟩ := fit_encL (hfit (.sl (encL l)) (by simp))
  have hle : (encL l).length = l.length := encL_len l
  have hml : (l.map txt).length = l.length := by simp
  refine enter2 Tryz.func362 Tryz.ntmps362 rfl rfl fun w0 F0 O => ?_
  repeat' (first | refine zS rfl ?_ | refine qA ?_ | refine qB rfl ?_ | refine qD ?_ | refine qF ?_)
  refine go_loop_ (α := SJ (l.map txt) sep) (fun p => ⟨[(0, .d (.sl (encL l))), (1, .d (.str (bs sep))), (5, .d (.str (bs p.s))), (6, .d (.int p.i))], []⟩) (fun p => l.length - p.i) ⟨0, [], by omega, fun _ => rfl, fun h => absurd rfl h⟩ ((zle 0)) ?_
  rintro ⟨i, s, hi, h0, h1⟩
  dsimp only
  have hss : (bs sep).size ≤ 2 := by rw [bs_size]; exact hsep
  rcases Nat.lt_or_ge i l.length with hlt | hge
  · have g1 : decide ((i : Int) < ((encL l).length : Int)) = true := by rw [hle]; simpa using hlt
    have hx0 := List.getElem?_eq_getElem hlt
    generalize l[i] = x at hx0
    have hx : (encL l)[(i : Int).toNat]? = some (enc x) := encL_get (by rw [Int.toNat_natCast]; exact hx0)
    have hm : (l.map txt)[i]? = some (txt x) := by rw [List.getElem?_map, hx0]; rfl
    have ht := hT x (List.mem_of_getElem? hx0)
    by_cases hi0 : i = 0
    · subst hi0
      have hs0 := h0 rfl
      subst hs0
      have g2 : decide (((0 : Nat) : Int) > 0) = false := rfl
      have hl2 : (txt x).length ≤ 1099511627776 := Nat.le_trans (join_len sep _ _ (List.mem_of_getElem? hm)) hlen
      have z1 : (bs (txt x)).size ≤ 1099511627776 := by rw [bs_size]; exact hl2
      have z2 : (bs []).size = 0 := rfl
      repeat' (first | refine zS rfl ?_ | refine qA ?_ | refine qB rfl ?_ | refine qD ?_ | refine qE ?_ | refine qF ?_ | refine qG ?_ | refine qI (enc x) rfl (guardX_ok rfl) rfl rfl rfl rfl rfl rfl (by first | omega | decide) hx ?_ | refine qP rfl rfl rfl rfl rfl rfl b298 (ht) ?_ | refine zT rfl ?_ | refine zU rfl ?_)
      refine go_stop ?_
      rw [bs_append]
      exact ⟨⟨1, [] ++ txt x, by omega, fun h => by omega, fun _ => by have := drop_at hm; rw [List.drop_zero] at this; rw [List.nil_append]; conv => rhs; rw [this, Lib.join_cons]⟩, by dsimp only; omega, (zle 0)⟩
    · have g2 : decide ((i : Int) > 0) = true := by simp; omega
      have h1' := h1 hi0
      rw [joinTail_at hm] at h1'
      have hll : s.length + (sep.length + (txt x).length) ≤ 1099511627776 := by
        have := congrArg List.length h1'
        simp only [List.length_append] at this
        omega
      have z1 : (bs (txt x)).size = (txt x).length := bs_size _
      have z2 : (bs s).size = s.length := bs_size _
      have z3 : (bs sep).size = sep.length := bs_size _
      repeat' (first | refine zS rfl ?_ | refine qA ?_ | refine qB rfl ?_ | refine qD ?_ | refine qE ?_ | refine qF ?_ | refine qG ?_ | refine qI (enc x) rfl (guardX_ok rfl) rfl rfl rfl rfl rfl rfl (by first | omega | decide) hx ?_ | refine qP rfl rfl rfl rfl rfl rfl b298 (ht) ?_ | refine zT rfl ?_)
      refine go_stop ?_
      rw [bs_append, bs_append]
      exact ⟨⟨i + 1, s ++ sep ++ txt x, by omega, fun h => by omega, fun _ => by rw [← h1']; simp only [List.append_assoc]⟩, by dsimp only; omega, (zle 0)⟩
  · have g1 : decide ((i : Int) < ((encL l).length : Int)) = false := by rw [hle]; simp; omega
    have e : Lib.join (l.map txt) sep = s := by
      by_cases hi0 : i = 0
      · have : l = [] := List.eq_nil_of_length_eq_zero (by omega)
        rw [this, h0 hi0]
        rfl
      · rw [← h1 hi0, List.drop_eq_nil_of_le (by omega)]
        simp [Lib.joinTail]
    rw [e]
    repeat' (first | refine zS rfl ?_ | refine qA ?_ | refine qB rfl ?_ | refine qD ?_ | refine qH rfl ?_ | refine zU rfl ?_ | refine qL rfl rfl ?_ | exact zD)
theorem rtxt_ev (v : V) : (txt v).length ≤ 1099511627776 → Ev E 298 [enc v] (.d (.str (bs (txt v)))) := by
  refine vind (P := fun v => (txt v).length ≤ 1099511627776 → Ev E 298 [enc v] (.d (.str (bs (txt v))))) (fun k n d s l ih hlen => Ev.fit fun hfit => ?_) v
  obtain ⟨-, hn, hd, -, -, -⟩ := fit_enc (hfit (enc (.mk k n d s l)) (by simp))
  have hv := RValid_ev (.mk k n d s l)
  cases hok : Val.okV (.mk k n d s l) with
  | false =>
    rw [hok] at hv
    have e : txt (.mk k n d s l) = [63] := by simp only [txt, hok]; rfl
    rw [e]
    show Ev E _ _ (.d (.str ⟨#[63]⟩))
    refine enter1 Tryz.func298 Tryz.ntmps298 rfl rfl fun w0 F0 O => ?_
    repeat' (first | refine zS rfl ?_ | refine qA ?_ | refine qB rfl ?_ | refine qD ?_ | refine qP rfl rfl rfl rfl rfl rfl b246 (hv) ?_ | refine zT rfl ?_ | refine qL rfl rfl ?_ | exact zD)
  | true =>
    rw [hok] at hv
    have ln := itoa_len hn
    have ld := itoa_len hd
    have zn : (bs (Lib.itoa n)).size ≤ 21 := by rw [bs_size]; exact ln
    have zd : (bs (Lib.itoa d)).size ≤ 21 := by rw [bs_size]; exact ld
    have o1 : (⟨#[47]⟩ : ByteArray).size = 1 := rfl
    have o2 : (⟨#[39]⟩ : ByteArray).size = 1 := rfl
    have o3 : (⟨#[35]⟩ : ByteArray).size = 1 := rfl
    have o4 : (⟨#[64]⟩ : ByteArray).size = 1 := rfl
    have o5 : (⟨#[91]⟩ : ByteArray).size = 1 := rfl
    have o6 : (⟨#[93]⟩ : ByteArray).size = 1 := rfl
    have o7 : (⟨#[60]⟩ : ByteArray).size = 1 := rfl
    have o8 : (⟨#[62]⟩ : ByteArray).size = 1 := rfl
    have hk := okV_k hok
    simp only [V.k] at hk
    have tn := rtext_ev n
    have td := rtext_ev d
    rcases hk with rfl | rfl | rfl | rfl | rfl | rfl | rfl | rfl | rfl
    · have e : txt (.mk 0 n d s l) = [110, 117, 108, 108] := by simp only [txt, hok]; rfl
      rw [e]
      show Ev E _ _ (.d (.str ⟨#[110, 117, 108, 108]⟩))
      refine enter1 Tryz.func298 Tryz.ntmps298 rfl rfl fun w0 F0 O => ?_
      repeat' (first | refine zS rfl ?_ | refine qA ?_ | refine qB rfl ?_ | refine qD ?_ | refine qE ?_ | refine qF ?_ | refine qG ?_ | refine qP rfl rfl rfl rfl rfl rfl b246 (hv) ?_ | refine zU rfl ?_ | refine qL rfl rfl ?_ | exact zD)
    · have e : txt (.mk 1 n d s l) = (bif n == 1 then [116, 114, 117, 101] else [102, 97, 108, 115, 101]) := by simp only [txt, hok]; rfl
      rw [e]
      cases h1 : n == 1 with
      | true =>
        show Ev E _ _ (.d (.str ⟨#[116, 114, 117, 101]⟩))
        refine enter1 Tryz.func298 Tryz.ntmps298 rfl rfl fun w0 F0 O => ?_
        repeat' (first | refine zS rfl ?_ | refine qA ?_ | refine qB rfl ?_ | refine qD ?_ | refine qE ?_ | refine qF ?_ | refine qP rfl rfl rfl rfl rfl rfl b246 (hv) ?_ | refine zT rfl ?_ | refine zU rfl ?_ | refine qL rfl rfl ?_ | exact zD)
      | false =>
        show Ev E _ _ (.d (.str ⟨#[102, 97, 108, 115, 101]⟩))
        refine enter1 Tryz.func298 Tryz.ntmps298 rfl rfl fun w0 F0 O => ?_
        repeat' (first | refine zS rfl ?_ | refine qA ?_ | refine qB rfl ?_ | refine qD ?_ | refine qE ?_ | refine qF ?_ | refine qP rfl rfl rfl rfl rfl rfl b246 (hv) ?_ | refine zT rfl ?_ | refine zU rfl ?_ | refine qL rfl rfl ?_ | exact zD)
    · have e : txt (.mk 2 n d s l) = Lib.itoa n := by simp only [txt, hok]; rfl
      rw [e]
      refine enter1 Tryz.func298 Tryz.ntmps298 rfl rfl fun w0 F0 O => ?_
      repeat' (first | refine zS rfl ?_ | refine qA ?_ | refine qB rfl ?_ | refine qD ?_ | refine qE ?_ | refine qF ?_ | refine qP rfl rfl rfl rfl rfl rfl b246 (hv) ?_ | refine qP rfl rfl rfl rfl rfl rfl b360 (tn) ?_ | refine zT rfl ?_ | refine zU rfl ?_ | refine qL rfl rfl ?_ | exact zD)
    · have e : bs (txt (.mk 3 n d s l)) = bs (Lib.itoa n) ++ ⟨#[47]⟩ ++ bs (Lib.itoa d) := by
        show _ = bs (Lib.itoa n) ++ bs [47] ++ bs (Lib.itoa d)
        rw [bs_append, bs_append]
        simp only [txt, hok]
        rfl
      rw [e]
      refine enter1 Tryz.func298 Tryz.ntmps298 rfl rfl fun w0 F0 O => ?_
      repeat' (first | refine zS rfl ?_ | refine qA ?_ | refine qB rfl ?_ | refine qC (by kernel_rfl) ?_ | refine qD ?_ | refine qE ?_ | refine qF ?_ | refine qP rfl rfl rfl rfl rfl rfl b246 (hv) ?_ | refine qP (d := 22) rfl rfl rfl rfl rfl rfl b360 (tn) ?_ | refine qP rfl rfl rfl rfl rfl rfl b360 (td) ?_ | refine zT rfl ?_ | refine zU rfl ?_ | refine qL rfl rfl ?_ | exact zD)
    · have e : bs (txt (.mk 4 n d s l)) = ⟨#[39]⟩ ++ bs (dbl s.data.toList) ++ ⟨#[39]⟩ := by
        show _ = bs [39] ++ bs (dbl s.data.toList) ++ bs [39]
        rw [bs_append, bs_append]
        simp only [txt, hok]
        rfl
      rw [e]
      have h4 := okV_4 hok
      have hdb := doubled_ev s (by omega)
      have hl2 := dbl_len s.data.toList
      have hsl : s.data.toList.length = s.size := by simp
      have zs : (bs (dbl s.data.toList)).size ≤ 200 := by rw [bs_size]; omega
      refine enter1 Tryz.func298 Tryz.ntmps298 rfl rfl fun w0 F0 O => ?_
      repeat' (first | refine zS rfl ?_ | refine qA ?_ | refine qB rfl ?_ | refine qD ?_ | refine qE ?_ | refine qF ?_ | refine qP rfl rfl rfl rfl rfl rfl b246 (hv) ?_ | refine qP rfl rfl rfl rfl rfl rfl b361 (hdb) ?_ | refine zT rfl ?_ | refine zU rfl ?_ | refine qL rfl rfl ?_ | exact zD)
    · have e : bs (txt (.mk 5 n d s l)) = ⟨#[35]⟩ ++ bs (Lib.itoa n) := by
        show _ = bs [35] ++ bs (Lib.itoa n)
        rw [bs_append]
        simp only [txt, hok]
        rfl
      rw [e]
      refine enter1 Tryz.func298 Tryz.ntmps298 rfl rfl fun w0 F0 O => ?_
      repeat' (first | refine zS rfl ?_ | refine qA ?_ | refine qB rfl ?_ | refine qD ?_ | refine qE ?_ | refine qF ?_ | refine qP rfl rfl rfl rfl rfl rfl b246 (hv) ?_ | refine qP rfl rfl rfl rfl rfl rfl b360 (tn) ?_ | refine zT rfl ?_ | refine zU rfl ?_ | refine qL rfl rfl ?_ | exact zD)
    · have e : bs (txt (.mk 6 n d s l)) = ⟨#[64]⟩ ++ bs (Lib.itoa n) := by
        show _ = bs [64] ++ bs (Lib.itoa n)
        rw [bs_append]
        simp only [txt, hok]
        rfl
      rw [e]
      refine enter1 Tryz.func298 Tryz.ntmps298 rfl rfl fun w0 F0 O => ?_
      repeat' (first | refine zS rfl ?_ | refine qA ?_ | refine qB rfl ?_ | refine qD ?_ | refine qE ?_ | refine qF ?_ | refine qP rfl rfl rfl rfl rfl rfl b246 (hv) ?_ | refine qP rfl rfl rfl rfl rfl rfl b360 (tn) ?_ | refine zT rfl ?_ | refine zU rfl ?_ | refine qL rfl rfl ?_ | exact zD)
    · have e0 : txt (.mk 7 n d s l) = [60] ++ Lib.join (l.map txt) [32] ++ [62] := by simp only [txt, hok, txtL_map]; rfl
      have e : bs (txt (.mk 7 n d s l)) = ⟨#[60]⟩ ++ bs (Lib.join (l.map txt) [32]) ++ ⟨#[62]⟩ := by
        show _ = bs [60] ++ bs (Lib.join (l.map txt) [32]) ++ bs [62]
        rw [bs_append, bs_append, e0]
      rw [e]
      have hjl : (Lib.join (l.map txt) [32]).length ≤ 1099511627776 := by
        rw [e0, List.length_append, List.length_append] at hlen
        omega
      have hj := joined_ev l [32] (fun x hx => ih x hx (Nat.le_trans (join_len [32] _ _ (List.mem_map_of_mem hx)) hjl)) hjl (by simp)
      have zj : (bs (Lib.join (l.map txt) [32])).size ≤ 1099511627776 := by rw [bs_size]; exact hjl
      refine enter1 Tryz.func298 Tryz.ntmps298 rfl rfl fun w0 F0 O => ?_
      repeat' (first | refine zS rfl ?_ | refine qA ?_ | refine qB rfl ?_ | refine qD ?_ | refine qE ?_ | refine qF ?_ | refine qP rfl rfl rfl rfl rfl rfl b246 (hv) ?_ | refine qP rfl rfl rfl rfl rfl rfl b362 (hj) ?_ | refine zT rfl ?_ | refine zU rfl ?_ | refine qL rfl rfl ?_ | exact zD)
    · have e0 : txt (.mk 8 n d s l) = [91] ++ Lib.join (l.map txt) [44, 32] ++ [93] := by simp only [txt, hok, txtL_map]; rfl
      have e : bs (txt (.mk 8 n d s l)) = ⟨#[91]⟩ ++ bs (Lib.join (l.map txt) [44, 32]) ++ ⟨#[93]⟩ := by
        show _ = bs [91] ++ bs (Lib.join (l.map txt) [44, 32]) ++ bs [93]
        rw [bs_append, bs_append, e0]
      rw [e]
      have hjl : (Lib.join (l.map txt) [44, 32]).length ≤ 1099511627776 := by
        rw [e0, List.length_append, List.length_append] at hlen
        omega
      have hj := joined_ev l [44, 32] (fun x hx => ih x hx (Nat.le_trans (join_len [44, 32] _ _ (List.mem_map_of_mem hx)) hjl)) hjl (by simp)
      have zj : (bs (Lib.join (l.map txt) [44, 32])).size ≤ 1099511627776 := by rw [bs_size]; exact hjl
      refine enter1 Tryz.func298 Tryz.ntmps298 rfl rfl fun w0 F0 O => ?_
      repeat' (first | refine zS rfl ?_ | refine qA ?_ | refine qB rfl ?_ | refine qD ?_ | refine qE ?_ | refine qF ?_ | refine qP rfl rfl rfl rfl rfl rfl b246 (hv) ?_ | refine qP rfl rfl rfl rfl rfl rfl b362 (hj) ?_ | refine zT rfl ?_ | refine zU rfl ?_ | refine qL rfl rfl ?_ | exact zD)
end Go.Proofs.YtmfjfclpdmpncaaGreatDoor

/- The program's values as text. Conditions: a text of at most 2^40 bytes. -/
namespace Go.Proofs.YtmfjfclpdmpncaaGreatDoor
set_option maxRecDepth 4000
open Go Go.Abs Go.Val Go.RowKit
attribute [local irreducible] go SGo HasBody Ev ExtEv

def strD (xs : List (List UInt8)) : List D := xs.map fun t => .str (bs t)
structure STx (l : List V) where
  i : Nat
  hi : i ≤ l.length
theorem take_at {l : List V} {i : Nat} {x : V} (h : l[i]? = some x) : strD ((l.take (i + 1)).map txt) = strD ((l.take i).map txt) ++ [.str (bs (txt x))] := by
  have hi := (List.getElem?_eq_some_iff.1 h).1
  rw [List.take_succ_eq_append_getElem hi]
  rw [List.getElem?_eq_getElem hi] at h
  cases h
  simp only [strD, List.map_append, List.map_cons, List.map_nil]
theorem texts_ev (l : List V) (sep : List UInt8) (hT : ∀ x ∈ l, Ev E 288 [enc x] (.d (.str (bs (txt x))))) (hn : l.length ≤ 1000000) (hlen : (Lib.join (l.map txt) sep).length ≤ 1099511627776) :
    Ev E 353 [.sl (encL l), .str (bs sep)] (.d (.str (bs (Lib.join (l.map txt) sep)))) := by
  have hle : (encL l).length = l.length := encL_len l
  have e1 : (l.map fun x => bs (txt x)).map D.str = strD (l.map txt) := by simp [strD]
  have e2 : (l.map fun x => bs (txt x)).map (·.data.toList) = l.map txt := by simp [bs_data]
  have hj := join_ev (l.map fun x => bs (txt x)) (bs sep) (by simp; omega) (by rw [e2, bs_data]; omega)
  rw [e1, e2, bs_data] at hj
  refine enter2 Tryz.func353 Tryz.ntmps353 rfl rfl fun w0 F0 O => ?_
  repeat' (first | refine zS rfl ?_ | refine qA ?_ | refine qB rfl ?_ | refine qD ?_ | refine qF ?_)
  refine go_loop_ (α := STx l) (fun p => ⟨[(1, .d (.str (bs sep))), (5, rowX (strD ((l.take p.i).map txt))), (8, .d (.sl (encL l))), (9, .d (.int (encL l).length)), (10, .d (.int p.i))], rowO 9 1 (strD ((l.take p.i).map txt))⟩) (fun p => l.length - p.i) ⟨0, by omega⟩ (by rw [List.take_zero]; exact (zle 0)) ?_
  rintro ⟨i, hi⟩
  dsimp only
  rcases Nat.lt_or_ge i l.length with hlt | hge
  · have g1 : decide ((i : Int) < ((encL l).length : Int)) = true := by rw [hle]; simpa using hlt
    have hx0 := List.getElem?_eq_getElem hlt
    generalize l[i] = x at hx0
    have hx : (encL l)[(i : Int).toNat]? = some (enc x) := encL_get (by rw [Int.toNat_natCast]; exact hx0)
    have ht := hT x (List.mem_of_getElem? hx0)
    have hta := take_at hx0
    have hll : (strD ((l.take i).map txt)).length ≤ i := by simp [strD]; omega
    generalize strD ((l.take i).map txt) = out at *
    match out, hll with
    | [], hll =>
      dsimp only [rowX, rowO]
      repeat' (first | refine zS rfl ?_ | refine qA ?_ | refine qB rfl ?_ | refine qD ?_ | refine qE ?_ | refine qF ?_ | refine qG ?_ | refine qI (enc x) rfl (guardX_ok rfl) rfl rfl rfl rfl rfl rfl (by first | omega | decide) hx ?_ | refine qP rfl rfl rfl rfl rfl rfl b288 (ht) ?_ | (refine qS rfl ⟨by simp, by simp [D.cells]; rfl, by (show (0 + 1) * 16 ≤ 140737488355328; omega), by (show 0 + 1 ≤ 9223372036854775807; omega)⟩ ?_) | refine zT rfl ?_)
      refine go_stop ?_
      refine ⟨⟨i + 1, by omega⟩, by dsimp only; omega, ?_⟩
      dsimp only
      rw [hta]
      exact (zren [1])
    | a :: q, hll =>
      dsimp only [rowX, rowO]
      repeat' (first | refine zS rfl ?_ | refine qA ?_ | refine qB rfl ?_ | refine qD ?_ | refine qE ?_ | refine qF ?_ | refine qG ?_ | refine qI (enc x) rfl (guardX_ok rfl) rfl rfl rfl rfl rfl rfl (by first | omega | decide) hx ?_ | refine qP rfl rfl rfl rfl rfl rfl b288 (ht) ?_ | (refine qS rfl ⟨by simp, by simp [D.cells]; rfl, by (show ((a :: q).length + 1) * 16 ≤ 140737488355328; omega), by (show (a :: q).length + 1 ≤ 9223372036854775807; omega)⟩ ?_) | refine zT rfl ?_)
      refine go_stop ?_
      refine ⟨⟨i + 1, by omega⟩, by dsimp only; omega, ?_⟩
      dsimp only
      rw [hta]
      exact (zren [2])
  · have g1 : decide ((i : Int) < ((encL l).length : Int)) = false := by rw [hle]; simp; omega
    rw [List.take_of_length_le hge]
    generalize strD (l.map txt) = out at *
    match out, hj with
    | [], hj =>
      dsimp only [rowX, rowO]
      repeat' (first | refine zS rfl ?_ | refine qA ?_ | refine qB rfl ?_ | refine qD ?_ | refine qH rfl ?_ | refine qP rfl rfl rfl rfl rfl rfl b57 (hj) ?_ | refine zU rfl ?_ | refine qL rfl rfl ?_ | exact zD)
    | a :: q, hj =>
      dsimp only [rowX, rowO]
      refine qA ?_
      refine go_frz 0 rfl ?_
      repeat' (first | refine zS rfl ?_ | refine qA ?_ | refine qB rfl ?_ | refine qD ?_ | refine qH rfl ?_ | refine qP rfl rfl rfl rfl rfl rfl b57 (hj) ?_ | refine zU rfl ?_ | refine qL rfl rfl ?_ | exact zD)
theorem txt_ev (v : V) : (txt v).length ≤ 1099511627776 → Ev E 288 [enc v] (.d (.str (bs (txt v)))) := by
  refine vind (P := fun v => (txt v).length ≤ 1099511627776 → Ev E 288 [enc v] (.d (.str (bs (txt v))))) (fun k n d s l ih hlen => Ev.fit fun hfit => ?_) v
  obtain ⟨-, hn, hd, -, -, -⟩ := fit_enc (hfit (enc (.mk k n d s l)) (by simp))
  have hv := Valid_ev ixOK (.mk k n d s l)
  cases hok : Val.okV (.mk k n d s l) with
  | false =>
    rw [hok] at hv
    have e : txt (.mk k n d s l) = [63] := by simp only [txt, hok]; rfl
    rw [e]
    show Ev E _ _ (.d (.str ⟨#[63]⟩))
    refine enter1 Tryz.func288 Tryz.ntmps288 rfl rfl fun w0 F0 O => ?_
    repeat' (first | refine zS rfl ?_ | refine qA ?_ | refine qB rfl ?_ | refine qD ?_ | refine qP rfl rfl rfl rfl rfl rfl b257 (hv) ?_ | refine zT rfl ?_ | refine qL rfl rfl ?_ | exact zD)
  | true =>
    rw [hok] at hv
    have ln := itoa_len hn
    have ld := itoa_len hd
    have zn : (bs (Lib.itoa n)).size ≤ 21 := by rw [bs_size]; exact ln
    have zn' : (⟨(Lib.itoa n).toArray⟩ : ByteArray).size ≤ 21 := zn
    have o2 : (⟨#[39]⟩ : ByteArray).size = 1 := rfl
    have o3 : (⟨#[35]⟩ : ByteArray).size = 1 := rfl
    have o4 : (⟨#[64]⟩ : ByteArray).size = 1 := rfl
    have o5 : (⟨#[91]⟩ : ByteArray).size = 1 := rfl
    have o6 : (⟨#[93]⟩ : ByteArray).size = 1 := rfl
    have o7 : (⟨#[60]⟩ : ByteArray).size = 1 := rfl
    have o8 : (⟨#[62]⟩ : ByteArray).size = 1 := rfl
    have hk := okV_k hok
    simp only [V.k] at hk
    have tn := itoa_ev n
    have td := itoa_ev d
    rcases hk with rfl | rfl | rfl | rfl | rfl | rfl | rfl | rfl | rfl
    · have e : txt (.mk 0 n d s l) = [110, 117, 108, 108] := by simp only [txt, hok]; rfl
      rw [e]
      show Ev E _ _ (.d (.str ⟨#[110, 117, 108, 108]⟩))
      refine enter1 Tryz.func288 Tryz.ntmps288 rfl rfl fun w0 F0 O => ?_
      repeat' (first | refine zS rfl ?_ | refine qA ?_ | refine qB rfl ?_ | refine qD ?_ | refine qE ?_ | refine qF ?_ | refine qG ?_ | refine qP rfl rfl rfl rfl rfl rfl b257 (hv) ?_ | refine zU rfl ?_ | refine qL rfl rfl ?_ | exact zD)
    · have e : bs (txt (.mk 1 n d s l)) = ⟨(Lib.formatBool (n == 1)).toArray⟩ := by
        have : txt (.mk 1 n d s l) = (bif n == 1 then [116, 114, 117, 101] else [102, 97, 108, 115, 101]) := by simp only [txt, hok]; rfl
        rw [this]
        cases n == 1 <;> decide
      rw [e]
      have hb := formatBool_ev (n == 1)
      refine enter1 Tryz.func288 Tryz.ntmps288 rfl rfl fun w0 F0 O => ?_
      repeat' (first | refine zS rfl ?_ | refine qA ?_ | refine qB rfl ?_ | refine qD ?_ | refine qE ?_ | refine qF ?_ | refine qP rfl rfl rfl rfl rfl rfl b257 (hv) ?_ | refine qP rfl rfl rfl rfl rfl rfl b350 (hb) ?_ | refine zT rfl ?_ | refine zU rfl ?_ | refine qL rfl rfl ?_ | exact zD)
    · have e : txt (.mk 2 n d s l) = Lib.itoa n := by simp only [txt, hok]; rfl
      rw [e]
      refine enter1 Tryz.func288 Tryz.ntmps288 rfl rfl fun w0 F0 O => ?_
      repeat' (first | refine zS rfl ?_ | refine qA ?_ | refine qB rfl ?_ | refine qD ?_ | refine qE ?_ | refine qF ?_ | refine qP rfl rfl rfl rfl rfl rfl b257 (hv) ?_ | refine qP rfl rfl rfl rfl rfl rfl b211 (tn) ?_ | refine zT rfl ?_ | refine zU rfl ?_ | refine qL rfl rfl ?_ | exact zD)
    · obtain ⟨h2, h3⟩ := okV_3 hok
      have e : txt (.mk 3 n d s l) = ftxt n d := by
        have hd1 : (d == 1) = false := by simp; omega
        simp only [txt, hok, ftxt, h3, hd1]
        rfl
      rw [e]
      have hf := fText_ev n d
      refine enter1 Tryz.func288 Tryz.ntmps288 rfl rfl fun w0 F0 O => ?_
      repeat' (first | refine zS rfl ?_ | refine qA ?_ | refine qB rfl ?_ | refine qD ?_ | refine qE ?_ | refine qF ?_ | refine qP rfl rfl rfl rfl rfl rfl b257 (hv) ?_ | refine qP rfl rfl rfl rfl rfl rfl b351 (hf) ?_ | refine zT rfl ?_ | refine zU rfl ?_ | refine qL rfl rfl ?_ | exact zD)
    · have e : bs (txt (.mk 4 n d s l)) = ⟨#[39]⟩ ++ bs (dbl s.data.toList) ++ ⟨#[39]⟩ := by
        show _ = bs [39] ++ bs (dbl s.data.toList) ++ bs [39]
        rw [bs_append, bs_append]
        simp only [txt, hok]
        rfl
      rw [e]
      have h4 := okV_4 hok
      have hdb := replaceAll_ev s (by omega)
      have hl2 := dbl_len s.data.toList
      have hsl : s.data.toList.length = s.size := by simp
      have zs : (bs (dbl s.data.toList)).size ≤ 200 := by rw [bs_size]; omega
      refine enter1 Tryz.func288 Tryz.ntmps288 rfl rfl fun w0 F0 O => ?_
      repeat' (first | refine zS rfl ?_ | refine qA ?_ | refine qB rfl ?_ | refine qD ?_ | refine qE ?_ | refine qF ?_ | refine qP rfl rfl rfl rfl rfl rfl b257 (hv) ?_ | refine qP rfl rfl rfl rfl rfl rfl b352 (hdb) ?_ | refine zT rfl ?_ | refine zU rfl ?_ | refine qL rfl rfl ?_ | exact zD)
    · have e : bs (txt (.mk 5 n d s l)) = ⟨#[35]⟩ ++ ⟨(Lib.itoa n).toArray⟩ := by
        show _ = bs [35] ++ bs (Lib.itoa n)
        rw [bs_append]
        simp only [txt, hok]
        rfl
      rw [e]
      refine enter1 Tryz.func288 Tryz.ntmps288 rfl rfl fun w0 F0 O => ?_
      repeat' (first | refine zS rfl ?_ | refine qA ?_ | refine qB rfl ?_ | refine qD ?_ | refine qE ?_ | refine qF ?_ | refine qP rfl rfl rfl rfl rfl rfl b257 (hv) ?_ | refine qP rfl rfl rfl rfl rfl rfl b211 (tn) ?_ | refine zT rfl ?_ | refine zU rfl ?_ | refine qL rfl rfl ?_ | exact zD)
    · have e : bs (txt (.mk 6 n d s l)) = ⟨#[64]⟩ ++ ⟨(Lib.itoa n).toArray⟩ := by
        show _ = bs [64] ++ bs (Lib.itoa n)
        rw [bs_append]
        simp only [txt, hok]
        rfl
      rw [e]
      refine enter1 Tryz.func288 Tryz.ntmps288 rfl rfl fun w0 F0 O => ?_
      repeat' (first | refine zS rfl ?_ | refine qA ?_ | refine qB rfl ?_ | refine qD ?_ | refine qE ?_ | refine qF ?_ | refine qP rfl rfl rfl rfl rfl rfl b257 (hv) ?_ | refine qP rfl rfl rfl rfl rfl rfl b211 (tn) ?_ | refine zT rfl ?_ | refine zU rfl ?_ | refine qL rfl rfl ?_ | exact zD)
    · have e0 : txt (.mk 7 n d s l) = [60] ++ Lib.join (l.map txt) [32] ++ [62] := by simp only [txt, hok, txtL_map]; rfl
      have e : bs (txt (.mk 7 n d s l)) = ⟨#[60]⟩ ++ bs (Lib.join (l.map txt) [32]) ++ ⟨#[62]⟩ := by
        show _ = bs [60] ++ bs (Lib.join (l.map txt) [32]) ++ bs [62]
        rw [bs_append, bs_append, e0]
      rw [e]
      have hjl : (Lib.join (l.map txt) [32]).length ≤ 1099511627776 := by
        rw [e0, List.length_append, List.length_append] at hlen
        omega
      have hj := texts_ev l [32] (fun x hx => ih x hx (Nat.le_trans (join_len [32] _ _ (List.mem_map_of_mem hx)) hjl)) (by have := okV_7 hok; omega) hjl
      have zj : (bs (Lib.join (l.map txt) [32])).size ≤ 1099511627776 := by rw [bs_size]; exact hjl
      refine enter1 Tryz.func288 Tryz.ntmps288 rfl rfl fun w0 F0 O => ?_
      repeat' (first | refine zS rfl ?_ | refine qA ?_ | refine qB rfl ?_ | refine qD ?_ | refine qE ?_ | refine qF ?_ | refine qP rfl rfl rfl rfl rfl rfl b257 (hv) ?_ | refine qP rfl rfl rfl rfl rfl rfl b353 (hj) ?_ | refine zT rfl ?_ | refine zU rfl ?_ | refine qL rfl rfl ?_ | exact zD)
    · have e0 : txt (.mk 8 n d s l) = [91] ++ Lib.join (l.map txt) [44, 32] ++ [93] := by simp only [txt, hok, txtL_map]; rfl
      have e : bs (txt (.mk 8 n d s l)) = ⟨#[91]⟩ ++ bs (Lib.join (l.map txt) [44, 32]) ++ ⟨#[93]⟩ := by
        show _ = bs [91] ++ bs (Lib.join (l.map txt) [44, 32]) ++ bs [93]
        rw [bs_append, bs_append, e0]
      rw [e]
      have hjl : (Lib.join (l.map txt) [44, 32]).length ≤ 1099511627776 := by
        rw [e0, List.length_append, List.length_append] at hlen
        omega
      have hj := texts_ev l [44, 32] (fun x hx => ih x hx (Nat.le_trans (join_len [44, 32] _ _ (List.mem_map_of_mem hx)) hjl)) (by have := okV_8 hok; omega) hjl
      have zj : (bs (Lib.join (l.map txt) [44, 32])).size ≤ 1099511627776 := by rw [bs_size]; exact hjl
      refine enter1 Tryz.func288 Tryz.ntmps288 rfl rfl fun w0 F0 O => ?_
      repeat' (first | refine zS rfl ?_ | refine qA ?_ | refine qB rfl ?_ | refine qD ?_ | refine qE ?_ | refine qF ?_ | refine qP rfl rfl rfl rfl rfl rfl b257 (hv) ?_ | refine qP rfl rfl rfl rfl rfl rfl b353 (hj) ?_ | refine zT rfl ?_ | refine zU rfl ?_ | refine qL rfl rfl ?_ | exact zD)
end Go.Proofs.YtmfjfclpdmpncaaGreatDoor
