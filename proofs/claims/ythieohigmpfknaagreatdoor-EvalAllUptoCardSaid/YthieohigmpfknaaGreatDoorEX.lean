/- The table of the seat's types and listed variables, off the loaded program; The small functions of layer 4, of the program and of the specification: logic, constructors, classes; Numbers and strings as text, by both texts; Values as text, by both texts; Copies of values, by both texts; Equality and Less, by both texts; Lists and paths as values, and the worked examples of the chapter; Plain laws of the orders: antisymmetry, symmetry; The reference's long division and its narrowing of wide numbers; Sums of fractions by the reference; Products of fractions by the reference; Sums and differences . Conditions: each part's own, as it says. -/
import Derived.Test.YthieohigmpfknaaGreatDoorGA
import Derived.Test.YthieohigmpfknaaGreatDoorGB
import Derived.Test.YthieohigmpfknaaGreatDoorGC
import Derived.Test.YthieohigmpfknaaGreatDoorGS
import Derived.Test.YthieohigmpfknaaGreatDoorMA
import Derived.Test.YthieohigmpfknaaGreatDoorMB
import Derived.Test.YthieohigmpfknaaGreatDoorMC
import Derived.Test.YthieohigmpfknaaGreatDoorMD
import Derived.Test.YthieohigmpfknaaGreatDoorEA
import Derived.Test.YthieohigmpfknaaGreatDoorEB
import Derived.Test.YthieohigmpfknaaGreatDoorEC
import Derived.Test.YthieohigmpfknaaGreatDoorCards
set_option linter.unusedVariables false
set_option linter.unusedSimpArgs false
/- The table of the seat's types and listed variables, off the loaded program. Conditions: none. -/
namespace Go.Proofs.YthieohigmpfknaaGreatDoor
open Go Go.Abs
set_option maxRecDepth 100000
theorem b12 : HasBody E 12 := by intro args w; dsimp only [E]; exact Tryz.call12 args w
theorem b15 : HasBody E 15 := by intro args w; dsimp only [E]; exact Tryz.call15 args w
theorem b27 : HasBody E 27 := by intro args w; dsimp only [E]; exact Tryz.call27 args w
theorem b36 : HasBody E 36 := by intro args w; dsimp only [E]; exact Tryz.call36 args w
theorem b37 : HasBody E 37 := by intro args w; dsimp only [E]; exact Tryz.call37 args w
theorem b67 : HasBody E 67 := by intro args w; dsimp only [E]; exact Tryz.call67 args w
theorem b68 : HasBody E 68 := by intro args w; dsimp only [E]; exact Tryz.call68 args w
theorem b69 : HasBody E 69 := by intro args w; dsimp only [E]; exact Tryz.call69 args w
theorem b70 : HasBody E 70 := by intro args w; dsimp only [E]; exact Tryz.call70 args w
theorem b71 : HasBody E 71 := by intro args w; dsimp only [E]; exact Tryz.call71 args w
theorem b109 : HasBody E 109 := by intro args w; dsimp only [E]; exact Tryz.call109 args w
theorem b110 : HasBody E 110 := by intro args w; dsimp only [E]; exact Tryz.call110 args w
theorem b111 : HasBody E 111 := by intro args w; dsimp only [E]; exact Tryz.call111 args w
theorem b112 : HasBody E 112 := by intro args w; dsimp only [E]; exact Tryz.call112 args w
theorem b113 : HasBody E 113 := by intro args w; dsimp only [E]; exact Tryz.call113 args w
theorem b114 : HasBody E 114 := by intro args w; dsimp only [E]; exact Tryz.call114 args w
theorem b115 : HasBody E 115 := by intro args w; dsimp only [E]; exact Tryz.call115 args w
theorem b116 : HasBody E 116 := by intro args w; dsimp only [E]; exact Tryz.call116 args w
theorem b117 : HasBody E 117 := by intro args w; dsimp only [E]; exact Tryz.call117 args w
theorem b118 : HasBody E 118 := by intro args w; dsimp only [E]; exact Tryz.call118 args w
theorem b119 : HasBody E 119 := by intro args w; dsimp only [E]; exact Tryz.call119 args w
theorem b120 : HasBody E 120 := by intro args w; dsimp only [E]; exact Tryz.call120 args w
theorem b121 : HasBody E 121 := by intro args w; dsimp only [E]; exact Tryz.call121 args w
theorem b122 : HasBody E 122 := by intro args w; dsimp only [E]; exact Tryz.call122 args w
theorem b123 : HasBody E 123 := by intro args w; dsimp only [E]; exact Tryz.call123 args w
theorem b124 : HasBody E 124 := by intro args w; dsimp only [E]; exact Tryz.call124 args w
theorem b125 : HasBody E 125 := by intro args w; dsimp only [E]; exact Tryz.call125 args w
theorem b126 : HasBody E 126 := by intro args w; dsimp only [E]; exact Tryz.call126 args w
theorem b127 : HasBody E 127 := by intro args w; dsimp only [E]; exact Tryz.call127 args w
theorem b128 : HasBody E 128 := by intro args w; dsimp only [E]; exact Tryz.call128 args w
theorem b129 : HasBody E 129 := by intro args w; dsimp only [E]; exact Tryz.call129 args w
theorem b130 : HasBody E 130 := by intro args w; dsimp only [E]; exact Tryz.call130 args w
theorem b131 : HasBody E 131 := by intro args w; dsimp only [E]; exact Tryz.call131 args w
theorem b169 : HasBody E 169 := by intro args w; dsimp only [E]; exact Tryz.call169 args w
theorem b170 : HasBody E 170 := by intro args w; dsimp only [E]; exact Tryz.call170 args w
theorem b171 : HasBody E 171 := by intro args w; dsimp only [E]; exact Tryz.call171 args w
theorem b172 : HasBody E 172 := by intro args w; dsimp only [E]; exact Tryz.call172 args w
theorem b173 : HasBody E 173 := by intro args w; dsimp only [E]; exact Tryz.call173 args w
theorem b174 : HasBody E 174 := by intro args w; dsimp only [E]; exact Tryz.call174 args w
theorem b175 : HasBody E 175 := by intro args w; dsimp only [E]; exact Tryz.call175 args w
theorem b176 : HasBody E 176 := by intro args w; dsimp only [E]; exact Tryz.call176 args w
theorem b177 : HasBody E 177 := by intro args w; dsimp only [E]; exact Tryz.call177 args w
theorem b178 : HasBody E 178 := by intro args w; dsimp only [E]; exact Tryz.call178 args w
theorem b179 : HasBody E 179 := by intro args w; dsimp only [E]; exact Tryz.call179 args w
theorem b204 : HasBody E 204 := by intro args w; dsimp only [E]; exact Tryz.call204 args w
theorem b205 : HasBody E 205 := by intro args w; dsimp only [E]; exact Tryz.call205 args w
end Go.Proofs.YthieohigmpfknaaGreatDoor

/- The small functions of layer 4, of the program and of the specification: logic, constructors, classes. Conditions: none. -/
namespace Go.Proofs.YthieohigmpfknaaGreatDoor
open Go Go.Abs Go.Val
attribute [local irreducible] go SGo HasBody Ev

theorem tri_ev (n : Int) : Ev E 176 [.int n] (.d (.int (kn n))) := by
  refine enter1 Tryz.func176 Tryz.ntmps176 rfl rfl fun w0 F0 O => ?_
  repeat' (first | refine zS rfl ?_ | refine qA ?_ | refine qB rfl ?_ | refine qD ?_ | refine qE ?_ | refine zT rfl ?_ | refine qL rfl rfl ?_ | (refine qY rfl rfl rfl rfl ?_ ?_ <;> intro _) | (refine qV rfl ?_ ?_ <;> intro _))
  all_goals (refine congrArg D.int ?_; simp_all [kn]; try (rw [show (n == 0 || n == 2) = false by simp_all]; rfl))
theorem rnot_ev (n : Int) : Ev E 123 [.int n] (.d (.int (2 - kn n))) := by
  have h := kn_cases n
  refine enter1 Tryz.func123 Tryz.ntmps123 rfl rfl fun w0 F0 O => ?_
  repeat' (first | refine zS rfl ?_ | refine qA ?_ | refine qB rfl ?_ | refine qD ?_ | refine qP rfl rfl rfl rfl rfl rfl b176 (tri_ev n) ?_ | refine qL rfl rfl ?_ | exact zD)
theorem rand_ev (a b : Int) : Ev E 125 [.int a, .int b] (.d (.int (min (kn a) (kn b)))) := by
  have h1 := kn_cases a
  have h2 := kn_cases b
  refine enter2 Tryz.func125 Tryz.ntmps125 rfl rfl fun w0 F0 O => ?_
  repeat' (first | refine zS rfl ?_ | refine qA ?_ | refine qB rfl ?_ | refine qD ?_ | refine qP rfl rfl rfl rfl rfl rfl b176 (tri_ev a) ?_ | refine qP rfl rfl rfl rfl rfl rfl b176 (tri_ev b) ?_ | refine qL rfl rfl ?_ | exact zD)
theorem ror_ev (a b : Int) : Ev E 126 [.int a, .int b] (.d (.int (max (kn a) (kn b)))) := by
  have h1 := kn_cases a
  have h2 := kn_cases b
  refine enter2 Tryz.func126 Tryz.ntmps126 rfl rfl fun w0 F0 O => ?_
  repeat' (first | refine zS rfl ?_ | refine qA ?_ | refine qB rfl ?_ | refine qD ?_ | refine qP rfl rfl rfl rfl rfl rfl b176 (tri_ev a) ?_ | refine qP rfl rfl rfl rfl rfl rfl b176 (tri_ev b) ?_ | refine qL rfl rfl ?_ | exact zD)
theorem rnull_ev : Ev E 36 [] (.d (enc vNull)) := by
  refine enter0 Tryz.func36 Tryz.ntmps36 rfl rfl fun w0 F0 O => ?_
  repeat' (first | refine zS rfl ?_ | refine qA ?_ | refine qB rfl ?_ | refine qD ?_ | refine qL rfl rfl ?_ | exact zD)
theorem rbool_ev (b : Bool) : Ev E 120 [.bool b] (.d (enc (vBool b))) := by
  cases b
  · refine enter1 Tryz.func120 Tryz.ntmps120 rfl rfl fun w0 F0 O => ?_
    repeat' (first | refine zS rfl ?_ | refine qA ?_ | refine qB rfl ?_ | refine qD ?_ | refine qE ?_ | refine zU rfl ?_ | refine qL rfl rfl ?_ | exact zD)
  · refine enter1 Tryz.func120 Tryz.ntmps120 rfl rfl fun w0 F0 O => ?_
    repeat' (first | refine zS rfl ?_ | refine qA ?_ | refine qB rfl ?_ | refine qD ?_ | refine zT rfl ?_ | refine qL rfl rfl ?_ | exact zD)
theorem rint_ev (n : Int) : Ev E 110 [.int n] (.d (enc (vInt n))) := by
  refine enter1 Tryz.func110 Tryz.ntmps110 rfl rfl fun w0 F0 O => ?_
  repeat' (first | refine zS rfl ?_ | refine qA ?_ | refine qB rfl ?_ | refine qD ?_ | refine qL rfl rfl ?_ | exact zD)
theorem rstr_ev (s : ByteArray) : Ev E 112 [.str s] (.d (enc (vStr s))) := by
  refine enter1 Tryz.func112 Tryz.ntmps112 rfl rfl fun w0 F0 O => ?_
  repeat' (first | refine zS rfl ?_ | refine qA ?_ | refine qB rfl ?_ | refine qD ?_ | refine qL rfl rfl ?_ | exact zD)
theorem rnode_ev (n : Int) : Ev E 174 [.int n] (.d (enc (vNode n))) := by
  refine enter1 Tryz.func174 Tryz.ntmps174 rfl rfl fun w0 F0 O => ?_
  repeat' (first | refine zS rfl ?_ | refine qA ?_ | refine qB rfl ?_ | refine qD ?_ | refine qL rfl rfl ?_ | exact zD)
theorem rrat_ev (n d : Int) : Ev E 169 [.agg [.int n, .int d]] (.d (enc (vRat n d))) := by
  cases h : d == 1 with
  | true =>
    refine enter1 Tryz.func169 Tryz.ntmps169 rfl rfl fun w0 F0 O => ?_
    repeat' (first | refine zS rfl ?_ | refine qA ?_ | refine qB rfl ?_ | refine qD ?_ | refine qP rfl rfl rfl rfl rfl rfl b110 (rint_ev n) ?_ | refine zT rfl ?_ | refine qL rfl rfl ?_)
    all_goals (rw [show vRat n d = vInt n by simp [vRat, h]]; rfl)
  | false =>
    refine enter1 Tryz.func169 Tryz.ntmps169 rfl rfl fun w0 F0 O => ?_
    repeat' (first | refine zS rfl ?_ | refine qA ?_ | refine qB rfl ?_ | refine qD ?_ | refine qE ?_ | refine zU rfl ?_ | refine qL rfl rfl ?_)
    all_goals (rw [show vRat n d = V.mk 3 n d ⟨#[]⟩ [] by simp [vRat, h]]; rfl)
theorem rfromTruth_ev (t : Int) : Ev E 122 [.int t] (.d (enc (vTruth t))) := by
  cases h : kn t == 1 with
  | true =>
    refine enter1 Tryz.func122 Tryz.ntmps122 rfl rfl fun w0 F0 O => ?_
    repeat' (first | refine zS rfl ?_ | refine qA ?_ | refine qB rfl ?_ | refine qD ?_ | refine qP rfl rfl rfl rfl rfl rfl b176 (tri_ev t) ?_ | refine qP rfl rfl rfl rfl rfl rfl b36 (rnull_ev) ?_ | refine zT rfl ?_ | refine qL rfl rfl ?_)
    all_goals (rw [show vTruth t = vNull by simp [vTruth, h]]; rfl)
  | false =>
    refine enter1 Tryz.func122 Tryz.ntmps122 rfl rfl fun w0 F0 O => ?_
    repeat' (first | refine zS rfl ?_ | refine qA ?_ | refine qB rfl ?_ | refine qD ?_ | refine qE ?_ | refine qP rfl rfl rfl rfl rfl rfl b176 (tri_ev t) ?_ | refine qP rfl rfl rfl rfl rfl rfl b120 (rbool_ev _) ?_ | refine zU rfl ?_ | refine qL rfl rfl ?_)
    all_goals (rw [show vTruth t = vBool (t == 2) by simp [vTruth, h]]; rfl)
end Go.Proofs.YthieohigmpfknaaGreatDoor

/- Numbers and strings as text, by both texts. Conditions: the bounds of each lemma. -/
namespace Go.Proofs.YthieohigmpfknaaGreatDoor
open Go Go.Abs Go.Val Go.RowKit

theorem bs_list (s : ByteArray) : bs s.data.toList = s := by
  cases s
  simp [bs]
theorem strOf_one (n : Int) : strOf [n] = bs [UInt8.ofNat n.toNat] := rfl
/-- The digits of a number; none for 0. -/
def dd (u : Nat) : List UInt8 := if u = 0 then [] else Lib.decDigits u
theorem dd_step {u : Nat} (h : u ≠ 0) : dd u = dd (u / 10) ++ [UInt8.ofNat (48 + u % 10)] := by
  unfold dd
  rw [if_neg h, Lib.decDigits]
  by_cases h10 : u < 10
  · rw [dif_pos h10, if_pos (by omega), List.nil_append, Nat.mod_eq_of_lt h10]
  · rw [dif_neg h10, if_neg (by omega)]
theorem dd_len {u : Nat} (h : u < 18446744073709551616) : (dd u).length ≤ 20 := by
  unfold dd
  split
  · simp
  · rw [Lib.decDigits_length]; exact Lib.nDigits_le20 u h
structure ST (n : Int) where
  m : Int
  s : List UInt8
  hm : m.natAbs ≤ n.natAbs
  hs : dd n.natAbs = dd m.natAbs ++ s
end Go.Proofs.YthieohigmpfknaaGreatDoor
namespace Go.Proofs.YthieohigmpfknaaGreatDoor
open Go Go.Abs Go.Val Go.RowKit
attribute [local irreducible] go SGo HasBody Ev ExtEv
theorem rtext_ev (n : Int) : Ev E 170 [.int n] (.d (.str (bs (Lib.itoa n)))) := Ev.fit fun hfit => by
  have hn := (hfit (.int n) (by simp)).int
  simp only [inR] at hn
  by_cases h0 : n = 0
  · subst h0
    have e : bs (Lib.itoa 0) = ⟨#[48]⟩ := by simp [bs, Lib.itoa, Lib.decDigits]
    rw [e]
    refine enter1 Tryz.func170 Tryz.ntmps170 rfl rfl fun w0 F0 O => ?_
    repeat' (first | refine zS rfl ?_ | refine qA ?_ | refine qB rfl ?_ | refine qD ?_ | refine zT rfl ?_ | refine qL rfl rfl ?_ | exact zD)
  · have g0 : (n == 0) = false := by simpa using h0
    have hdd : (dd n.natAbs).length ≤ 20 := dd_len (by omega)
    have he : dd n.natAbs = Lib.decDigits n.natAbs := by unfold dd; rw [if_neg (by omega)]
    refine enter1 Tryz.func170 Tryz.ntmps170 rfl rfl fun w0 F0 O => ?_
    repeat' (first | refine zS rfl ?_ | refine qA ?_ | refine qB rfl ?_ | refine qD ?_ | refine qE ?_ | refine qF ?_ | refine zU rfl ?_)
    refine go_loop_ (α := ST n) (fun p => ⟨[(0, .d (.int n)), (3, .d (.str (bs p.s))), (4, .d (.int p.m))], []⟩) (fun p => p.m.natAbs) ⟨n, [], Nat.le_refl _, by simp⟩ ((zle 0)) ?_
    rintro ⟨m, s, hm, hs⟩
    dsimp only
    by_cases hz : m = 0
    · subst hz
      have g1 : ((0 : Int) != 0) = false := rfl
      have hs' : s = Lib.decDigits n.natAbs := by rw [← he, hs]; rfl
      by_cases hneg : n < 0
      · have g2 : decide (n < 0) = true := by simpa using hneg
        have e : bs (Lib.itoa n) = ⟨#[45]⟩ ++ bs s := by
          show _ = bs [45] ++ bs s
          rw [bs_append, Lib.itoa, if_pos hneg, hs']
          rfl
        rw [e]
        have hsz : (bs s).size ≤ 20 := by rw [bs_size, hs', ← he]; exact hdd
        have hone : (⟨#[45]⟩ : ByteArray).size = 1 := rfl
        repeat' (first | refine zS rfl ?_ | refine qA ?_ | refine qB rfl ?_ | refine qD ?_ | refine qH rfl ?_ | refine zT rfl ?_ | refine zU rfl ?_ | refine qL rfl rfl ?_ | exact zD)
      · have g2 : decide (n < 0) = false := by simpa using hneg
        have e : bs (Lib.itoa n) = bs s := by rw [Lib.itoa, if_neg hneg, hs', show n.natAbs = n.toNat by omega]
        rw [e]
        repeat' (first | refine zS rfl ?_ | refine qA ?_ | refine qB rfl ?_ | refine qD ?_ | refine qE ?_ | refine qH rfl ?_ | refine zU rfl ?_ | refine qL rfl rfl ?_ | exact zD)
    · have g1 : (m != 0) = true := by simpa using hz
      have hstep := dd_step (u := m.natAbs) (by omega)
      have hq : (m.tdiv 10).natAbs = m.natAbs / 10 := by
        rw [Int.natAbs_tdiv]; rfl
      have hr : (m.tmod 10).natAbs = m.natAbs % 10 := by
        rw [Int.natAbs_tmod]; rfl
      have hr9 : -9 ≤ m.tmod 10 ∧ m.tmod 10 ≤ 9 := by omega
      have hlen : s.length ≤ 20 := by
        have := congrArg List.length hs
        rw [List.length_append] at this
        omega
      have hsz : (bs s).size ≤ 20 := by rw [bs_size]; exact hlen
      have key : ∀ d : Int, d = (m.tmod 10).natAbs → strOf [48 + d] ++ bs s = bs (UInt8.ofNat (48 + m.natAbs % 10) :: s) ∧ (strOf [48 + d]).size = 1 := by
        intro d hd
        refine ⟨?_, strOf_size _⟩
        rw [strOf_one, bs_append, show (48 + d).toNat = 48 + m.natAbs % 10 by omega]
        rfl
      by_cases hneg : m.tmod 10 < 0
      · have g2 : decide (m.tmod 10 < 0) = true := by simpa using hneg
        obtain ⟨k1, k2⟩ := key (0 - m.tmod 10) (by omega)
        repeat' (first | refine zS rfl ?_ | refine qA ?_ | refine qB rfl ?_ | refine qD ?_ | refine qE ?_ | refine qF ?_ | refine qG ?_ | refine zT rfl ?_)
        refine go_stop ?_
        rw [k1]
        exact ⟨⟨m.tdiv 10, _, by omega, by rw [hs, hstep, hq, List.append_assoc, List.singleton_append]⟩, by dsimp only; omega, (zle 0)⟩
      · have g2 : decide (m.tmod 10 < 0) = false := by simpa using hneg
        obtain ⟨k1, k2⟩ := key (m.tmod 10) (by omega)
        repeat' (first | refine zS rfl ?_ | refine qA ?_ | refine qB rfl ?_ | refine qD ?_ | refine qE ?_ | refine qF ?_ | refine qG ?_ | refine zT rfl ?_ | refine zU rfl ?_)
        refine go_stop ?_
        rw [k1]
        exact ⟨⟨m.tdiv 10, _, by omega, by rw [hs, hstep, hq, List.append_assoc, List.singleton_append]⟩, by dsimp only; omega, (zle 0)⟩
structure SD1 (l : List UInt8) where
  i : Nat
  s : List UInt8
  hi : i ≤ l.length
  hs : s ++ dbl (l.drop i) = dbl l
theorem doubled_ev (s : ByteArray) (h : s.size ≤ 1000000000000000000) : Ev E 171 [.str s] (.d (.str (bs (dbl s.data.toList)))) := by
  have hl : s.data.toList.length = s.size := by simp
  have hd2 := dbl_len s.data.toList
  refine enter1 Tryz.func171 Tryz.ntmps171 rfl rfl fun w0 F0 O => ?_
  repeat' (first | refine zS rfl ?_ | refine qA ?_ | refine qB rfl ?_ | refine qD ?_ | refine qF ?_)
  refine go_loop_ (α := SD1 s.data.toList) (fun p => ⟨[(0, .d (.str s)), (3, .d (.str (bs p.s))), (4, .d (.int p.i))], []⟩) (fun p => s.size - p.i) ⟨0, [], by omega, rfl⟩ ((zle 0)) ?_
  rintro ⟨i, t, hi, hs⟩
  dsimp only
  have htl : t.length ≤ 2 * s.size := by
    have := congrArg List.length hs
    rw [List.length_append] at this
    omega
  have hts : (bs t).size ≤ 2 * s.size := by rw [bs_size]; exact htl
  rcases Nat.lt_or_ge i s.size with hlt | hge
  · have g1 : decide ((i : Int) < (s.size : Int)) = true := by simpa using hlt
    have hx := List.getElem?_eq_getElem (show i < s.data.toList.length by omega)
    generalize s.data.toList[i] = b at hx
    have hb1 : byteAt s i = (b.toNat : Int) := by
      unfold byteAt
      rw [List.getD_eq_getElem?_getD, hx]
      rfl
    have hb : 0 ≤ byteAt s (i : Int).toNat ∧ byteAt s (i : Int).toNat ≤ 255 := by simp only [Int.toNat_natCast, hb1]; have := b.toNat_lt; omega
    have hex : s.extract (i : Int).toNat ((i : Int) + 1).toNat = bs [b] := by
      rw [Int.toNat_natCast, show ((i : Int) + 1).toNat = i + 1 by omega]
      have : (s.extract i (i + 1)).data.toList = [b] := by
        rw [ByteArray.data_extract, Array.toList_extract]
        simp only [List.extract_eq_take_drop, Nat.add_sub_cancel_left]
        rw [drop_at hx]
        rfl
      rw [← bs_list (s.extract i (i + 1)), this]
    have hdrop := drop_at hx
    have e : dbl (b :: s.data.toList.drop (i + 1)) = (bif b == 39 then [39, 39] else [b]) ++ dbl (s.data.toList.drop (i + 1)) := rfl
    rw [hdrop, e] at hs
    have hone : (bs [b]).size = 1 := rfl
    have hone' : (⟨#[39]⟩ : ByteArray).size = 1 := rfl
    have k0 : bs t ++ s.extract (i : Int).toNat ((i : Int) + 1).toNat = bs (t ++ [b]) := by rw [hex, bs_append]
    have k1 : (s.extract (i : Int).toNat ((i : Int) + 1).toNat).size = 1 := by rw [hex]; rfl
    cases hq : b == 39 with
    | true =>
      have g2 : (byteAt s (i : Int).toNat == 39) = true := by
        simp only [Int.toNat_natCast, hb1]
        rw [beq_iff_eq.1 hq]
        rfl
      rw [hq] at hs
      have k3 : (bs t ++ s.extract (i : Int).toNat ((i : Int) + 1).toNat).size = t.length + 1 := by rw [k0, bs_size, List.length_append]; rfl
      repeat' (first | refine zS rfl ?_ | refine qA ?_ | refine qB rfl ?_ | refine qD ?_ | refine qE ?_ | refine qF ?_ | refine qG ?_ | (refine qS rfl ⟨⟨by omega, by omega, by omega⟩, trivial⟩ ?_) | refine zT rfl ?_)
      refine go_stop ?_
      have k2 : bs t ++ s.extract (i : Int).toNat ((i : Int) + 1).toNat ++ ⟨#[39]⟩ = bs (t ++ [39, 39]) := by
        rw [k0]
        show bs (t ++ [b]) ++ bs [39] = _
        rw [bs_append, beq_iff_eq.1 hq, List.append_assoc]
        rfl
      rw [k2]
      exact ⟨⟨i + 1, t ++ [39, 39], by omega, by rw [List.append_assoc]; exact hs⟩, by dsimp only; omega, (zle 0)⟩
    | false =>
      have g2 : (byteAt s (i : Int).toNat == 39) = false := by
        simp only [Int.toNat_natCast, hb1]
        rw [beq_eq_false_iff_ne] at hq ⊢
        intro hc
        apply hq
        have : b.toNat = 39 := by omega
        exact UInt8.toNat_inj.1 this
      rw [hq] at hs
      repeat' (first | refine zS rfl ?_ | refine qA ?_ | refine qB rfl ?_ | refine qD ?_ | refine qE ?_ | refine qF ?_ | refine qG ?_ | (refine qS rfl ⟨⟨by omega, by omega, by omega⟩, trivial⟩ ?_) | refine zT rfl ?_ | refine zU rfl ?_)
      refine go_stop ?_
      rw [k0]
      exact ⟨⟨i + 1, t ++ [b], by omega, by rw [List.append_assoc]; exact hs⟩, by dsimp only; omega, (zle 0)⟩
  · have g1 : decide ((i : Int) < (s.size : Int)) = false := by simp; omega
    have : s.data.toList.drop i = [] := List.drop_eq_nil_of_le (by omega)
    rw [this] at hs
    have hs' : t = dbl s.data.toList := by rw [← hs]; simp [dbl]
    rw [← hs']
    repeat' (first | refine zS rfl ?_ | refine qA ?_ | refine qB rfl ?_ | refine qD ?_ | refine qH rfl ?_ | refine zU rfl ?_ | refine qL rfl rfl ?_ | exact zD)
end Go.Proofs.YthieohigmpfknaaGreatDoor

/- Values as text, by both texts. Conditions: a text of at most 2^40 bytes. -/
namespace Go.Proofs.YthieohigmpfknaaGreatDoor
open Go Go.Abs Go.Val Go.RowKit

structure SJ (xs : List (List UInt8)) (sep : List UInt8) where
  i : Nat
  s : List UInt8
  hi : i ≤ xs.length
  h0 : i = 0 → s = []
  h1 : i ≠ 0 → s ++ Lib.joinTail sep (xs.drop i) = Lib.join xs sep
theorem joinTail_at {xs : List (List UInt8)} {sep x : List UInt8} {i : Nat} (h : xs[i]? = some x) : Lib.joinTail sep (xs.drop i) = sep ++ x ++ Lib.joinTail sep (xs.drop (i + 1)) := by
  rw [drop_at h]
  rfl
end Go.Proofs.YthieohigmpfknaaGreatDoor
namespace Go.Proofs.YthieohigmpfknaaGreatDoor
open Go Go.Abs Go.Val Go.RowKit
attribute [local irreducible] go SGo HasBody Ev ExtEv
theorem joined_ev (l : List V) (sep : List UInt8) (hT : ∀ x ∈ l, Ev E 113 [enc x] (.d (.str (bs (txt x))))) (hlen : (Lib.join (l.map txt) sep).length ≤ 1099511627776) (hsep : sep.length ≤ 2) :
    Ev E 172 [.sl (encL l), .str (bs sep)] (.d (.str (bs (Lib.join (l.map txt) sep)))) := Ev.fit fun hfit => by
  obtain ⟨hmax, -⟩ := fit_encL (hfit (.sl (encL l)) (by simp))
  have hle : (encL l).length = l.length := encL_len l
  have hml : (l.map txt).length = l.length := by simp
  refine enter2 Tryz.func172 Tryz.ntmps172 rfl rfl fun w0 F0 O => ?_
  repeat' (first | refine zS rfl ?_ | refine qA ?_ | refine qB rfl ?_ | refine qD ?_ | refine qF ?_)
  refine go_loop_ (α := SJ (l.map txt) sep) (fun p => ⟨[(0, .d (.sl (encL l))), (1, .d (.str (bs sep))), (5, .d (.str (bs p.s))), (6, .d (.int p.i))], []⟩) (fun p => l.length - p.i) ⟨0, [], by omega, fun _ => rfl, fun h => absurd rfl h⟩ ((zle 0)) ?_
  rintro ⟨i, s, hi, h0, h1⟩
  dsimp only
  have hss : (bs sep).size ≤ 2 := by rw [bs_size]; exact hsep
  rcases Nat.lt_or_ge i l.length with hlt | hge
  · have g1 : decide ((i : Int) < ((encL l).length : Int)) = true := by rw [hle]; simpa using hlt
    have hx0 := List.getElem?_eq_getElem hlt
    generalize l[i] = x at hx0
    have hx : (encL l)[(i : Int).toNat]? = some (enc x) := encL_get (by rw [Int.toNat_natCast]; exact hx0)
    have hm : (l.map txt)[i]? = some (txt x) := by rw [List.getElem?_map, hx0]; rfl
    have ht := hT x (List.mem_of_getElem? hx0)
    by_cases hi0 : i = 0
    · subst hi0
      have hs0 := h0 rfl
      subst hs0
      have g2 : decide (((0 : Nat) : Int) > 0) = false := rfl
      have hl2 : (txt x).length ≤ 1099511627776 := Nat.le_trans (join_len sep _ _ (List.mem_of_getElem? hm)) hlen
      have z1 : (bs (txt x)).size ≤ 1099511627776 := by rw [bs_size]; exact hl2
      have z2 : (bs []).size = 0 := rfl
      repeat' (first | refine zS rfl ?_ | refine qA ?_ | refine qB rfl ?_ | refine qD ?_ | refine qE ?_ | refine qF ?_ | refine qG ?_ | refine qI (enc x) rfl (guardX_ok rfl) rfl rfl rfl rfl rfl rfl (by first | omega | decide) hx ?_ | refine qP rfl rfl rfl rfl rfl rfl b113 (ht) ?_ | refine zT rfl ?_ | refine zU rfl ?_)
      refine go_stop ?_
      rw [bs_append]
      exact ⟨⟨1, [] ++ txt x, by omega, fun h => by omega, fun _ => by have := drop_at hm; rw [List.drop_zero] at this; rw [List.nil_append]; conv => rhs; rw [this, Lib.join_cons]⟩, by dsimp only; omega, (zle 0)⟩
    · have g2 : decide ((i : Int) > 0) = true := by simp; omega
      have h1' := h1 hi0
      rw [joinTail_at hm] at h1'
      have hll : s.length + (sep.length + (txt x).length) ≤ 1099511627776 := by
        have := congrArg List.length h1'
        simp only [List.length_append] at this
        omega
      have z1 : (bs (txt x)).size = (txt x).length := bs_size _
      have z2 : (bs s).size = s.length := bs_size _
      have z3 : (bs sep).size = sep.length := bs_size _
      repeat' (first | refine zS rfl ?_ | refine qA ?_ | refine qB rfl ?_ | refine qD ?_ | refine qE ?_ | refine qF ?_ | refine qG ?_ | refine qI (enc x) rfl (guardX_ok rfl) rfl rfl rfl rfl rfl rfl (by first | omega | decide) hx ?_ | refine qP rfl rfl rfl rfl rfl rfl b113 (ht) ?_ | refine zT rfl ?_)
      refine go_stop ?_
      rw [bs_append, bs_append]
      exact ⟨⟨i + 1, s ++ sep ++ txt x, by omega, fun h => by omega, fun _ => by rw [← h1']; simp only [List.append_assoc]⟩, by dsimp only; omega, (zle 0)⟩
  · have g1 : decide ((i : Int) < ((encL l).length : Int)) = false := by rw [hle]; simp; omega
    have e : Lib.join (l.map txt) sep = s := by
      by_cases hi0 : i = 0
      · have : l = [] := List.eq_nil_of_length_eq_zero (by omega)
        rw [this, h0 hi0]
        rfl
      · rw [← h1 hi0, List.drop_eq_nil_of_le (by omega)]
        simp [Lib.joinTail]
    rw [e]
    repeat' (first | refine zS rfl ?_ | refine qA ?_ | refine qB rfl ?_ | refine qD ?_ | refine qH rfl ?_ | refine zU rfl ?_ | refine qL rfl rfl ?_ | exact zD)
theorem rtxt_ev (v : V) : (txt v).length ≤ 1099511627776 → Ev E 113 [enc v] (.d (.str (bs (txt v)))) := by
  refine vind (P := fun v => (txt v).length ≤ 1099511627776 → Ev E 113 [enc v] (.d (.str (bs (txt v))))) (fun k n d s l ih hlen => Ev.fit fun hfit => ?_) v
  obtain ⟨-, hn, hd, -, -, -⟩ := fit_enc (hfit (enc (.mk k n d s l)) (by simp))
  have hv := RValid_ev (.mk k n d s l)
  cases hok : Val.okV (.mk k n d s l) with
  | false =>
    rw [hok] at hv
    have e : txt (.mk k n d s l) = [63] := by simp only [txt, hok]; rfl
    rw [e]
    show Ev E _ _ (.d (.str ⟨#[63]⟩))
    refine enter1 Tryz.func113 Tryz.ntmps113 rfl rfl fun w0 F0 O => ?_
    repeat' (first | refine zS rfl ?_ | refine qA ?_ | refine qB rfl ?_ | refine qD ?_ | refine qP rfl rfl rfl rfl rfl rfl b16 (hv) ?_ | refine zT rfl ?_ | refine qL rfl rfl ?_ | exact zD)
  | true =>
    rw [hok] at hv
    have ln := itoa_len hn
    have ld := itoa_len hd
    have zn : (bs (Lib.itoa n)).size ≤ 21 := by rw [bs_size]; exact ln
    have zd : (bs (Lib.itoa d)).size ≤ 21 := by rw [bs_size]; exact ld
    have o1 : (⟨#[47]⟩ : ByteArray).size = 1 := rfl
    have o2 : (⟨#[39]⟩ : ByteArray).size = 1 := rfl
    have o3 : (⟨#[35]⟩ : ByteArray).size = 1 := rfl
    have o4 : (⟨#[64]⟩ : ByteArray).size = 1 := rfl
    have o5 : (⟨#[91]⟩ : ByteArray).size = 1 := rfl
    have o6 : (⟨#[93]⟩ : ByteArray).size = 1 := rfl
    have o7 : (⟨#[60]⟩ : ByteArray).size = 1 := rfl
    have o8 : (⟨#[62]⟩ : ByteArray).size = 1 := rfl
    have hk := okV_k hok
    simp only [V.k] at hk
    have tn := rtext_ev n
    have td := rtext_ev d
    rcases hk with rfl | rfl | rfl | rfl | rfl | rfl | rfl | rfl | rfl
    · have e : txt (.mk 0 n d s l) = [110, 117, 108, 108] := by simp only [txt, hok]; rfl
      rw [e]
      show Ev E _ _ (.d (.str ⟨#[110, 117, 108, 108]⟩))
      refine enter1 Tryz.func113 Tryz.ntmps113 rfl rfl fun w0 F0 O => ?_
      repeat' (first | refine zS rfl ?_ | refine qA ?_ | refine qB rfl ?_ | refine qD ?_ | refine qE ?_ | refine qF ?_ | refine qG ?_ | refine qP rfl rfl rfl rfl rfl rfl b16 (hv) ?_ | refine zU rfl ?_ | refine qL rfl rfl ?_ | exact zD)
    · have e : txt (.mk 1 n d s l) = (bif n == 1 then [116, 114, 117, 101] else [102, 97, 108, 115, 101]) := by simp only [txt, hok]; rfl
      rw [e]
      cases h1 : n == 1 with
      | true =>
        show Ev E _ _ (.d (.str ⟨#[116, 114, 117, 101]⟩))
        refine enter1 Tryz.func113 Tryz.ntmps113 rfl rfl fun w0 F0 O => ?_
        repeat' (first | refine zS rfl ?_ | refine qA ?_ | refine qB rfl ?_ | refine qD ?_ | refine qE ?_ | refine qF ?_ | refine qP rfl rfl rfl rfl rfl rfl b16 (hv) ?_ | refine zT rfl ?_ | refine zU rfl ?_ | refine qL rfl rfl ?_ | exact zD)
      | false =>
        show Ev E _ _ (.d (.str ⟨#[102, 97, 108, 115, 101]⟩))
        refine enter1 Tryz.func113 Tryz.ntmps113 rfl rfl fun w0 F0 O => ?_
        repeat' (first | refine zS rfl ?_ | refine qA ?_ | refine qB rfl ?_ | refine qD ?_ | refine qE ?_ | refine qF ?_ | refine qP rfl rfl rfl rfl rfl rfl b16 (hv) ?_ | refine zT rfl ?_ | refine zU rfl ?_ | refine qL rfl rfl ?_ | exact zD)
    · have e : txt (.mk 2 n d s l) = Lib.itoa n := by simp only [txt, hok]; rfl
      rw [e]
      refine enter1 Tryz.func113 Tryz.ntmps113 rfl rfl fun w0 F0 O => ?_
      repeat' (first | refine zS rfl ?_ | refine qA ?_ | refine qB rfl ?_ | refine qD ?_ | refine qE ?_ | refine qF ?_ | refine qP rfl rfl rfl rfl rfl rfl b16 (hv) ?_ | refine qP rfl rfl rfl rfl rfl rfl b170 (tn) ?_ | refine zT rfl ?_ | refine zU rfl ?_ | refine qL rfl rfl ?_ | exact zD)
    · have e : bs (txt (.mk 3 n d s l)) = bs (Lib.itoa n) ++ ⟨#[47]⟩ ++ bs (Lib.itoa d) := by
        show _ = bs (Lib.itoa n) ++ bs [47] ++ bs (Lib.itoa d)
        rw [bs_append, bs_append]
        simp only [txt, hok]
        rfl
      rw [e]
      refine enter1 Tryz.func113 Tryz.ntmps113 rfl rfl fun w0 F0 O => ?_
      repeat' (first | refine zS rfl ?_ | refine qA ?_ | refine qB rfl ?_ | refine qC (by kernel_rfl) ?_ | refine qD ?_ | refine qE ?_ | refine qF ?_ | refine qP rfl rfl rfl rfl rfl rfl b16 (hv) ?_ | refine qP (d := 22) rfl rfl rfl rfl rfl rfl b170 (tn) ?_ | refine qP rfl rfl rfl rfl rfl rfl b170 (td) ?_ | refine zT rfl ?_ | refine zU rfl ?_ | refine qL rfl rfl ?_ | exact zD)
    · have e : bs (txt (.mk 4 n d s l)) = ⟨#[39]⟩ ++ bs (dbl s.data.toList) ++ ⟨#[39]⟩ := by
        show _ = bs [39] ++ bs (dbl s.data.toList) ++ bs [39]
        rw [bs_append, bs_append]
        simp only [txt, hok]
        rfl
      rw [e]
      have h4 := okV_4 hok
      have hdb := doubled_ev s (by omega)
      have hl2 := dbl_len s.data.toList
      have hsl : s.data.toList.length = s.size := by simp
      have zs : (bs (dbl s.data.toList)).size ≤ 200 := by rw [bs_size]; omega
      refine enter1 Tryz.func113 Tryz.ntmps113 rfl rfl fun w0 F0 O => ?_
      repeat' (first | refine zS rfl ?_ | refine qA ?_ | refine qB rfl ?_ | refine qD ?_ | refine qE ?_ | refine qF ?_ | refine qP rfl rfl rfl rfl rfl rfl b16 (hv) ?_ | refine qP rfl rfl rfl rfl rfl rfl b171 (hdb) ?_ | refine zT rfl ?_ | refine zU rfl ?_ | refine qL rfl rfl ?_ | exact zD)
    · have e : bs (txt (.mk 5 n d s l)) = ⟨#[35]⟩ ++ bs (Lib.itoa n) := by
        show _ = bs [35] ++ bs (Lib.itoa n)
        rw [bs_append]
        simp only [txt, hok]
        rfl
      rw [e]
      refine enter1 Tryz.func113 Tryz.ntmps113 rfl rfl fun w0 F0 O => ?_
      repeat' (first | refine zS rfl ?_ | refine qA ?_ | refine qB rfl ?_ | refine qD ?_ | refine qE ?_ | refine qF ?_ | refine qP rfl rfl rfl rfl rfl rfl b16 (hv) ?_ | refine qP rfl rfl rfl rfl rfl rfl b170 (tn) ?_ | refine zT rfl ?_ | refine zU rfl ?_ | refine qL rfl rfl ?_ | exact zD)
    · have e : bs (txt (.mk 6 n d s l)) = ⟨#[64]⟩ ++ bs (Lib.itoa n) := by
        show _ = bs [64] ++ bs (Lib.itoa n)
        rw [bs_append]
        simp only [txt, hok]
        rfl
      rw [e]
      refine enter1 Tryz.func113 Tryz.ntmps113 rfl rfl fun w0 F0 O => ?_
      repeat' (first | refine zS rfl ?_ | refine qA ?_ | refine qB rfl ?_ | refine qD ?_ | refine qE ?_ | refine qF ?_ | refine qP rfl rfl rfl rfl rfl rfl b16 (hv) ?_ | refine qP rfl rfl rfl rfl rfl rfl b170 (tn) ?_ | refine zT rfl ?_ | refine zU rfl ?_ | refine qL rfl rfl ?_ | exact zD)
    · have e0 : txt (.mk 7 n d s l) = [60] ++ Lib.join (l.map txt) [32] ++ [62] := by simp only [txt, hok, txtL_map]; rfl
      have e : bs (txt (.mk 7 n d s l)) = ⟨#[60]⟩ ++ bs (Lib.join (l.map txt) [32]) ++ ⟨#[62]⟩ := by
        show _ = bs [60] ++ bs (Lib.join (l.map txt) [32]) ++ bs [62]
        rw [bs_append, bs_append, e0]
      rw [e]
      have hjl : (Lib.join (l.map txt) [32]).length ≤ 1099511627776 := by
        rw [e0, List.length_append, List.length_append] at hlen
        omega
      have hj := joined_ev l [32] (fun x hx => ih x hx (Nat.le_trans (join_len [32] _ _ (List.mem_map_of_mem hx)) hjl)) hjl (by simp)
      have zj : (bs (Lib.join (l.map txt) [32])).size ≤ 1099511627776 := by rw [bs_size]; exact hjl
      refine enter1 Tryz.func113 Tryz.ntmps113 rfl rfl fun w0 F0 O => ?_
      repeat' (first | refine zS rfl ?_ | refine qA ?_ | refine qB rfl ?_ | refine qD ?_ | refine qE ?_ | refine qF ?_ | refine qP rfl rfl rfl rfl rfl rfl b16 (hv) ?_ | refine qP rfl rfl rfl rfl rfl rfl b172 (hj) ?_ | refine zT rfl ?_ | refine zU rfl ?_ | refine qL rfl rfl ?_ | exact zD)
    · have e0 : txt (.mk 8 n d s l) = [91] ++ Lib.join (l.map txt) [44, 32] ++ [93] := by simp only [txt, hok, txtL_map]; rfl
      have e : bs (txt (.mk 8 n d s l)) = ⟨#[91]⟩ ++ bs (Lib.join (l.map txt) [44, 32]) ++ ⟨#[93]⟩ := by
        show _ = bs [91] ++ bs (Lib.join (l.map txt) [44, 32]) ++ bs [93]
        rw [bs_append, bs_append, e0]
      rw [e]
      have hjl : (Lib.join (l.map txt) [44, 32]).length ≤ 1099511627776 := by
        rw [e0, List.length_append, List.length_append] at hlen
        omega
      have hj := joined_ev l [44, 32] (fun x hx => ih x hx (Nat.le_trans (join_len [44, 32] _ _ (List.mem_map_of_mem hx)) hjl)) hjl (by simp)
      have zj : (bs (Lib.join (l.map txt) [44, 32])).size ≤ 1099511627776 := by rw [bs_size]; exact hjl
      refine enter1 Tryz.func113 Tryz.ntmps113 rfl rfl fun w0 F0 O => ?_
      repeat' (first | refine zS rfl ?_ | refine qA ?_ | refine qB rfl ?_ | refine qD ?_ | refine qE ?_ | refine qF ?_ | refine qP rfl rfl rfl rfl rfl rfl b16 (hv) ?_ | refine qP rfl rfl rfl rfl rfl rfl b172 (hj) ?_ | refine zT rfl ?_ | refine zU rfl ?_ | refine qL rfl rfl ?_ | exact zD)
end Go.Proofs.YthieohigmpfknaaGreatDoor

/- Copies of values, by both texts. Conditions: no list of more than a million elements. -/
namespace Go.Proofs.YthieohigmpfknaaGreatDoor
open Go Go.Abs Go.Val Go.RowKit
attribute [local irreducible] go SGo HasBody Ev ExtEv EvO

structure SCp (l : List V) where
  i : Nat
  hi : i ≤ l.length
theorem rcopy_ev (v : V) : nar v = true → Ev E 109 [.sl (kids v)] (.d (.sl (kids v))) := by
  refine vind (P := fun v => nar v = true → Ev E 109 [.sl (kids v)] (.d (.sl (kids v)))) (fun k n d s l ih hn => ?_) v
  obtain ⟨hl, hm⟩ := nar_l hn
  simp only [V.l] at hl hm
  show Ev E 109 [.sl (encL l)] (.d (.sl (encL l)))
  have hle : (encL l).length = l.length := encL_len _
  refine enter1 Tryz.func109 Tryz.ntmps109 rfl rfl fun w0 F0 O => ?_
  repeat' (first | refine zS rfl ?_ | refine qA ?_ | refine qB rfl ?_ | refine qD ?_ | refine qF ?_)
  refine go_loop_ (α := SCp l) (fun p => ⟨[(0, .d (.sl (encL l))), (3, rowX (encL (l.take p.i))), (4, .d (.int p.i))], rowO 28 5 (encL (l.take p.i))⟩) (fun p => l.length - p.i) ⟨0, by omega⟩ (by rw [List.take_zero]; exact (zle 0)) ?_
  rintro ⟨i, hi⟩
  dsimp only
  rcases Nat.lt_or_ge i l.length with hlt | hge
  · have g1 : decide ((i : Int) < ((encL l).length : Int)) = true := by rw [hle]; simpa using hlt
    have hx0 := List.getElem?_eq_getElem hlt
    generalize l[i] = x at hx0
    have hx : (encL l)[(i : Int).toNat]? = some (enc x) := encL_get (by rw [Int.toNat_natCast]; exact hx0)
    have hmem := List.mem_of_getElem? hx0
    have hcx := ih x hmem (narL_mem hm x hmem)
    have hta := encL_take hx0
    have hll : (encL (l.take i)).length ≤ i := by rw [encL_len]; simp; omega
    generalize encL (l.take i) = out at *
    match out, hll with
    | [], hll =>
      dsimp only [rowX, rowO]
      repeat' (first | refine zS rfl ?_ | refine qA ?_ | refine qB rfl ?_ | refine qD ?_ | refine qE ?_ | refine qF ?_ | refine qG ?_ | refine qI (enc x) rfl (guardX_ok rfl) rfl rfl rfl rfl rfl rfl (by first | omega | decide) hx ?_ | refine qP rfl rfl rfl rfl rfl rfl b109 (hcx) ?_ | (refine qS rfl ⟨by simp, fun d hd => by (obtain rfl := List.mem_singleton.1 hd; rfl), by (show (0 + 1) * 64 ≤ 140737488355328; omega), by (show 0 + 1 ≤ 9223372036854775807; omega)⟩ ?_) | refine zT rfl ?_)
      refine go_stop ?_
      refine ⟨⟨i + 1, by omega⟩, by dsimp only; omega, ?_⟩
      dsimp only
      rw [hta]
      exact (zren [1])
    | a :: q, hll =>
      dsimp only [rowX, rowO]
      repeat' (first | refine zS rfl ?_ | refine qA ?_ | refine qB rfl ?_ | refine qD ?_ | refine qE ?_ | refine qF ?_ | refine qG ?_ | refine qI (enc x) rfl (guardX_ok rfl) rfl rfl rfl rfl rfl rfl (by first | omega | decide) hx ?_ | refine qP rfl rfl rfl rfl rfl rfl b109 (hcx) ?_ | (refine qS rfl ⟨by simp, fun d hd => by (obtain rfl := List.mem_singleton.1 hd; rfl), by (show ((a :: q).length + 1) * 64 ≤ 140737488355328; omega), by (show (a :: q).length + 1 ≤ 9223372036854775807; omega)⟩ ?_) | refine zT rfl ?_)
      refine go_stop ?_
      refine ⟨⟨i + 1, by omega⟩, by dsimp only; omega, ?_⟩
      dsimp only
      rw [hta]
      exact (zren [2])
  · have g1 : decide ((i : Int) < ((encL l).length : Int)) = false := by rw [hle]; simp; omega
    rw [List.take_of_length_le hge]
    generalize encL l = out at *
    match out with
    | [] =>
      dsimp only [rowX, rowO]
      repeat' (first | refine zS rfl ?_ | refine qA ?_ | refine qB rfl ?_ | refine qD ?_ | refine qH rfl ?_ | refine zU rfl ?_ | refine qL rfl rfl ?_ | exact zD)
    | a :: q =>
      dsimp only [rowX, rowO]
      refine qA ?_
      refine go_frz 0 rfl ?_
      repeat' (first | refine zS rfl ?_ | refine qA ?_ | refine qB rfl ?_ | refine qD ?_ | refine qH rfl ?_ | refine zU rfl ?_ | refine qL rfl rfl ?_ | exact zD)
end Go.Proofs.YthieohigmpfknaaGreatDoor

/- Equality and Less, by both texts. Conditions: none. -/
namespace Go.Proofs.YthieohigmpfknaaGreatDoor
open Go Go.Abs Go.Val Go.RowKit
attribute [local irreducible] go SGo HasBody Ev ExtEv EvO

set_option maxHeartbeats 2000000 in
theorem rEqual_ev (a : V) : ∀ b : V, Ev E 127 [enc a, enc b] (.d (.int (eqF a b))) := by
  refine vind (P := fun a => ∀ b : V, Ev E 127 [enc a, enc b] (.d (.int (eqF a b)))) (fun k n d s l ih b => ?_) a
  refine Ev.fit fun hfit => ?_
  obtain ⟨-, -, -, -, hma, -⟩ := fit_enc (hfit (enc (.mk k n d s l)) (by simp))
  rw [eqF_eq]
  have ih' : ∀ x ∈ (V.mk k n d s l).l, ∀ y : V, Ev E 127 [enc x, enc y] (.d (.int (eqF x y))) := ih
  generalize V.mk k n d s l = a at *
  clear ih
  have va := RValid_ev a
  have vb := RValid_ev b
  have na := RNumber_ev a
  have nb := RNumber_ev b
  have hc := rcmp_ev (numN a) (numD a) (numN b) (numD b)
  have hla : (kids a).length = a.l.length := kids_len a
  have hlb : (kids b).length = b.l.length := kids_len b
  unfold stepE
  cases h1 : a.k == 0 with
  | true =>
    simp only [Bool.true_or, cond_true]
    refine enter2 Tryz.func127 Tryz.ntmps127 rfl rfl fun w0 F0 O => ?_
    repeat' (first | refine zS rfl ?_ | refine qA ?_ | refine qB rfl ?_ | refine qD ?_ | refine zT rfl ?_ | refine qL rfl rfl ?_ | refine zX rfl rfl rfl rfl ?_ | exact zD)
  | false =>
  cases h2 : b.k == 0 with
  | true =>
    simp only [Bool.or_true, Bool.true_or, cond_true]
    refine enter2 Tryz.func127 Tryz.ntmps127 rfl rfl fun w0 F0 O => ?_
    repeat' (first | refine zS rfl ?_ | refine qA ?_ | refine qB rfl ?_ | refine qD ?_ | refine zT rfl ?_ | refine qL rfl rfl ?_ | refine zX rfl rfl rfl rfl ?_ | refine zW rfl rfl rfl rfl ?_ | exact zD)
  | false =>
  cases h3 : Val.okV a with
  | false =>
    rw [h3] at va
    simp only [Bool.or_false, Bool.false_or, Bool.not_false, Bool.true_or, cond_true]
    refine enter2 Tryz.func127 Tryz.ntmps127 rfl rfl fun w0 F0 O => ?_
    repeat' (first | refine zS rfl ?_ | refine qA ?_ | refine qB rfl ?_ | refine qD ?_ | refine qP rfl rfl rfl rfl rfl rfl b16 (va) ?_ | refine zT rfl ?_ | refine qL rfl rfl ?_ | refine zW rfl rfl rfl rfl ?_ | exact zD)
  | true =>
  rw [h3] at va
  cases h4 : Val.okV b with
  | false =>
    rw [h4] at vb
    simp only [Bool.or_false, Bool.false_or, Bool.not_false, Bool.not_true, cond_true]
    refine enter2 Tryz.func127 Tryz.ntmps127 rfl rfl fun w0 F0 O => ?_
    repeat' (first | refine zS rfl ?_ | refine qA ?_ | refine qB rfl ?_ | refine qD ?_ | refine qP (d := 21) rfl rfl rfl rfl rfl rfl b16 (va) ?_ | refine qP rfl rfl rfl rfl rfl rfl b16 (vb) ?_ | refine zT rfl ?_ | refine qL rfl rfl ?_ | refine zW rfl rfl rfl rfl ?_ | exact zD)
  | true =>
  rw [h4] at vb
  simp only [Bool.or_false, Bool.not_true, cond_false]
  cases h5 : isNum a with
  | true =>
    rw [h5] at na
    cases h6 : isNum b with
    | true =>
      rw [h6] at nb
      have hy := yes_ev (cmpQ (numN a) (numD a) (numN b) (numD b) == 0)
      simp only [Bool.and_true, cond_true]
      refine enter2 Tryz.func127 Tryz.ntmps127 rfl rfl fun w0 F0 O => ?_
      repeat' (first | refine zS rfl ?_ | refine qA ?_ | refine qB rfl ?_ | refine qD ?_ | refine qE ?_ | refine qP (d := 21) rfl rfl rfl rfl rfl rfl b16 (va) ?_ | refine qP rfl rfl rfl rfl rfl rfl b16 (vb) ?_ | refine qP (d := 31) rfl rfl rfl rfl rfl rfl b42 (na) ?_ | refine qP rfl rfl rfl rfl rfl rfl b42 (nb) ?_ | refine qP rfl rfl rfl rfl rfl rfl b43 (hc) ?_ | refine qP rfl rfl rfl rfl rfl rfl b38 (hy) ?_ | refine zT rfl ?_ | refine zU rfl ?_ | refine qL rfl rfl ?_ | refine zW rfl rfl rfl rfl ?_ | exact zD)
    | false =>
      rw [h6] at nb
      simp only [Bool.and_false, cond_false]
      have hk : (a.k != b.k) = true := by
        rw [isNum_k h3] at h5
        rw [isNum_k h4] at h6
        simp only [Bool.or_eq_true, Bool.or_eq_false_iff, beq_iff_eq, beq_eq_false_iff_ne, bne_iff_ne] at *
        omega
      rw [hk]
      refine enter2 Tryz.func127 Tryz.ntmps127 rfl rfl fun w0 F0 O => ?_
      repeat' (first | refine zS rfl ?_ | refine qA ?_ | refine qB rfl ?_ | refine qD ?_ | refine qE ?_ | refine qP (d := 21) rfl rfl rfl rfl rfl rfl b16 (va) ?_ | refine qP rfl rfl rfl rfl rfl rfl b16 (vb) ?_ | refine qP (d := 31) rfl rfl rfl rfl rfl rfl b42 (na) ?_ | refine qP rfl rfl rfl rfl rfl rfl b42 (nb) ?_ | refine zT rfl ?_ | refine zU rfl ?_ | refine qL rfl rfl ?_ | refine zW rfl rfl rfl rfl ?_ | exact zD)
  | false =>
    rw [h5] at na
    simp only [Bool.false_and, cond_false]
    cases h7 : a.k != b.k with
    | true =>
      refine enter2 Tryz.func127 Tryz.ntmps127 rfl rfl fun w0 F0 O => ?_
      repeat' (first | refine zS rfl ?_ | refine qA ?_ | refine qB rfl ?_ | refine qD ?_ | refine qE ?_ | refine qP (d := 21) rfl rfl rfl rfl rfl rfl b16 (va) ?_ | refine qP rfl rfl rfl rfl rfl rfl b16 (vb) ?_ | refine qP (d := 31) rfl rfl rfl rfl rfl rfl b42 (na) ?_ | refine qP rfl rfl rfl rfl rfl rfl b42 (nb) ?_ | refine zT rfl ?_ | refine zU rfl ?_ | refine qL rfl rfl ?_ | refine zW rfl rfl rfl rfl ?_ | exact zD)
    | false =>
    cases h8 : a.k == 4 with
    | true =>
      have hy := yes_ev (a.s.toList == b.s.toList)
      refine enter2 Tryz.func127 Tryz.ntmps127 rfl rfl fun w0 F0 O => ?_
      repeat' (first | refine zS rfl ?_ | refine qA ?_ | refine qB rfl ?_ | refine qD ?_ | refine qE ?_ | refine qP (d := 21) rfl rfl rfl rfl rfl rfl b16 (va) ?_ | refine qP rfl rfl rfl rfl rfl rfl b16 (vb) ?_ | refine qP (d := 31) rfl rfl rfl rfl rfl rfl b42 (na) ?_ | refine qP rfl rfl rfl rfl rfl rfl b42 (nb) ?_ | refine qP rfl rfl rfl rfl rfl rfl b38 (hy) ?_ | refine zT rfl ?_ | refine zU rfl ?_ | refine qL rfl rfl ?_ | refine zW rfl rfl rfl rfl ?_ | exact zD)
    | false =>
    cases h9 : a.k != 8 && a.k != 7 with
    | true =>
      simp only [Bool.and_eq_true] at h9
      obtain ⟨g1, g2⟩ := h9
      have hy := yes_ev (a.n == b.n)
      refine enter2 Tryz.func127 Tryz.ntmps127 rfl rfl fun w0 F0 O => ?_
      repeat' (first | refine zS rfl ?_ | refine qA ?_ | refine qB rfl ?_ | refine qD ?_ | refine qE ?_ | refine qP (d := 21) rfl rfl rfl rfl rfl rfl b16 (va) ?_ | refine qP rfl rfl rfl rfl rfl rfl b16 (vb) ?_ | refine qP (d := 31) rfl rfl rfl rfl rfl rfl b42 (na) ?_ | refine qP rfl rfl rfl rfl rfl rfl b42 (nb) ?_ | refine qP rfl rfl rfl rfl rfl rfl b38 (hy) ?_ | refine zT rfl ?_ | refine zU rfl ?_ | refine qL rfl rfl ?_ | refine zX rfl rfl rfl rfl ?_ | refine zW rfl rfl rfl rfl ?_ | exact zD)
    | false =>
    have key : (a.l.length != b.l.length) = ((kids a).length != (kids b).length) := by rw [hla, hlb]
    have hkk : (((kids a).length : Int) != ((kids b).length : Int)) = (a.l.length != b.l.length) := by
      rw [key]
      cases hq : (kids a).length != (kids b).length with
      | true => simp only [bne_iff_ne] at hq ⊢; omega
      | false => simp only [bne_eq_false_iff_eq] at hq ⊢; omega
    cases h10 : a.l.length != b.l.length with
    | true =>
      rw [h10] at hkk
      cases g1 : a.k != 8 with
      | true =>
        rw [g1, Bool.true_and] at h9
        refine enter2 Tryz.func127 Tryz.ntmps127 rfl rfl fun w0 F0 O => ?_
        repeat' (first | refine zS rfl ?_ | refine qA ?_ | refine qB rfl ?_ | refine qD ?_ | refine qE ?_ | refine qP (d := 21) rfl rfl rfl rfl rfl rfl b16 (va) ?_ | refine qP rfl rfl rfl rfl rfl rfl b16 (vb) ?_ | refine qP (d := 31) rfl rfl rfl rfl rfl rfl b42 (na) ?_ | refine qP rfl rfl rfl rfl rfl rfl b42 (nb) ?_ | refine zT rfl ?_ | refine zU rfl ?_ | refine qL rfl rfl ?_ | refine zX rfl rfl rfl rfl ?_ | refine zW rfl rfl rfl rfl ?_ | exact zD)
      | false =>
        refine enter2 Tryz.func127 Tryz.ntmps127 rfl rfl fun w0 F0 O => ?_
        repeat' (first | refine zS rfl ?_ | refine qA ?_ | refine qB rfl ?_ | refine qD ?_ | refine qE ?_ | refine qP (d := 21) rfl rfl rfl rfl rfl rfl b16 (va) ?_ | refine qP rfl rfl rfl rfl rfl rfl b16 (vb) ?_ | refine qP (d := 31) rfl rfl rfl rfl rfl rfl b42 (na) ?_ | refine qP rfl rfl rfl rfl rfl rfl b42 (nb) ?_ | refine zT rfl ?_ | refine zU rfl ?_ | refine qL rfl rfl ?_ | refine zW rfl rfl rfl rfl ?_ | exact zD)
    | false =>
      rw [h10] at hkk
      have hlen : a.l.length = b.l.length := by simpa using h10
      cases g1 : a.k != 8
      all_goals
        try rw [g1, Bool.true_and] at h9
        refine enter2 Tryz.func127 Tryz.ntmps127 rfl rfl fun w0 F0 O => ?_
        repeat' (first | refine zS rfl ?_ | refine qA ?_ | refine qB rfl ?_ | refine qD ?_ | refine qE ?_ | refine qF ?_ | refine qP (d := 21) rfl rfl rfl rfl rfl rfl b16 (va) ?_ | refine qP rfl rfl rfl rfl rfl rfl b16 (vb) ?_ | refine qP (d := 31) rfl rfl rfl rfl rfl rfl b42 (na) ?_ | refine qP rfl rfl rfl rfl rfl rfl b42 (nb) ?_ | refine zU rfl ?_ | refine zX rfl rfl rfl rfl ?_ | refine zW rfl rfl rfl rfl ?_)
        refine go_loop_ (α := SE a.l b.l) (fun p => ⟨[(2, .ptr 0 0), (3, .ptr 1 0), (9, .d (.int p.t)), (10, .d (.int p.i))], [.var 28 (.w (.d (enc a))), .var 28 (.w (.d (enc b)))]⟩) (fun p => a.l.length - p.i) ⟨0, 2, by omega, rfl⟩ ((zle 2)) ?_
        rintro ⟨i, t, hi, ok⟩
        dsimp only
        rcases Nat.lt_or_ge i a.l.length with hlt | hge
        · have g3 : decide ((i : Int) < ((kids a).length : Int)) = true := by rw [hla]; simpa using hlt
          have hx0 := List.getElem?_eq_getElem hlt
          have hy0 := List.getElem?_eq_getElem (show i < b.l.length by omega)
          generalize a.l[i] = x at hx0
          generalize b.l[i] = y at hy0
          have hx : (kids a)[(i : Int).toNat]? = some (enc x) := kids_get (by rw [Int.toNat_natCast]; exact hx0)
          have hy : (kids b)[(i : Int).toNat]? = some (enc y) := kids_get (by rw [Int.toNat_natCast]; exact hy0)
          have he := ih' x (List.mem_of_getElem? hx0) y
          have hand := rand_ev t (eqF x y)
          repeat' (first | refine zS rfl ?_ | refine qA ?_ | refine qB rfl ?_ | refine qC (by kernel_rfl) ?_ | refine qD ?_ | refine qE ?_ | refine qF ?_ | refine qG ?_ | refine qI (enc x) rfl (guardX_ok rfl) rfl rfl rfl rfl rfl rfl (by first | omega | decide) hx ?_ | refine qI (enc y) rfl (guardX_ok rfl) rfl rfl rfl rfl rfl rfl (by first | omega | decide) hy ?_ | refine qP rfl rfl rfl rfl rfl rfl b127 (he) ?_ | refine qP rfl rfl rfl rfl rfl rfl b125 (hand) ?_ | refine zT rfl ?_)
          refine go_stop ?_
          exact ⟨⟨i + 1, min (kn t) (kn (eqF x y)), by omega, by rw [ok, drop_at hx0, drop_at hy0]; rfl⟩, by dsimp only; omega, (zle 2)⟩
        · have g3 : decide ((i : Int) < ((kids a).length : Int)) = false := by rw [hla, decide_eq_false_iff_not]; omega
          rw [ok, List.drop_eq_nil_of_le hge]
          simp only [eqM]
          repeat' (first | refine zS rfl ?_ | refine qA ?_ | refine qB rfl ?_ | refine qD ?_ | refine qH rfl ?_ | refine zU rfl ?_ | refine qL rfl rfl ?_ | exact zD)
/-! ## Less -/
theorem rLess_ev (a b : V) : Ev E 128 [enc a, enc b] (.d (.int (lessF a b))) := by
  have va := RValid_ev a
  have vb := RValid_ev b
  have na := RNumber_ev a
  have nb := RNumber_ev b
  have hc := rcmp_ev (numN a) (numD a) (numN b) (numD b)
  have y1 := yes_ev (decide (cmpQ (numN a) (numD a) (numN b) (numD b) < 0))
  have y2 := yes_ev (Op.bytesLess a.s.toList b.s.toList)
  have y3 := yes_ev (decide (a.n < b.n))
  unfold lessF
  cases h3 : Val.okV a with
  | false =>
    rw [h3] at va
    refine enter2 Tryz.func128 Tryz.ntmps128 rfl rfl fun w0 F0 O => ?_
    repeat' (first | refine zS rfl ?_ | refine qA ?_ | refine qB rfl ?_ | refine qD ?_ | refine qP rfl rfl rfl rfl rfl rfl b16 (va) ?_ | refine zT rfl ?_ | refine qL rfl rfl ?_ | exact zD)
  | true =>
  rw [h3] at va
  cases h4 : Val.okV b with
  | false =>
    rw [h4] at vb
    refine enter2 Tryz.func128 Tryz.ntmps128 rfl rfl fun w0 F0 O => ?_
    repeat' (first | refine zS rfl ?_ | refine qA ?_ | refine qB rfl ?_ | refine qD ?_ | refine qP (d := 10) rfl rfl rfl rfl rfl rfl b16 (va) ?_ | refine qP rfl rfl rfl rfl rfl rfl b16 (vb) ?_ | refine zT rfl ?_ | refine qL rfl rfl ?_ | exact zD)
  | true =>
  rw [h4] at vb
  simp only [Bool.not_true, Bool.or_false, cond_false]
  have rest : (isNum a && isNum b) = false → Ev E 128 [enc a, enc b] (.d (.int (bif a.k != b.k then 1 else bif a.k == 4 then tt (Op.bytesLess a.s.toList b.s.toList) else bif a.k == 1 then tt (decide (a.n < b.n)) else 1))) := by
    intro hnn
    cases h5 : isNum a
    all_goals
      rw [h5] at na hnn
      try (rw [Bool.true_and] at hnn; rw [hnn] at nb)
      cases h7 : a.k != b.k with
      | true =>
        refine enter2 Tryz.func128 Tryz.ntmps128 rfl rfl fun w0 F0 O => ?_
        repeat' (first | refine zS rfl ?_ | refine qA ?_ | refine qB rfl ?_ | refine qD ?_ | refine qE ?_ | refine qP (d := 10) rfl rfl rfl rfl rfl rfl b16 (va) ?_ | refine qP rfl rfl rfl rfl rfl rfl b16 (vb) ?_ | refine qP (d := 19) rfl rfl rfl rfl rfl rfl b42 (na) ?_ | refine qP rfl rfl rfl rfl rfl rfl b42 (nb) ?_ | refine zT rfl ?_ | refine zU rfl ?_ | refine qL rfl rfl ?_ | exact zD)
      | false =>
      cases h8 : a.k == 4 with
      | true =>
        refine enter2 Tryz.func128 Tryz.ntmps128 rfl rfl fun w0 F0 O => ?_
        repeat' (first | refine zS rfl ?_ | refine qA ?_ | refine qB rfl ?_ | refine qD ?_ | refine qE ?_ | refine qP (d := 10) rfl rfl rfl rfl rfl rfl b16 (va) ?_ | refine qP rfl rfl rfl rfl rfl rfl b16 (vb) ?_ | refine qP (d := 19) rfl rfl rfl rfl rfl rfl b42 (na) ?_ | refine qP rfl rfl rfl rfl rfl rfl b42 (nb) ?_ | refine qP rfl rfl rfl rfl rfl rfl b38 (y2) ?_ | refine zT rfl ?_ | refine zU rfl ?_ | refine qL rfl rfl ?_ | exact zD)
      | false =>
      cases h9 : a.k == 1 with
      | true =>
        refine enter2 Tryz.func128 Tryz.ntmps128 rfl rfl fun w0 F0 O => ?_
        repeat' (first | refine zS rfl ?_ | refine qA ?_ | refine qB rfl ?_ | refine qD ?_ | refine qE ?_ | refine qP (d := 10) rfl rfl rfl rfl rfl rfl b16 (va) ?_ | refine qP rfl rfl rfl rfl rfl rfl b16 (vb) ?_ | refine qP (d := 19) rfl rfl rfl rfl rfl rfl b42 (na) ?_ | refine qP rfl rfl rfl rfl rfl rfl b42 (nb) ?_ | refine qP rfl rfl rfl rfl rfl rfl b38 (y3) ?_ | refine zT rfl ?_ | refine zU rfl ?_ | refine qL rfl rfl ?_ | exact zD)
      | false =>
        refine enter2 Tryz.func128 Tryz.ntmps128 rfl rfl fun w0 F0 O => ?_
        repeat' (first | refine zS rfl ?_ | refine qA ?_ | refine qB rfl ?_ | refine qD ?_ | refine qE ?_ | refine qP (d := 10) rfl rfl rfl rfl rfl rfl b16 (va) ?_ | refine qP rfl rfl rfl rfl rfl rfl b16 (vb) ?_ | refine qP (d := 19) rfl rfl rfl rfl rfl rfl b42 (na) ?_ | refine qP rfl rfl rfl rfl rfl rfl b42 (nb) ?_ | refine zU rfl ?_ | refine qL rfl rfl ?_ | exact zD)
  cases hnn : isNum a && isNum b with
  | false => exact rest hnn
  | true =>
    simp only [Bool.and_eq_true] at hnn
    rw [hnn.1] at na
    rw [hnn.2] at nb
    refine enter2 Tryz.func128 Tryz.ntmps128 rfl rfl fun w0 F0 O => ?_
    repeat' (first | refine zS rfl ?_ | refine qA ?_ | refine qB rfl ?_ | refine qD ?_ | refine qE ?_ | refine qP (d := 10) rfl rfl rfl rfl rfl rfl b16 (va) ?_ | refine qP rfl rfl rfl rfl rfl rfl b16 (vb) ?_ | refine qP (d := 19) rfl rfl rfl rfl rfl rfl b42 (na) ?_ | refine qP rfl rfl rfl rfl rfl rfl b42 (nb) ?_ | refine qP rfl rfl rfl rfl rfl rfl b43 (hc) ?_ | refine qP rfl rfl rfl rfl rfl rfl b38 (y1) ?_ | refine zT rfl ?_ | refine zU rfl ?_ | refine qL rfl rfl ?_ | exact zD)
end Go.Proofs.YthieohigmpfknaaGreatDoor

/- Lists and paths as values, and the worked examples of the chapter. Conditions: no list of more than a million elements. -/
namespace Go.Proofs.YthieohigmpfknaaGreatDoor
open Go Go.Abs Go.Val Go.RowKit
attribute [local irreducible] go SGo HasBody Ev ExtEv EvO

theorem rlist_ev2 (l : List V) (h : nar (vList l) = true) : Ev E 68 [.sl (encL l)] (.d (enc (vList l))) := by
  have hc : Ev E 109 [.sl (encL l)] (.d (.sl (encL l))) := rcopy_ev (vList l) h
  refine enter1 Tryz.func68 Tryz.ntmps68 rfl rfl fun w0 F0 O => ?_
  repeat' (first | refine zS rfl ?_ | refine qA ?_ | refine qB rfl ?_ | refine qD ?_ | refine qP rfl rfl rfl rfl rfl rfl b109 (hc) ?_ | refine qL rfl rfl ?_ | exact zD)
end Go.Proofs.YthieohigmpfknaaGreatDoor

/- Plain laws of the orders: antisymmetry, symmetry. Conditions: none. -/
namespace Go.Proofs.YthieohigmpfknaaGreatDoor
open Go Go.Abs Go.Val Go.RowKit

theorem eqM_symm (g : V → V → Int) : ∀ (a b : List V) (t : Int), (∀ x ∈ a, ∀ y, g y x = g x y) → eqM g b a t = eqM g a b t
  | [], [], _, _ => rfl
  | [], _ :: _, _, _ => rfl
  | _ :: _, [], _, _ => rfl
  | x :: r, y :: q, t, h => by
    simp only [eqM]
    rw [h x (by simp) y]
    exact eqM_symm g r q _ fun z hz => h z (by simp [hz])
theorem eqF_symm (a : V) : ∀ b : V, eqF b a = eqF a b := by
  refine vind (P := fun a => ∀ b : V, eqF b a = eqF a b) (fun k n d s l ih b => ?_) a
  have hl : eqM eqF b.l (V.mk k n d s l).l 2 = eqM eqF (V.mk k n d s l).l b.l 2 := eqM_symm eqF l b.l 2 ih
  rw [eqF_eq, eqF_eq, hl]
  generalize V.mk k n d s l = a at *
  unfold stepE
  have e1 : (b.k == 0 || a.k == 0 || !Val.okV b || !Val.okV a) = (a.k == 0 || b.k == 0 || !Val.okV a || !Val.okV b) := by
    cases b.k == 0 <;> cases a.k == 0 <;> cases Val.okV a <;> cases Val.okV b <;> rfl
  have e2 : (cmpQ (numN b) (numD b) (numN a) (numD a) == 0) = (cmpQ (numN a) (numD a) (numN b) (numD b) == 0) := by
    rw [cmpQ_anti, Bool.eq_iff_iff]
    simp only [beq_iff_eq]
    omega
  have e3 : (b.k != a.k) = (a.k != b.k) := bne_comm
  rw [e1, Bool.and_comm (isNum b), e2, e3]
  cases h : a.k != b.k with
  | true => rfl
  | false =>
    have hk : a.k = b.k := by simpa using h
    have e4 : (b.s.toList == a.s.toList) = (a.s.toList == b.s.toList) := by rw [Bool.eq_iff_iff]; simp only [beq_iff_eq]; exact eq_comm
    have e5 : (b.n == a.n) = (a.n == b.n) := by rw [Bool.eq_iff_iff]; simp only [beq_iff_eq]; exact eq_comm
    have e6 : (b.l.length != a.l.length) = (a.l.length != b.l.length) := bne_comm
    rw [hk, e4, e5, e6]
end Go.Proofs.YthieohigmpfknaaGreatDoor

/- The reference's long division and its narrowing of wide numbers. Conditions: divisors from 1 to 10^15; 14 digits. -/
namespace Go.Proofs.YthieohigmpfknaaGreatDoor
open Go Go.Abs Go.Val Go.RowKit
attribute [local irreducible] go SGo HasBody Ev ExtEv EvO EvS

structure SPt (x : List Int) (d : Int) where
  j : Nat
  r : Int
  out : List Int
  hj : j ≤ 14
  hl : out.length = 14
  ok : wok out
  hr : 0 ≤ r ∧ r < d
  inv : wv (x.drop j) = wv (out.drop j) * d + r
theorem drop_set_at {out : List Int} {k : Nat} (h : k < out.length) (q : Int) : (out.set k q).drop k = q :: out.drop (k + 1) := by
  rw [drop_at (show (out.set k q)[k]? = some q by rw [List.getElem?_set, if_pos rfl, if_pos h]), List.drop_set_of_lt (by omega)]
set_option maxHeartbeats 1000000 in
theorem parts_ev (x : List Int) (d : Int) (hx : wok x) (lx : x.length = 14) (hd1 : 1 ≤ d) (hd2 : d ≤ 1000000000000000) : Ev E 204 [.sl (encI x), .int d] (.tup [.sl (encI (wdig 14 (wv x / d))), .int (wv x % d)]) := by
  have hlx : (encI x).length = 14 := by rw [encI_len]; exact lx
  refine enter2 Tryz.func204 Tryz.ntmps204 rfl rfl fun w0 F0 O => ?_
  repeat' (first | refine zS rfl ?_ | refine qA ?_ | refine qB rfl ?_ | refine qD ?_ | refine qF ?_ | (refine qS rfl ⟨rfl, by (show 8 * (encI x).length ≤ 281474976710656; omega), by omega⟩ ?_))
  refine go_loop_ (α := SPt x d) (fun p => ⟨[(0, .d (.sl (encI x))), (1, .d (.int d)), (6, .own 0), (7, .d (.int p.r)), (8, .d (.int ((p.j : Int) - 1)))], [.row 3 1 (encI p.out)]⟩) (fun p => p.j)
    ⟨14, 0, List.replicate 14 0, by omega, by simp, fun d hd => (by rw [(List.mem_replicate.1 hd).2]; omega), by omega, by rw [List.drop_eq_nil_of_le (by omega), List.drop_eq_nil_of_le (by simp)]; simp [wv]⟩ (by rw [hlx]; exact (zle 1)) ?_
  rintro ⟨j, r, out, hj, hl, ok, hr, inv⟩
  dsimp only
  cases j with
  | zero =>
    have g1 : decide (((0 : Nat) : Int) - 1 ≥ 0) = false := rfl
    have hv : wv x = wv out * d + r := by simpa using inv
    have hq := Int.mul_add_ediv_right
    have e1 : wv x / d = wv out := by rw [hv, Int.add_comm, Int.add_mul_ediv_right _ _ (by omega), Int.ediv_eq_zero_of_lt hr.1 hr.2, Int.zero_add]
    have e2 : wv x % d = r := by rw [hv, Int.add_comm, Int.add_mul_emod_self_right, Int.emod_eq_of_lt hr.1 hr.2]
    rw [e1, e2, ← wdig_of ok hl rfl]
    repeat' (first | refine zS rfl ?_ | refine qA ?_ | refine qB rfl ?_ | refine qD ?_ | refine qH rfl ?_ | refine zU rfl ?_)
    refine go_frz 0 rfl ?_
    dsimp only [frzT, frzX]
    repeat' (first | refine qM rfl rfl rfl ?_ | exact zL)
  | succ k =>
    have ek : ((k + 1 : Nat) : Int) - 1 = (k : Int) := by omega
    rw [ek]
    have g1 : decide ((k : Int) ≥ 0) = true := by simp
    obtain ⟨a, a1, a2, a3⟩ := get_dig hx lx (show k < 14 by omega)
    obtain ⟨b, b1⟩ := get14 hl (show k < 14 by omega)
    have c2 : (encI out)[((k : Int)).toNat]? = some (.int b) := encI_get (by rw [Int.toNat_natCast]; exact b1)
    have hle : (encI out).length = 14 := by rw [encI_len]; exact hl
    have ht : Int.tdiv (r * 1000 + a) d = (r * 1000 + a) / d := Int.tdiv_eq_ediv_of_nonneg (by omega)
    have hm : Int.tmod (r * 1000 + a) d = (r * 1000 + a) % d := Int.tmod_eq_emod_of_nonneg (by omega)
    have q0 : 0 ≤ (r * 1000 + a) / d := Int.ediv_nonneg (by omega) (by omega)
    have q1 : (r * 1000 + a) / d < 1000 := Int.ediv_lt_of_lt_mul (by omega) (by omega)
    have m0 := Int.emod_nonneg (r * 1000 + a) (show d ≠ 0 by omega)
    have m1 := Int.emod_lt_of_pos (r * 1000 + a) (show 0 < d by omega)
    have hdm := Int.ediv_mul_add_emod (r * 1000 + a) d
    repeat' (first | refine zS rfl ?_ | refine qA ?_ | refine qB rfl ?_ | refine qD ?_ | refine qE ?_ | refine qF ?_ | refine qG ?_ | refine qI (.int a) rfl (guardX_ok rfl) rfl rfl rfl rfl rfl rfl (by first | omega | decide) a2 ?_ | refine qZ (.int b) rfl rfl rfl rfl rfl rfl c2 rfl rfl rfl ?_ | refine zT rfl ?_)
    refine go_stop ?_
    refine ⟨⟨k, (r * 1000 + a) % d, out.set k ((r * 1000 + a) / d), by omega, by simpa using hl, wok_set ok k _ ⟨q0, by omega⟩, ⟨m0, m1⟩, ?_⟩, by dsimp only; omega, ?_⟩
    · rw [drop_at a1, drop_set_at (by omega), wv, wv, inv, Int.add_mul, Int.mul_add, Int.mul_assoc]
      omega
    · dsimp only
      rw [ht, hm, ← own_set out k b]
      exact (zle 1)
structure SNr (x : List Int) where
  j : Nat
  n : Int
  hj : j ≤ 14
  hn : 0 ≤ n ∧ n ≤ 1000000000000999
  inv : wv (x.drop j) = n
def nrB (x : List Int) : Bool := decide (wv x ≤ 1000000000000000)
def nrN (x : List Int) : Int := bif nrB x then wv x else 0
theorem narrow_ev (x : List Int) (hx : wok x) (lx : x.length = 14) : Ev E 205 [.sl (encI x)] (.tup [.int (nrN x), .bool (nrB x)]) := by
  have hlx : (encI x).length = 14 := by rw [encI_len]; exact lx
  refine enter1 Tryz.func205 Tryz.ntmps205 rfl rfl fun w0 F0 O => ?_
  repeat' (first | refine zS rfl ?_ | refine qA ?_ | refine qB rfl ?_ | refine qD ?_ | refine qF ?_)
  refine go_loop_ (α := SNr x) (fun p => ⟨[(0, .d (.sl (encI x))), (4, .d (.int p.n)), (5, .d (.int ((p.j : Int) - 1)))], []⟩) (fun p => p.j)
    ⟨14, 0, by omega, by omega, by rw [List.drop_eq_nil_of_le (by omega)]; rfl⟩ (by rw [hlx]; exact (zle 0)) ?_
  rintro ⟨j, n, hj, hn, inv⟩
  dsimp only
  cases j with
  | zero =>
    have g1 : decide (((0 : Nat) : Int) - 1 ≥ 0) = false := rfl
    have hv : wv x = n := by simpa using inv
    unfold nrN nrB
    rw [hv]
    cases hc : decide (n ≤ 1000000000000000) with
    | true =>
      have g2 : decide (n > 1000000000000000) = false := by simp at hc ⊢; omega
      repeat' (first | refine zS rfl ?_ | refine qA ?_ | refine qB rfl ?_ | refine qD ?_ | refine qE ?_ | refine qH rfl ?_ | refine zU rfl ?_ | refine qM rfl rfl rfl ?_ | exact zL)
    | false =>
      have g2 : decide (n > 1000000000000000) = true := by simp at hc ⊢; omega
      repeat' (first | refine zS rfl ?_ | refine qA ?_ | refine qB rfl ?_ | refine qD ?_ | refine qH rfl ?_ | refine zT rfl ?_ | refine zU rfl ?_ | refine qM rfl rfl rfl ?_ | exact zL)
  | succ k =>
    have ek : ((k + 1 : Nat) : Int) - 1 = (k : Int) := by omega
    rw [ek]
    have g1 : decide ((k : Int) ≥ 0) = true := by simp
    obtain ⟨a, a1, a2, a3⟩ := get_dig hx lx (show k < 14 by omega)
    cases hc : decide (n > 1000000000000) with
    | true =>
      have hb : nrB x = false := by
        have hs := wv_split x (k + 1) (by omega)
        have h0 := wv_nonneg (x.take (k + 1)) fun d hd => hx d (List.mem_of_mem_take hd)
        rw [inv] at hs
        have hp : 1000 ≤ pw (k + 1) := by have := pw_pos k; simp only [pw]; omega
        have := Int.mul_le_mul_of_nonneg_right hp hn.1
        have := of_decide_eq_true hc
        unfold nrB
        simp
        omega
      unfold nrN
      rw [hb]
      repeat' (first | refine zS rfl ?_ | refine qA ?_ | refine qB rfl ?_ | refine qD ?_ | refine qE ?_ | refine qF ?_ | refine zT rfl ?_ | refine qM rfl rfl rfl ?_ | exact zL)
    | false =>
      have := of_decide_eq_false hc
      repeat' (first | refine zS rfl ?_ | refine qA ?_ | refine qB rfl ?_ | refine qD ?_ | refine qE ?_ | refine qF ?_ | refine qG ?_ | refine qI (.int a) rfl (guardX_ok rfl) rfl rfl rfl rfl rfl rfl (by first | omega | decide) a2 ?_ | refine zT rfl ?_ | refine zU rfl ?_)
      refine go_stop ?_
      refine ⟨⟨k, n * 1000 + a, by omega, by omega, by rw [drop_at a1, wv, inv]; omega⟩, by dsimp only; omega, (zle 0)⟩
end Go.Proofs.YthieohigmpfknaaGreatDoor

/- Sums of fractions by the reference. Conditions: none. -/
namespace Go.Proofs.YthieohigmpfknaaGreatDoor
open Go Go.Abs Go.Val Go.RowKit
attribute [local irreducible] go SGo HasBody Ev ExtEv EvO EvS binOp

theorem nr_wdig (n : Nat) (h : (n : Int) < pw 14) : nrB (wdig 14 n) = decide (n ≤ 1000000000000000) ∧ nrN (wdig 14 n) = bif decide (n ≤ 1000000000000000) then (n : Int) else 0 := by
  have hv : wv (wdig 14 n) = n := wv_wdig 14 _ (Int.natCast_nonneg n) h
  have e : nrB (wdig 14 n) = decide (n ≤ 1000000000000000) := by unfold nrB; rw [hv, decide_eq_decide]; omega
  exact ⟨e, by unfold nrN; rw [e, hv]⟩
theorem narrow_wdig (n : Nat) (h : (n : Int) < pw 14) : Ev E 205 [.sl (encI (wdig 14 n))] (.tup [.int (bif decide (n ≤ 1000000000000000) then (n : Int) else 0), .bool (decide (n ≤ 1000000000000000))]) := by
  have := narrow_ev (wdig 14 n) (wdig_ok 14 n) (wdig_len 14 n)
  rw [(nr_wdig n h).1, (nr_wdig n h).2] at this
  exact this
theorem parts_wdig (n d : Nat) (h : (n : Int) < pw 14) (h1 : 1 ≤ d) (h2 : d ≤ 1000000000000000) : Ev E 204 [.sl (encI (wdig 14 n)), .int (d : Int)] (.tup [.sl (encI (wdig 14 ((n / d : Nat) : Int))), .int ((n % d : Nat) : Int)]) := by
  have := parts_ev (wdig 14 n) d (wdig_ok 14 n) (wdig_len 14 n) (by omega) (by omega)
  rw [wv_wdig 14 _ (Int.natCast_nonneg n) h] at this
  rw [Int.natCast_ediv, Int.natCast_emod]
  exact this
set_option maxHeartbeats 1000000 in
theorem radd_ev (an ad bn bd : Int) : Ev E 177 [.agg [.int an, .int ad], .agg [.int bn, .int bd]] (.tup [.agg [.int (addN an ad bn bd), .int (addD an ad bn bd)], .bool (addB an ad bn bd)]) := by
  have hva := rvalid_ev an ad
  have hvb := rvalid_ev bn bd
  unfold addN addD
  cases ha : fval an ad with
  | false =>
    rw [ha] at hva
    rw [show addB an ad bn bd = false by unfold addB; rw [ha]; rfl]
    refine enter2 Tryz.func177 Tryz.ntmps177 rfl rfl fun w0 F0 O => ?_
    repeat' (first | refine zS rfl ?_ | refine qA ?_ | refine qB rfl ?_ | refine qD ?_ | refine qP rfl rfl rfl rfl rfl rfl b74 (hva) ?_ | refine zT rfl ?_ | refine qM rfl rfl rfl ?_ | exact zL)
  | true =>
    cases hb : fval bn bd with
    | false =>
      rw [ha] at hva
      rw [hb] at hvb
      rw [show addB an ad bn bd = false by unfold addB; rw [ha, hb]; rfl]
      refine enter2 Tryz.func177 Tryz.ntmps177 rfl rfl fun w0 F0 O => ?_
      repeat' (first | refine zS rfl ?_ | refine qA ?_ | refine qB rfl ?_ | refine qD ?_ | refine qP rfl rfl rfl rfl rfl rfl b74 (hva) ?_ | refine qP rfl rfl rfl rfl rfl rfl b74 (hvb) ?_ | refine zT rfl ?_ | refine qM rfl rfl rfl ?_ | exact zL)
    | true =>
      obtain ⟨G, H, T, p, q, r, m, m', eG, eH, eT, hG, hH, r1, r2, r3, hT, -⟩ := add_key ha hb
      obtain ⟨a1, a2, -⟩ := fval_inv ha
      obtain ⟨b1, b2, -⟩ := fval_inv hb
      rw [ha] at hva
      rw [hb] at hvb
      have hpw : pw 14 = 1000000000000000000000000000000000000000000 := by decide
      have hB : addB an ad bn bd = (T == 0 || (ovB T.natAbs H && decide (Int.tdiv ad G * Int.tdiv bd H ≤ 1000000000000000))) := by
        unfold addB adK adD
        rw [ha, hb, ← eG, ← eH, ← eT]
        rfl
      have hN : adN an ad bn bd = sgn T * ((T.natAbs / H : Nat) : Int) := by unfold adN; rw [← eH, ← eT]
      have hD : adD an ad bn bd = Int.tdiv ad G * Int.tdiv bd H := by unfold adD; rw [← eG, ← eH]
      rw [hN, hD, ← eT]
      have hg1 := rgcd_ev ad bd (by omega) (by omega) (by omega) (by omega)
      rw [show Int.gcd ad bd = G from eG.symm] at hg1
      have hml : T.natAbs % G < G := Nat.mod_lt _ (by omega)
      have hg2 := rgcd_ev (G : Int) ((T.natAbs % G : Nat) : Int) (by omega) (by omega) (by omega) (by omega)
      rw [show Int.gcd (G : Int) ((T.natAbs % G : Nat) : Int) = H by rw [eH, adH, ← eG, ← eT, Int.gcd_comm]] at hg2
      obtain ⟨m1, m2⟩ := mul_bnd a2 r1
      obtain ⟨m3, m4⟩ := mul_bnd b2 r2
      have hs := sum_ev (an * Int.tdiv bd G) (bn * Int.tdiv ad G) m2 m4
      rw [m1, m3, sgn_mul r1.1, sgn_mul r2.1, show an * Int.tdiv bd G + bn * Int.tdiv ad G = T by rw [eT, adT, ← eG]] at hs
      have ht1 := times_ev an.natAbs (Int.tdiv bd G) (by omega) (by omega) (by omega) (by omega)
      have ht2 := times_ev bn.natAbs (Int.tdiv ad G) (by omega) (by omega) (by omega) (by omega)
      have ht3 := times_ev (Int.tdiv ad G) (Int.tdiv bd H) (by omega) (by omega) (by omega) (by omega)
      have hz1 := rsize_ev an (by omega)
      have hz2 := rsize_ev bn (by omega)
      have hh1 := rsign_ev an
      have hh2 := rsign_ev bn
      have hp1 := parts_wdig T.natAbs G (by omega) (by omega) (by omega)
      have hp2 := parts_wdig T.natAbs H (by omega) (by omega) (by omega)
      have hdl := Nat.div_le_self T.natAbs H
      have hn1 := narrow_wdig (T.natAbs / H) (by omega)
      have hpd : 0 ≤ Int.tdiv ad G * Int.tdiv bd H := Int.mul_nonneg (by omega) (by omega)
      have hpm : Int.tdiv ad G * Int.tdiv bd H ≤ 1000000000000000 * 1000000000000000 := Int.mul_le_mul (by omega) (by omega) (by omega) (by omega)
      have hn2 := narrow_wdig (Int.tdiv ad G * Int.tdiv bd H).toNat (by omega)
      rw [show (((Int.tdiv ad G * Int.tdiv bd H).toNat : Nat) : Int) = Int.tdiv ad G * Int.tdiv bd H by omega,
        show decide ((Int.tdiv ad G * Int.tdiv bd H).toNat ≤ 1000000000000000) = decide (Int.tdiv ad G * Int.tdiv bd H ≤ 1000000000000000) by rw [decide_eq_decide]; omega] at hn2
      have w1 : inR .i64 (Int.tdiv bd G) := by simp only [inR]; omega
      have w2 : inR .i64 (Int.tdiv ad G) := by simp only [inR]; omega
      have w3 : inR .i64 (Int.tdiv bd H) := by simp only [inR]; omega
      have wG : (G : Int) ≠ 0 := by omega
      have wH : (H : Int) ≠ 0 := by omega
      have hov : ovB T.natAbs H = decide (T.natAbs / H ≤ 1000000000000000) := rfl
      rw [← hov] at hn1
      clear eG eH eT ha hb hN hD hov
      generalize T.natAbs % G = tm at *
      generalize hw14 : encI (wdig 14 ((T.natAbs : Nat) : Int)) = X0 at *
      generalize encI (wdig 14 ((T.natAbs / H : Nat) : Int)) = X1 at *
      cases hT0 : T == 0 with
      | true =>
        have hs0 : sgn T = 0 := by rw [show T = 0 by simpa using hT0]; rfl
        rw [hs0] at hs
        rw [hB, hT0]
        refine enter2 Tryz.func177 Tryz.ntmps177 rfl rfl fun w0 F0 O => ?_
        repeat' (first | refine zS rfl ?_ | refine qA ?_ | refine qB rfl ?_ | refine qC (by kernel_rfl) ?_ | refine qD ?_ | refine qE ?_ | refine qP rfl rfl rfl rfl rfl rfl b74 (hva) ?_ | refine qP rfl rfl rfl rfl rfl rfl b74 (hvb) ?_ | refine qP (d := 31) rfl rfl rfl rfl rfl rfl b132 (hg1) ?_ | refine qP (d := 35) rfl rfl rfl rfl rfl rfl b76 (hh1) ?_ | refine qP (d := 38) rfl rfl rfl rfl rfl rfl b78 (hz1) ?_ | refine qP (d := 43) rfl rfl rfl rfl rfl rfl b77 (ht1) ?_ | refine qP rfl rfl rfl rfl rfl rfl b76 (hh2) ?_ | refine qP rfl rfl rfl rfl rfl rfl b78 (hz2) ?_ | refine qP (d := 54) rfl rfl rfl rfl rfl rfl b77 (ht2) ?_ | refine qP rfl rfl rfl rfl rfl rfl b75 (hs) ?_ | refine zT rfl ?_ | refine zU rfl ?_ | refine qM rfl rfl rfl ?_ | exact zL)
      | false =>
        have hT0' : T ≠ 0 := by simpa using hT0
        have hs0 : (sgn T == 0) = false := by
          rw [beq_eq_false_iff_ne]
          rcases Int.lt_or_gt_of_ne hT0' with h | h
          · rw [sgn_neg h]; decide
          · rw [sgn_pos h]; decide
        have hsr := sgn_rng T
        rw [hB, hT0]
        have hN' : ovB T.natAbs H = true → T.natAbs / H ≤ 1000000000000000 := fun h => of_decide_eq_true h
        generalize T.natAbs / H = N at *
        have hmu : ovB T.natAbs H = true → inR .i64 (sgn T * (N : Int)) := by
          intro h
          have h' := hN' h
          rcases Int.lt_or_gt_of_ne hT0' with h | h
          · rw [sgn_neg h]; simp only [inR]; omega
          · rw [sgn_pos h]; simp only [inR]; omega
        generalize hK : decide (Int.tdiv ad G * Int.tdiv bd H ≤ 1000000000000000) = K at *
        cases hO : ovB T.natAbs H <;> cases K <;> rw [hO] at hn1
        all_goals
          refine enter2 Tryz.func177 Tryz.ntmps177 rfl rfl fun w0 F0 O => ?_
          repeat' (first | refine zS rfl ?_ | refine qA ?_ | refine qB rfl ?_ | refine qC (by kernel_rfl) ?_ | refine qD ?_ | refine qE ?_ | refine qP rfl rfl rfl rfl rfl rfl b74 (hva) ?_ | refine qP rfl rfl rfl rfl rfl rfl b74 (hvb) ?_ | refine qP (d := 31) rfl rfl rfl rfl rfl rfl b132 (hg1) ?_ | refine qP (d := 35) rfl rfl rfl rfl rfl rfl b76 (hh1) ?_ | refine qP (d := 38) rfl rfl rfl rfl rfl rfl b78 (hz1) ?_ | refine qP (d := 43) rfl rfl rfl rfl rfl rfl b77 (ht1) ?_ | refine qP rfl rfl rfl rfl rfl rfl b76 (hh2) ?_ | refine qP rfl rfl rfl rfl rfl rfl b78 (hz2) ?_ | refine qP (d := 54) rfl rfl rfl rfl rfl rfl b77 (ht2) ?_ | refine qP rfl rfl rfl rfl rfl rfl b75 (hs) ?_ | refine qP (d := 64) rfl rfl rfl rfl rfl rfl b204 (hp1) ?_ | refine qP (d := 69) rfl rfl rfl rfl rfl rfl b132 (hg2) ?_ | refine qP (d := 73) rfl rfl rfl rfl rfl rfl b204 (hp2) ?_ | refine qP (d := 78) rfl rfl rfl rfl rfl rfl b205 (hn1) ?_ | refine qP (d := 90) rfl rfl rfl rfl rfl rfl b77 (ht3) ?_ | refine qP (d := 91) rfl rfl rfl rfl rfl rfl b205 (hn2) ?_ | (refine qS rfl (hmu hO) ?_) | refine zT rfl ?_ | refine zU rfl ?_ | refine qM rfl rfl rfl ?_ | exact zL)
end Go.Proofs.YthieohigmpfknaaGreatDoor

/- Products of fractions by the reference. Conditions: none. -/
namespace Go.Proofs.YthieohigmpfknaaGreatDoor
open Go Go.Abs Go.Val Go.RowKit
attribute [local irreducible] go SGo HasBody Ev ExtEv EvO EvS binOp RGo

theorem sgn_tdiv (a : Int) (g : Nat) : sgn a * Int.tdiv (a.natAbs : Int) g = Int.tdiv a g := by
  rcases Int.lt_trichotomy a 0 with h | h | h
  · rw [sgn_neg h, show (a.natAbs : Int) = -a by omega, Int.neg_tdiv]; omega
  · subst h; simp [sgn]
  · rw [sgn_pos h, show (a.natAbs : Int) = a by omega]; omega
set_option maxHeartbeats 4000000 in
theorem rmul_ev (an ad bn bd : Int) : Ev E 178 [.agg [.int an, .int ad], .agg [.int bn, .int bd]] (.tup [.agg [.int (bif mulF an ad bn bd then muN an ad bn bd else 0), .int (bif mulF an ad bn bd then muD an ad bn bd else 0)], .bool (mulF an ad bn bd)]) := by
  have hva := rvalid_ev an ad
  have hvb := rvalid_ev bn bd
  cases ha : fval an ad with
  | false =>
    rw [ha] at hva
    rw [show mulF an ad bn bd = false by unfold mulF; rw [ha]; rfl]
    refine enter2 Tryz.func178 Tryz.ntmps178 rfl rfl fun w0 F0 O => ?_
    repeat' (first | refine zS rfl ?_ | refine qA ?_ | refine qB rfl ?_ | refine qD ?_ | refine qP rfl rfl rfl rfl rfl rfl b74 (hva) ?_ | refine zT rfl ?_ | refine qM rfl rfl rfl ?_ | exact zL)
  | true =>
    cases hb : fval bn bd with
    | false =>
      rw [ha] at hva
      rw [hb] at hvb
      rw [show mulF an ad bn bd = false by unfold mulF; rw [ha, hb]; rfl]
      refine enter2 Tryz.func178 Tryz.ntmps178 rfl rfl fun w0 F0 O => ?_
      repeat' (first | refine zS rfl ?_ | refine qA ?_ | refine qB rfl ?_ | refine qD ?_ | refine qP rfl rfl rfl rfl rfl rfl b74 (hva) ?_ | refine qP rfl rfl rfl rfl rfl rfl b74 (hvb) ?_ | refine zT rfl ?_ | refine qM rfl rfl rfl ?_ | exact zL)
    | true =>
      obtain ⟨a1, a2, -⟩ := fval_inv ha
      obtain ⟨b1, b2, -⟩ := fval_inv hb
      rw [ha] at hva
      rw [hb] at hvb
      have hpw : pw 14 = 1000000000000000000000000000000000000000000 := by decide
      have hB : mulF an ad bn bd = (decide ((muN an ad bn bd).natAbs ≤ 1000000000000000) && decide (muD an ad bn bd ≤ 1000000000000000)) := by unfold mulF; rw [ha, hb]; rfl
      have g1 := rgcd_ev (an.natAbs : Int) bd (by omega) (by omega) (by omega) (by omega)
      have g2 := rgcd_ev (bn.natAbs : Int) ad (by omega) (by omega) (by omega) (by omega)
      rw [show Int.gcd (an.natAbs : Int) bd = Int.gcd an bd by simp [Int.gcd]] at g1
      rw [show Int.gcd (bn.natAbs : Int) ad = Int.gcd bn ad by simp [Int.gcd]] at g2
      have hG0 : 0 < Int.gcd an bd := Int.gcd_pos_of_ne_zero_right _ (by omega)
      have hH0 : 0 < Int.gcd bn ad := Int.gcd_pos_of_ne_zero_right _ (by omega)
      have t1 := tdiv_abs (a := (an.natAbs : Int)) (g := Int.gcd an bd) (by omega)
      have t2 := tdiv_abs (a := (bn.natAbs : Int)) (g := Int.gcd bn ad) (by omega)
      have p1 : 0 ≤ Int.tdiv (an.natAbs : Int) (Int.gcd an bd : Nat) := Int.tdiv_nonneg (by omega) (by omega)
      have p2 : 0 ≤ Int.tdiv (bn.natAbs : Int) (Int.gcd bn ad : Nat) := Int.tdiv_nonneg (by omega) (by omega)
      have t3 := tdiv_rng a1 (show ((Int.gcd bn ad : Nat) : Int) ∣ ad from Int.gcd_dvd_right ..) hH0
      have t4 := tdiv_rng b1 (show ((Int.gcd an bd : Nat) : Int) ∣ bd from Int.gcd_dvd_right ..) hG0
      have hmu : muN an ad bn bd = sgn an * sgn bn * (Int.tdiv (an.natAbs : Int) (Int.gcd an bd : Nat) * Int.tdiv (bn.natAbs : Int) (Int.gcd bn ad : Nat)) := by
        unfold muN
        rw [← sgn_tdiv an, ← sgn_tdiv bn, Int.mul_assoc, Int.mul_assoc, Int.mul_left_comm (Int.tdiv _ _)]
      have hxn : Int.tdiv (an.natAbs : Int) (Int.gcd an bd : Nat) * Int.tdiv (bn.natAbs : Int) (Int.gcd bn ad : Nat) = ((muN an ad bn bd).natAbs : Int) := by
        unfold muN
        rw [Int.natAbs_mul, Int.natCast_mul, (tdiv_abs (g := Int.gcd an bd) a2).1, (tdiv_abs (g := Int.gcd bn ad) b2).1, Int.natCast_ediv, Int.natCast_ediv, Int.tdiv_eq_ediv_of_nonneg (by omega), Int.tdiv_eq_ediv_of_nonneg (by omega)]
      have h1 := times_ev (Int.tdiv (an.natAbs : Int) (Int.gcd an bd : Nat)) (Int.tdiv (bn.natAbs : Int) (Int.gcd bn ad : Nat)) p1 (by omega) p2 (by omega)
      have h2 := times_ev (Int.tdiv ad (Int.gcd bn ad : Nat)) (Int.tdiv bd (Int.gcd an bd : Nat)) (by omega) (by omega) (by omega) (by omega)
      have hpd : 0 ≤ muD an ad bn bd := Int.mul_nonneg (by omega) (by omega)
      have hb1 : Int.tdiv (an.natAbs : Int) (Int.gcd an bd : Nat) * Int.tdiv (bn.natAbs : Int) (Int.gcd bn ad : Nat) ≤ 1000000000000000 * 1000000000000000 := Int.mul_le_mul (by omega) (by omega) p2 (by omega)
      have hb2 : muD an ad bn bd ≤ 1000000000000000 * 1000000000000000 := Int.mul_le_mul (by omega) (by omega) (by omega) (by omega)
      rw [hxn] at h1 hb1 hmu
      change Ev E 77 _ (.d (.sl (encI (wdig 14 (muD an ad bn bd))))) at h2
      have n1 := narrow_wdig (muN an ad bn bd).natAbs (by omega)
      have n2 := narrow_wdig (muD an ad bn bd).toNat (by omega)
      rw [show (((muD an ad bn bd).toNat : Nat) : Int) = muD an ad bn bd by omega, show decide ((muD an ad bn bd).toNat ≤ 1000000000000000) = decide (muD an ad bn bd ≤ 1000000000000000) by rw [decide_eq_decide]; omega] at n2
      have s1 := rsign_ev an
      have s2 := rsign_ev bn
      have z1 := rsize_ev an (by omega)
      have z2 := rsize_ev bn (by omega)
      have ra := sgn_rng an
      have rb := sgn_rng bn
      rw [hB]
      clear hB ha hb hxn
      generalize muN an ad bn bd = x at *
      generalize muD an ad bn bd = y at *
      generalize Int.gcd an bd = G at *
      generalize Int.gcd bn ad = H at *
      have w1 : inR .i64 (Int.tdiv (an.natAbs : Int) G) := by simp only [inR]; omega
      have w2 : inR .i64 (Int.tdiv (bn.natAbs : Int) H) := by simp only [inR]; omega
      have w3 : inR .i64 (Int.tdiv ad H) := by simp only [inR]; omega
      have w4 : inR .i64 (Int.tdiv bd G) := by simp only [inR]; omega
      have wG : (G : Int) ≠ 0 := by omega
      have wH : (H : Int) ≠ 0 := by omega
      have wx : decide (x.natAbs ≤ 1000000000000000) = true → inR .i64 (sgn an * sgn bn * (x.natAbs : Int)) := by intro h; rw [← hmu]; have := of_decide_eq_true h; simp only [inR]; omega
      have ws : inR .i64 (sgn an * sgn bn) := by
        rcases (show sgn an = -1 ∨ sgn an = 0 ∨ sgn an = 1 by omega) with h | h | h <;> rw [h] <;> simp only [inR] <;> omega
      have hmu' := hmu
      generalize hk1 : decide (x.natAbs ≤ 1000000000000000) = k1 at *
      generalize hk2 : decide (y ≤ 1000000000000000) = k2 at *
      cases k1 <;> cases k2
      all_goals
        refine enter2 Tryz.func178 Tryz.ntmps178 rfl rfl fun w0 F0 O => ?_
        repeat' (first | refine qR0 (id := 9) [11] (by kernel_rfl) (by kernel_rfl) (by repeat (first | exact trivial | refine ⟨⟨rfl, rfl⟩, ?_⟩ | refine ⟨trivial, ?_⟩)) ?_ | refine rgF (id := 9) (i := 0) 11 (by kernel_rfl) rfl ?_ | refine rgStore (id := 9) (i := 11) rfl rfl rfl rfl rfl rfl rfl rfl rfl rfl rfl (by repeat (first | exact trivial | refine ⟨⟨rfl, rfl⟩, ?_⟩ | refine ⟨trivial, ?_⟩)) ?_ | refine rgF (id := 9) (i := 12) 1 (by kernel_rfl) rfl ?_ | refine rgN ?_ | refine zS rfl ?_ | refine qA ?_ | refine qB rfl ?_ | refine qC (by kernel_rfl) ?_ | refine qD ?_ | refine qE ?_ | refine qP rfl rfl rfl rfl rfl rfl b74 (hva) ?_ | refine qP rfl rfl rfl rfl rfl rfl b74 (hvb) ?_ | refine qP (d := 23) rfl rfl rfl rfl rfl rfl b78 (z1) ?_ | refine qP (d := 26) rfl rfl rfl rfl rfl rfl b132 (g1) ?_ | refine qP (d := 29) rfl rfl rfl rfl rfl rfl b78 (z2) ?_ | refine qP (d := 32) rfl rfl rfl rfl rfl rfl b132 (g2) ?_ | refine qP (d := 36) rfl rfl rfl rfl rfl rfl b78 (z1) ?_ | refine qP (d := 41) rfl rfl rfl rfl rfl rfl b78 (z2) ?_ | refine qP (d := 44) rfl rfl rfl rfl rfl rfl b77 (h1) ?_ | refine qP (d := 45) rfl rfl rfl rfl rfl rfl b205 (n1) ?_ | refine qP (d := 57) rfl rfl rfl rfl rfl rfl b77 (h2) ?_ | refine qP (d := 58) rfl rfl rfl rfl rfl rfl b205 (n2) ?_ | refine qP (d := 70) rfl rfl rfl rfl rfl rfl b76 (s1) ?_ | refine qP (d := 73) rfl rfl rfl rfl rfl rfl b76 (s2) ?_ | (refine qS rfl (wx rfl) ?_) | refine zT rfl ?_ | refine zU rfl ?_ | refine qM rfl rfl rfl ?_ | exact zL)
        all_goals (show [D.agg [.int (sgn an * sgn bn * (x.natAbs : Int)), .int y], .bool true] = [D.agg [.int x, .int y], .bool true]; rw [← hmu'])
end Go.Proofs.YthieohigmpfknaaGreatDoor

/- Sums and differences of fractions by the program; quotients and differences by the reference. Conditions: each contract's own. -/
namespace Go.Proofs.YthieohigmpfknaaGreatDoor
open Go Go.Abs Go.Val Go.RowKit
attribute [local irreducible] go SGo HasBody Ev ExtEv EvO EvS binOp RGo

theorem rsub_ev (an ad bn bd : Int) (hb : fval bn bd = true) : Ev E 124 [.agg [.int an, .int ad], .agg [.int bn, .int bd]] (.tup [.agg [.int (addN an ad (0 - bn) bd), .int (addD an ad (0 - bn) bd)], .bool (addB an ad (0 - bn) bd)]) := by
  have h := radd_ev an ad (0 - bn) bd
  have hv := rvalid_ev bn bd
  obtain ⟨b1, b2, -⟩ := fval_inv hb
  rw [hb] at hv
  refine enter2 Tryz.func124 Tryz.ntmps124 rfl rfl fun w0 F0 O => ?_
  repeat' (first | refine zS rfl ?_ | refine qA ?_ | refine qB rfl ?_ | refine qC (by kernel_rfl) ?_ | refine qD ?_ | refine qE ?_ | refine qF ?_ | refine qG ?_ | refine qH rfl ?_ | refine qP rfl rfl rfl rfl rfl rfl b177 (h) ?_ | refine qP rfl rfl rfl rfl rfl rfl b74 (hv) ?_ | refine zT rfl ?_ | refine zU rfl ?_ | refine qL rfl rfl ?_ | refine qM rfl rfl rfl ?_ | refine qO rfl rfl rfl ?_ | refine zX rfl rfl rfl rfl ?_ | refine zW rfl rfl rfl rfl ?_ | (refine qY rfl rfl rfl rfl ?_ ?_ <;> intro _) | exact zD | exact zL)
theorem rdiv_ev (an ad bn bd : Int) : Ev E 179 [.agg [.int an, .int ad], .agg [.int bn, .int bd]] (.tup [.agg [.int (divN an ad bn bd), .int (divD an ad bn bd)], .bool (divB an ad bn bd)]) := by
  have hvb := rvalid_ev bn bd
  unfold divN divD
  cases hb : fval bn bd with
  | false =>
    rw [hb] at hvb
    rw [show divB an ad bn bd = false by unfold divB; rw [hb]; rfl]
    refine enter2 Tryz.func179 Tryz.ntmps179 rfl rfl fun w0 F0 O => ?_
    repeat' (first | refine zS rfl ?_ | refine qA ?_ | refine qB rfl ?_ | refine qC (by kernel_rfl) ?_ | refine qD ?_ | refine qE ?_ | refine qF ?_ | refine qG ?_ | refine qH rfl ?_ | refine qP rfl rfl rfl rfl rfl rfl b74 (hvb) ?_ | refine zT rfl ?_ | refine zU rfl ?_ | refine qL rfl rfl ?_ | refine qM rfl rfl rfl ?_ | refine qO rfl rfl rfl ?_ | refine zX rfl rfl rfl rfl ?_ | refine zW rfl rfl rfl rfl ?_ | (refine qY rfl rfl rfl rfl ?_ ?_ <;> intro _) | exact zD | exact zL)
  | true =>
    obtain ⟨b1, b2, -⟩ := fval_inv hb
    rw [hb] at hvb
    cases h0 : bn == 0 with
    | true =>
      rw [show divB an ad bn bd = false by unfold divB; rw [hb, h0]; rfl]
      refine enter2 Tryz.func179 Tryz.ntmps179 rfl rfl fun w0 F0 O => ?_
      repeat' (first | refine zS rfl ?_ | refine qA ?_ | refine qB rfl ?_ | refine qC (by kernel_rfl) ?_ | refine qD ?_ | refine qE ?_ | refine qF ?_ | refine qG ?_ | refine qH rfl ?_ | refine qP rfl rfl rfl rfl rfl rfl b74 (hvb) ?_ | refine zT rfl ?_ | refine zU rfl ?_ | refine qL rfl rfl ?_ | refine qM rfl rfl rfl ?_ | refine qO rfl rfl rfl ?_ | refine zX rfl rfl rfl rfl ?_ | refine zW rfl rfl rfl rfl ?_ | (refine qY rfl rfl rfl rfl ?_ ?_ <;> intro _) | exact zD | exact zL)
    | false =>
      have h0' : bn ≠ 0 := by simpa using h0
      rw [show divB an ad bn bd = mulF an ad (sgn bn * bd) (bn.natAbs : Int) by unfold divB; rw [hb, h0]; rfl]
      have hm := rmul_ev an ad (sgn bn * bd) (bn.natAbs : Int)
      have s1 := rsign_ev bn
      have z1 := rsize_ev bn (by omega)
      have ws : inR .i64 (sgn bn * bd) := by
        rcases (show sgn bn = -1 ∨ sgn bn = 0 ∨ sgn bn = 1 by have := sgn_rng bn; omega) with h | h | h <;> rw [h] <;> simp only [inR] <;> omega
      refine enter2 Tryz.func179 Tryz.ntmps179 rfl rfl fun w0 F0 O => ?_
      repeat' (first | refine qR0 (id := 3) [14] (by kernel_rfl) (by kernel_rfl) (by repeat (first | exact trivial | refine ⟨⟨rfl, rfl⟩, ?_⟩ | refine ⟨trivial, ?_⟩)) ?_ | refine rgF (id := 3) (i := 0) 14 (by kernel_rfl) rfl ?_ | refine rgStore (id := 3) (i := 14) rfl rfl rfl rfl rfl rfl rfl rfl rfl rfl rfl (by repeat (first | exact trivial | refine ⟨⟨rfl, rfl⟩, ?_⟩ | refine ⟨trivial, ?_⟩)) ?_ | refine rgAlloc (id := 3) (i := 14) rfl rfl rfl rfl rfl rfl rfl (by repeat (first | exact trivial | refine ⟨⟨rfl, rfl⟩, ?_⟩ | refine ⟨trivial, ?_⟩)) ?_ | refine rgBox (id := 3) (i := 14) rfl rfl rfl rfl rfl rfl rfl (by repeat (first | exact trivial | refine ⟨⟨rfl, rfl⟩, ?_⟩ | refine ⟨trivial, ?_⟩)) ?_ | refine rgStoreP _ (id := 3) (i := 14) rfl rfl rfl rfl rfl rfl rfl (by assumption) rfl rfl rfl (by repeat (first | exact trivial | refine ⟨⟨rfl, rfl⟩, ?_⟩ | refine ⟨trivial, ?_⟩)) ?_ | (refine rgS (id := 3) (i := 14) rfl rfl rfl rfl ?_ (by repeat (first | exact trivial | refine ⟨⟨rfl, rfl⟩, ?_⟩ | refine ⟨trivial, ?_⟩)) ?_; (first | exact True.intro | rfl | assumption | omega | (simp only [inR]; omega) | ((show _ ≤ (9223372036854775807 : Nat)); (try simp only [ByteArray.size_append]); omega) | exact tmod_ok (by omega) (by omega) | exact tdiv_ok (by omega) (by omega) | exact ⟨rfl, by decide, by decide⟩)) | refine rgF (id := 3) (i := 15) 1 (by kernel_rfl) rfl ?_ | refine rgN ?_ | (show TmB _ _ ∧ RGo _ _ _ _ _ _ _ _ _; refine ⟨(by repeat (first | exact trivial | refine ⟨rfl, ?_⟩)), ?_⟩) | refine zS rfl ?_ | refine qA ?_ | refine qB rfl ?_ | refine qC (by kernel_rfl) ?_ | refine qD ?_ | refine qE ?_ | refine qF ?_ | refine qG ?_ | refine qH rfl ?_ | refine qP rfl rfl rfl rfl rfl rfl b74 (hvb) ?_ | refine qP rfl rfl rfl rfl rfl rfl b76 (s1) ?_ | refine qP rfl rfl rfl rfl rfl rfl b78 (z1) ?_ | refine qP rfl rfl rfl rfl rfl rfl b178 (hm) ?_ | (refine qS rfl ws ?_) | refine zT rfl ?_ | refine zU rfl ?_ | refine qL rfl rfl ?_ | refine qM rfl rfl rfl ?_ | refine qO rfl rfl rfl ?_ | refine zX rfl rfl rfl rfl ?_ | refine zW rfl rfl rfl rfl ?_ | (refine qY rfl rfl rfl rfl ?_ ?_ <;> intro _) | exact zD | exact zL)
end Go.Proofs.YthieohigmpfknaaGreatDoor

/- Graphs and bindings as data, and the reference's look-ups in them. Conditions: none. -/
namespace Go.Proofs.YthieohigmpfknaaGreatDoor
open Go Go.Abs Go.Val
attribute [local irreducible] go SGo HasBody Ev ExtEv EvO EvS

theorem rnode_of (g : Gr) (id : Int) : Ev E 119 [encGr g, .int id] (.tup [encNd ((findN g.nodes id).getD nd0), .bool (findN g.nodes id).isSome]) := Ev.fit fun hfit => by
  obtain ⟨f1, -⟩ := fit_gr (g := g) (hfit _ (by simp))
  obtain ⟨hmax, -⟩ := fit_map f1
  have hle : (g.nodes.map encNd).length = g.nodes.length := by simp
  unfold findN
  refine enter2 Tryz.func119 Tryz.ntmps119 rfl rfl fun w0 F0 O => ?_
  repeat' (first | refine zS rfl ?_ | refine qA ?_ | refine qB rfl ?_ | refine qD ?_ | refine qF ?_)
  refine go_loop_ (α := SFd g.nodes fun n => n.id == id) (fun p => ⟨[(1, .d (.int id)), (2, .ptr 0 0), (4, .ptr 1 0), (6, .d (.int p.i))], [.var 25 (.w (.d (encGr g))), .var 87 (.cs [.d (.int 0), .nilS, .nilS])]⟩) (fun p => g.nodes.length - p.i) ⟨0, by omega, rfl⟩ ((zle 2)) ?_
  rintro ⟨i, hi, ok⟩
  dsimp only
  rcases Nat.lt_or_ge i g.nodes.length with hlt | hge
  · have g1 : decide ((i : Int) < ((g.nodes.map encNd).length : Int)) = true := by rw [hle]; simpa using hlt
    have hx0 := List.getElem?_eq_getElem hlt
    generalize g.nodes[i] = x at hx0
    have hx := map_at (f := encNd) hx0
    rw [ok, find_at hx0]
    cases hc : x.id == id with
    | true =>
      repeat' (first | refine zS rfl ?_ | refine qA ?_ | refine qB rfl ?_ | refine qD ?_ | refine qE ?_ | refine qF ?_ | refine qI (encNd x) rfl (guardX_ok rfl) rfl rfl rfl rfl rfl rfl (by first | omega | decide) hx ?_ | refine zT rfl ?_ | refine qM rfl rfl rfl ?_ | exact zL)
    | false =>
      repeat' (first | refine zS rfl ?_ | refine qA ?_ | refine qB rfl ?_ | refine qD ?_ | refine qE ?_ | refine qF ?_ | refine qG ?_ | refine qI (encNd x) rfl (guardX_ok rfl) rfl rfl rfl rfl rfl rfl (by first | omega | decide) hx ?_ | refine zT rfl ?_ | refine zU rfl ?_)
      refine go_stop ?_
      exact ⟨⟨i + 1, by omega, by rw [ok, find_at hx0, hc]; rfl⟩, by dsimp only; omega, (zle 2)⟩
  · have g1 : decide ((i : Int) < ((g.nodes.map encNd).length : Int)) = false := by rw [hle]; simp; omega
    rw [ok, List.drop_eq_nil_of_le hge]
    repeat' (first | refine zS rfl ?_ | refine qA ?_ | refine qB rfl ?_ | refine qD ?_ | refine qH rfl ?_ | refine zU rfl ?_ | refine qM rfl rfl rfl ?_ | exact zL)
theorem redge_of (g : Gr) (id : Int) : Ev E 173 [encGr g, .int id] (.tup [encEd ((findE g.edges id).getD ed0), .bool (findE g.edges id).isSome]) := Ev.fit fun hfit => by
  obtain ⟨-, f1⟩ := fit_gr (g := g) (hfit _ (by simp))
  obtain ⟨hmax, -⟩ := fit_map f1
  have hle : (g.edges.map encEd).length = g.edges.length := by simp
  unfold findE
  refine enter2 Tryz.func173 Tryz.ntmps173 rfl rfl fun w0 F0 O => ?_
  repeat' (first | refine zS rfl ?_ | refine qA ?_ | refine qB rfl ?_ | refine qD ?_ | refine qF ?_)
  refine go_loop_ (α := SFd g.edges fun n => n.id == id) (fun p => ⟨[(1, .d (.int id)), (2, .ptr 0 0), (4, .ptr 1 0), (6, .d (.int p.i))], [.var 25 (.w (.d (encGr g))), .var 81 (.cs [.d (.int 0), .d (.int 0), .d (.int 0), .d (.str ⟨#[]⟩), .nilS])]⟩) (fun p => g.edges.length - p.i) ⟨0, by omega, rfl⟩ ((zle 2)) ?_
  rintro ⟨i, hi, ok⟩
  dsimp only
  rcases Nat.lt_or_ge i g.edges.length with hlt | hge
  · have g1 : decide ((i : Int) < ((g.edges.map encEd).length : Int)) = true := by rw [hle]; simpa using hlt
    have hx0 := List.getElem?_eq_getElem hlt
    generalize g.edges[i] = x at hx0
    have hx := map_at (f := encEd) hx0
    rw [ok, find_at hx0]
    cases hc : x.id == id with
    | true =>
      repeat' (first | refine zS rfl ?_ | refine qA ?_ | refine qB rfl ?_ | refine qD ?_ | refine qE ?_ | refine qF ?_ | refine qI (encEd x) rfl (guardX_ok rfl) rfl rfl rfl rfl rfl rfl (by first | omega | decide) hx ?_ | refine zT rfl ?_ | refine qM rfl rfl rfl ?_ | exact zL)
    | false =>
      repeat' (first | refine zS rfl ?_ | refine qA ?_ | refine qB rfl ?_ | refine qD ?_ | refine qE ?_ | refine qF ?_ | refine qG ?_ | refine qI (encEd x) rfl (guardX_ok rfl) rfl rfl rfl rfl rfl rfl (by first | omega | decide) hx ?_ | refine zT rfl ?_ | refine zU rfl ?_)
      refine go_stop ?_
      exact ⟨⟨i + 1, by omega, by rw [ok, find_at hx0, hc]; rfl⟩, by dsimp only; omega, (zle 2)⟩
  · have g1 : decide ((i : Int) < ((g.edges.map encEd).length : Int)) = false := by rw [hle]; simp; omega
    rw [ok, List.drop_eq_nil_of_le hge]
    repeat' (first | refine zS rfl ?_ | refine qA ?_ | refine qB rfl ?_ | refine qD ?_ | refine qH rfl ?_ | refine zU rfl ?_ | refine qM rfl rfl rfl ?_ | exact zL)
structure SHs (l : List ByteArray) (s : ByteArray) where
  i : Nat
  hi : i ≤ l.length
  ok : hasF l s = hasF (l.drop i) s
theorem hasF_at {l : List ByteArray} {s x : ByteArray} {i : Nat} (h : l[i]? = some x) : hasF (l.drop i) s = (x.toList == s.toList || hasF (l.drop (i + 1)) s) := by
  rw [drop_at h]; rfl
theorem rhasStr_ev (l : List ByteArray) (s : ByteArray) : Ev E 175 [.sl (l.map .str), .str s] (.d (.bool (hasF l s))) := Ev.fit fun hfit => by
  obtain ⟨hmax, -⟩ := fit_map (l := l) (f := D.str) (hfit _ (by simp))
  have hle : (l.map D.str).length = l.length := by simp
  refine enter2 Tryz.func175 Tryz.ntmps175 rfl rfl fun w0 F0 O => ?_
  repeat' (first | refine zS rfl ?_ | refine qA ?_ | refine qB rfl ?_ | refine qD ?_ | refine qF ?_)
  refine go_loop_ (α := SHs l s) (fun p => ⟨[(0, .d (.sl (l.map .str))), (1, .d (.str s)), (5, .d (.int p.i))], []⟩) (fun p => l.length - p.i) ⟨0, by omega, rfl⟩ ((zle 0)) ?_
  rintro ⟨i, hi, ok⟩
  dsimp only
  rcases Nat.lt_or_ge i l.length with hlt | hge
  · have g1 : decide ((i : Int) < ((l.map D.str).length : Int)) = true := by rw [hle]; simpa using hlt
    have hx0 := List.getElem?_eq_getElem hlt
    generalize l[i] = x at hx0
    have hx := map_at (f := D.str) hx0
    rw [ok, hasF_at hx0]
    cases hc : x.toList == s.toList with
    | true =>
      repeat' (first | refine zS rfl ?_ | refine qA ?_ | refine qB rfl ?_ | refine qD ?_ | refine qE ?_ | refine qF ?_ | refine qI (.str x) rfl (guardX_ok rfl) rfl rfl rfl rfl rfl rfl (by first | omega | decide) hx ?_ | refine zT rfl ?_ | refine qL rfl rfl ?_ | exact zD)
    | false =>
      repeat' (first | refine zS rfl ?_ | refine qA ?_ | refine qB rfl ?_ | refine qD ?_ | refine qE ?_ | refine qF ?_ | refine qG ?_ | refine qI (.str x) rfl (guardX_ok rfl) rfl rfl rfl rfl rfl rfl (by first | omega | decide) hx ?_ | refine zT rfl ?_ | refine zU rfl ?_)
      refine go_stop ?_
      exact ⟨⟨i + 1, by omega, by rw [ok, hasF_at hx0, hc]; rfl⟩, by dsimp only; omega, (zle 0)⟩
  · have g1 : decide ((i : Int) < ((l.map D.str).length : Int)) = false := by rw [hle]; simp; omega
    rw [ok, List.drop_eq_nil_of_le hge]
    repeat' (first | refine zS rfl ?_ | refine qA ?_ | refine qB rfl ?_ | refine qD ?_ | refine qH rfl ?_ | refine zU rfl ?_ | refine qL rfl rfl ?_ | exact zD)
theorem rhasLabel_ev (n : Nd) (s : ByteArray) : Ev E 121 [encNd n, .str s] (.d (.bool (hasF n.labels s))) := by
  have h := rhasStr_ev n.labels s
  refine enter2 Tryz.func121 Tryz.ntmps121 rfl rfl fun w0 F0 O => ?_
  repeat' (first | refine zS rfl ?_ | refine qA ?_ | refine qB rfl ?_ | refine qD ?_ | refine qP rfl rfl rfl rfl rfl rfl b175 (h) ?_ | refine qL rfl rfl ?_ | exact zD)
theorem rprop_ev (l : List Pr) (k : ByteArray) : Ev E 117 [.sl (l.map encPr), .str k] (.d (enc (findP l k))) := Ev.fit fun hfit => by
  obtain ⟨hmax, -⟩ := fit_map (l := l) (f := encPr) (hfit _ (by simp))
  have hle : (l.map encPr).length = l.length := by simp
  unfold findP
  refine enter2 Tryz.func117 Tryz.ntmps117 rfl rfl fun w0 F0 O => ?_
  repeat' (first | refine zS rfl ?_ | refine qA ?_ | refine qB rfl ?_ | refine qD ?_ | refine qF ?_)
  refine go_loop_ (α := SFd l fun p => p.key.toList == k.toList) (fun p => ⟨[(0, .d (.sl (l.map encPr))), (1, .d (.str k)), (4, .ptr 0 0), (5, .d (.int p.i))], [.var 28 (.cs [.d (.int 0), .d (.int 0), .d (.int 0), .d (.str ⟨#[]⟩), .nilS])]⟩) (fun p => l.length - p.i) ⟨0, by omega, rfl⟩ ((zle 1)) ?_
  rintro ⟨i, hi, ok⟩
  dsimp only
  rcases Nat.lt_or_ge i l.length with hlt | hge
  · have g1 : decide ((i : Int) < ((l.map encPr).length : Int)) = true := by rw [hle]; simpa using hlt
    have hx0 := List.getElem?_eq_getElem hlt
    generalize l[i] = x at hx0
    have hx := map_at (f := encPr) hx0
    rw [ok, find_at hx0]
    cases hc : x.key.toList == k.toList with
    | true =>
      repeat' (first | refine zS rfl ?_ | refine qA ?_ | refine qB rfl ?_ | refine qD ?_ | refine qE ?_ | refine qF ?_ | refine qI (encPr x) rfl (guardX_ok rfl) rfl rfl rfl rfl rfl rfl (by first | omega | decide) hx ?_ | refine zT rfl ?_ | refine qL rfl rfl ?_ | exact zD)
    | false =>
      repeat' (first | refine zS rfl ?_ | refine qA ?_ | refine qB rfl ?_ | refine qD ?_ | refine qE ?_ | refine qF ?_ | refine qG ?_ | refine qI (encPr x) rfl (guardX_ok rfl) rfl rfl rfl rfl rfl rfl (by first | omega | decide) hx ?_ | refine zT rfl ?_ | refine zU rfl ?_)
      refine go_stop ?_
      exact ⟨⟨i + 1, by omega, by rw [ok, find_at hx0, hc]; rfl⟩, by dsimp only; omega, (zle 1)⟩
  · have g1 : decide ((i : Int) < ((l.map encPr).length : Int)) = false := by rw [hle]; simp; omega
    rw [ok, List.drop_eq_nil_of_le hge]
    repeat' (first | refine zS rfl ?_ | refine qA ?_ | refine qB rfl ?_ | refine qD ?_ | refine qH rfl ?_ | refine zU rfl ?_ | refine qL rfl rfl ?_ | exact zD)
end Go.Proofs.YthieohigmpfknaaGreatDoor

/- The reference's evaluation of expressions. Conditions: see okE. -/
namespace Go.Proofs.YthieohigmpfknaaGreatDoor
open Go Go.Abs Go.Val Go.RowKit
attribute [local irreducible] go SGo HasBody Ev ExtEv EvO EvS binOp RGo

theorem giv_ev (v : V) : Ev E 67 [enc v] (.d (enc (giv v))) := by
  have h := RValid_ev v
  unfold giv
  cases hv : Val.okV v <;> rw [hv] at h
  all_goals
    refine enter1 Tryz.func67 Tryz.ntmps67 rfl rfl fun w0 F0 O => ?_
    repeat' (first | refine zS rfl ?_ | refine qA ?_ | refine qB rfl ?_ | refine qD ?_ | refine qE ?_ | refine qP rfl rfl rfl rfl rfl rfl b16 (h) ?_ | refine qP rfl rfl rfl rfl rfl rfl b36 (rnull_ev) ?_ | refine zT rfl ?_ | refine zU rfl ?_ | refine qL rfl rfl ?_ | exact zD)
theorem rational_ev (n d : Int) (b : Bool) : Ev E 111 [.agg [.int n, .int d], .bool b] (.d (enc (ratF b n d))) := by
  have h := rrat_ev n d
  unfold ratF
  cases b
  all_goals
    refine enter2 Tryz.func111 Tryz.ntmps111 rfl rfl fun w0 F0 O => ?_
    repeat' (first | refine zS rfl ?_ | refine qA ?_ | refine qB rfl ?_ | refine qD ?_ | refine qE ?_ | refine qP rfl rfl rfl rfl rfl rfl b169 (h) ?_ | refine qP rfl rfl rfl rfl rfl rfl b36 (rnull_ev) ?_ | refine zT rfl ?_ | refine zU rfl ?_ | refine qL rfl rfl ?_ | exact zD)
def prsF (g : Gr) (a : V) : List Pr := bif a.k == 5 then (nodF g a).props else bif a.k == 6 then (edgF g a).props else []
theorem props_ev (g : Gr) (a : V) : Ev E 118 [encGr g, enc a] (.d (.sl ((prsF g a).map encPr))) := by
  have h1 := rnode_of g a.n
  have h2 := redge_of g a.n
  unfold prsF nodF edgF
  cases k5 : a.k == 5 with
  | true =>
    refine enter2 Tryz.func118 Tryz.ntmps118 rfl rfl fun w0 F0 O => ?_
    repeat' (first | refine zS rfl ?_ | refine qA ?_ | refine qB rfl ?_ | refine qD ?_ | refine qP rfl rfl rfl rfl rfl rfl b119 (h1) ?_ | refine zT rfl ?_ | refine qL rfl rfl ?_ | exact zD)
  | false =>
  cases k6 : a.k == 6 with
  | true =>
    refine enter2 Tryz.func118 Tryz.ntmps118 rfl rfl fun w0 F0 O => ?_
    repeat' (first | refine zS rfl ?_ | refine qA ?_ | refine qB rfl ?_ | refine qD ?_ | refine qE ?_ | refine qP rfl rfl rfl rfl rfl rfl b173 (h2) ?_ | refine zT rfl ?_ | refine zU rfl ?_ | refine qL rfl rfl ?_ | exact zD)
  | false =>
    refine enter2 Tryz.func118 Tryz.ntmps118 rfl rfl fun w0 F0 O => ?_
    repeat' (first | refine zS rfl ?_ | refine qA ?_ | refine qB rfl ?_ | refine qD ?_ | refine qE ?_ | refine zU rfl ?_ | refine qL rfl rfl ?_ | exact zD)
theorem prs_prop (g : Gr) (a : V) (key : ByteArray) : findP (prsF g a) key = propF g a key := by
  unfold prsF propF nodB edgB
  cases k5 : a.k == 5 with
  | true =>
    simp only [cond_true, Bool.true_and]
    have k6 : (a.k == 6) = false := by simp at k5 ⊢; omega
    cases hf : findN g.nodes a.n with
    | some n => rfl
    | none =>
      rw [k6]
      simp only [Option.isSome_none, cond_false, Bool.false_and]
      unfold nodF
      rw [k5, hf]
      rfl
  | false =>
    simp only [cond_false, Bool.false_and]
    cases k6 : a.k == 6 with
    | false => rfl
    | true =>
      simp only [cond_true, Bool.true_and]
      cases hf : findE g.edges a.n with
      | some n => rfl
      | none =>
        unfold edgF
        rw [k6, hf]
        rfl
theorem fval_neg {n d : Int} (h : fval n d = true) : fval (0 - n) d = true := by
  obtain ⟨h1, h2, h3⟩ := fval_inv h
  unfold fval
  rw [(inM_iff (0 - n)).2 (by omega), show Int.gcd (0 - n) d = Int.gcd n d by rw [Int.zero_sub, Int.neg_gcd], h3]
  simp
  omega
theorem neg_add {n d : Int} (h : fval n d = true) : addB 0 1 (0 - n) d = true ∧ addN 0 1 (0 - n) d = 0 - n ∧ addD 0 1 (0 - n) d = d := by
  obtain ⟨h1, h2, h3⟩ := fval_inv h
  have hv := fval_neg h
  have hG : adG 1 d = 1 := by unfold adG; simp
  have hT : adT 0 1 (0 - n) d = 0 - n := by unfold adT; rw [hG]; simp
  have hH : adH 0 1 (0 - n) d = 1 := by unfold adH; rw [hG, hT]; simp
  have hD : adD 0 1 (0 - n) d = d := by unfold adD; rw [hG, hH]; simp
  have hN : adN 0 1 (0 - n) d = 0 - n := by
    unfold adN
    rw [hT, hH, Nat.div_one]
    rcases Int.lt_trichotomy (0 - n) 0 with hl | hl | hl
    · rw [sgn_neg hl]; omega
    · rw [hl]; rfl
    · rw [sgn_pos hl]; omega
  have hK : adK 0 1 (0 - n) d = true := by
    unfold adK ovB
    rw [hT, hH, hD, Nat.div_one]
    simp
    omega
  have hB : addB 0 1 (0 - n) d = true := by
    unfold addB
    rw [hv, hK, show fval 0 1 = true by decide]
    simp
  refine ⟨hB, ?_, ?_⟩
  · unfold addN
    rw [hB, hT, hN]
    cases hz : (0 - n == 0) with
    | true => have : 0 - n = 0 := by simpa using hz
              simp [this]
    | false => rfl
  · unfold addD
    rw [hB, hT, hD]
    cases hz : (0 - n == 0) with
    | true =>
      have : 0 - n = 0 := by simpa using hz
      obtain rfl : n = 0 := by omega
      simp at h3
      simp
      omega
    | false => rfl
theorem unary_ev (g : Gr) (env : List Bd) (op : Int) (v : V) (nm : ByteArray) (ds : Bool) (ks : List Ex) (a : V) (ho : op = 3 ∨ op = 4 ∨ op = 5 ∨ op = 6 ∨ op = 21) : Ev E 70 [encGr g, encE (.mk op v nm ds ks), enc a] (.d (enc (apF g env op v nm [a]))) := by
  rcases ho with rfl | rfl | rfl | rfl | rfl
  · rw [show apF g env 3 v nm [a] = propF g a nm from rfl, ← prs_prop]
    have h1 := props_ev g a
    have h2 := rprop_ev (prsF g a) nm
    refine enter3 Tryz.func70 Tryz.ntmps70 rfl rfl fun w0 F0 O => ?_
    repeat' (first | refine qR0 (id := 3) [6] (by kernel_rfl) (by kernel_rfl) (by repeat (first | exact trivial | refine ⟨⟨rfl, rfl⟩, ?_⟩ | refine ⟨trivial, ?_⟩)) ?_ | refine rgF (id := 3) (i := 0) 6 (by kernel_rfl) rfl ?_ | refine rgStore (id := 3) (i := 6) rfl rfl rfl rfl rfl rfl rfl rfl rfl rfl rfl (by repeat (first | exact trivial | refine ⟨⟨rfl, rfl⟩, ?_⟩ | refine ⟨trivial, ?_⟩)) ?_ | refine rgN ?_ | refine zS rfl ?_ | refine qA ?_ | refine qB rfl ?_ | refine qD ?_ | refine qF ?_ | refine qP rfl rfl rfl rfl rfl rfl b118 (h1) ?_ | refine qP rfl rfl rfl rfl rfl rfl b117 (h2) ?_ | refine zT rfl ?_ | refine qL rfl rfl ?_ | exact zD)
  · rw [show apF g env 4 v nm [a] = bif nodB g a then vBool (hasF (nodF g a).labels nm) else vNull from rfl]
    have h1 := rnode_of g a.n
    have h2 := rhasLabel_ev ((findN g.nodes a.n).getD nd0) nm
    have h3 := rbool_ev (hasF ((findN g.nodes a.n).getD nd0).labels nm)
    unfold nodB nodF
    cases hs : (findN g.nodes a.n).isSome <;> cases k5 : a.k == 5 <;> rw [hs] at h1
    all_goals
      refine enter3 Tryz.func70 Tryz.ntmps70 rfl rfl fun w0 F0 O => ?_
      repeat' (first | refine zS rfl ?_ | refine qA ?_ | refine qB rfl ?_ | refine qD ?_ | refine qE ?_ | refine qF ?_ | refine qG ?_ | refine qP rfl rfl rfl rfl rfl rfl b119 (h1) ?_ | refine qP rfl rfl rfl rfl rfl rfl b121 (h2) ?_ | refine qP rfl rfl rfl rfl rfl rfl b120 (h3) ?_ | refine qP rfl rfl rfl rfl rfl rfl b36 (rnull_ev) ?_ | refine zT rfl ?_ | refine zU rfl ?_ | refine qL rfl rfl ?_ | exact zD)
  · rw [show apF g env 5 v nm [a] = vTruth (2 - kn (truthF a)) from rfl]
    have t1 := RTruth_ev a
    have t2 := rnot_ev (truthF a)
    have t3 := rfromTruth_ev (2 - kn (truthF a))
    refine enter3 Tryz.func70 Tryz.ntmps70 rfl rfl fun w0 F0 O => ?_
    repeat' (first | refine zS rfl ?_ | refine qA ?_ | refine qB rfl ?_ | refine qD ?_ | refine qF ?_ | refine qP rfl rfl rfl rfl rfl rfl b18 (t1) ?_ | refine qP rfl rfl rfl rfl rfl rfl b123 (t2) ?_ | refine qP rfl rfl rfl rfl rfl rfl b122 (t3) ?_ | refine zT rfl ?_ | refine zU rfl ?_ | refine qL rfl rfl ?_ | exact zD)
  · rw [show apF g env 6 v nm [a] = bif isNum a then vRat (0 - numN a) (numD a) else vNull from rfl]
    have n1 := RNumber_ev a
    cases hn : isNum a with
    | true =>
      rw [hn] at n1
      have hf := num_fval hn
      have s1 := rsub_ev 0 1 (numN a) (numD a) hf
      obtain ⟨e1, e2, e3⟩ := neg_add hf
      rw [e1, e2, e3] at s1
      have r1 := rational_ev (0 - numN a) (numD a) true
      refine enter3 Tryz.func70 Tryz.ntmps70 rfl rfl fun w0 F0 O => ?_
      repeat' (first | refine zS rfl ?_ | refine qA ?_ | refine qB rfl ?_ | refine qD ?_ | refine qF ?_ | refine qP rfl rfl rfl rfl rfl rfl b42 (n1) ?_ | refine qP rfl rfl rfl rfl rfl rfl b124 (s1) ?_ | refine qP rfl rfl rfl rfl rfl rfl b111 (r1) ?_ | refine zT rfl ?_ | refine zU rfl ?_ | refine qL rfl rfl ?_ | exact zD)
    | false =>
      rw [hn] at n1
      refine enter3 Tryz.func70 Tryz.ntmps70 rfl rfl fun w0 F0 O => ?_
      repeat' (first | refine zS rfl ?_ | refine qA ?_ | refine qB rfl ?_ | refine qD ?_ | refine qE ?_ | refine qF ?_ | refine qG ?_ | refine qP rfl rfl rfl rfl rfl rfl b42 (n1) ?_ | refine qP rfl rfl rfl rfl rfl rfl b36 (rnull_ev) ?_ | refine zT rfl ?_ | refine zU rfl ?_ | refine qL rfl rfl ?_ | exact zD)
  · rw [show apF g env 21 v nm [a] = vBool (a.k == 0) from rfl]
    have h1 := rbool_ev (a.k == 0)
    refine enter3 Tryz.func70 Tryz.ntmps70 rfl rfl fun w0 F0 O => ?_
    repeat' (first | refine zS rfl ?_ | refine qA ?_ | refine qB rfl ?_ | refine qD ?_ | refine qF ?_ | refine qP rfl rfl rfl rfl rfl rfl b120 (h1) ?_ | refine zT rfl ?_ | refine zU rfl ?_ | refine qL rfl rfl ?_ | exact zD)
theorem ratMost_ev (a b : V) : Ev E 129 [enc a, enc b] (.d (.int (atmF (lessF a b) (eqF a b)))) := by
  have h1 := rLess_ev a b
  have h2 := rEqual_ev a b
  unfold atmF
  generalize lessF a b = l at *
  generalize eqF a b = q at *
  cases c1 : l == 2 <;> cases c2 : q == 2 <;> cases c3 : l == 0 <;> cases c4 : q == 0
  all_goals
    refine enter2 Tryz.func129 Tryz.ntmps129 rfl rfl fun w0 F0 O => ?_
    repeat' (first | refine zS rfl ?_ | refine qA ?_ | refine qB rfl ?_ | refine qD ?_ | refine qE ?_ | refine qP rfl rfl rfl rfl rfl rfl b128 (h1) ?_ | refine qP rfl rfl rfl rfl rfl rfl b127 (h2) ?_ | refine zT rfl ?_ | refine zU rfl ?_ | refine qL rfl rfl ?_ | refine zX rfl rfl rfl rfl ?_ | refine zW rfl rfl rfl rfl ?_ | exact zD)
theorem rin_ev22 (a b : V) : Ev E 130 [enc a, enc b] (.d (enc (vTruth (bif b.k != 8 then 1 else inL a b.l 0)))) := Ev.fit fun hfit => by
  obtain ⟨-, -, -, -, hmax, -⟩ := fit_enc (v := b) (hfit _ (by simp))
  have hle : (kids b).length = b.l.length := kids_len b
  cases c8 : b.k != 8 with
  | true =>
    rw [show vTruth (bif true then 1 else inL a b.l 0) = vNull from rfl]
    refine enter2 Tryz.func130 Tryz.ntmps130 rfl rfl fun w0 F0 O => ?_
    repeat' (first | refine zS rfl ?_ | refine qA ?_ | refine qB rfl ?_ | refine qD ?_ | refine qP rfl rfl rfl rfl rfl rfl b36 (rnull_ev) ?_ | refine zT rfl ?_ | refine qL rfl rfl ?_ | exact zD)
  | false =>
    have hft := rfromTruth_ev (inL a b.l 0)
    rw [cond_false]
    refine enter2 Tryz.func130 Tryz.ntmps130 rfl rfl fun w0 F0 O => ?_
    repeat' (first | refine zS rfl ?_ | refine qA ?_ | refine qB rfl ?_ | refine qD ?_ | refine qE ?_ | refine qF ?_ | refine zU rfl ?_)
    refine go_loop_ (α := SIn a b.l) (fun p => ⟨[(2, .ptr 0 0), (3, .ptr 1 0), (4, .ptr 2 0), (5, .d (.int p.t)), (6, .d (.int p.i))], [.var 28 (.w (.d (enc a))), .var 28 (.w (.d (enc b))), zVal]⟩) (fun p => b.l.length - p.i) ⟨0, 0, by omega, rfl⟩ ((zle 3)) ?_
    rintro ⟨i, t, hi, ok⟩
    dsimp only
    rcases Nat.lt_or_ge i b.l.length with hlt | hge
    · have g1 : decide ((i : Int) < ((kids b).length : Int)) = true := by rw [hle]; simpa using hlt
      have hx0 := List.getElem?_eq_getElem hlt
      generalize b.l[i] = x at hx0
      have hx : (kids b)[(i : Int).toNat]? = some (enc x) := by rw [Int.toNat_natCast]; exact kids_get hx0
      have q1 := rEqual_ev a x
      have q2 := ror_ev t (eqF a x)
      rw [inL_at hx0] at ok
      repeat' (first | refine zS rfl ?_ | refine qA ?_ | refine qB rfl ?_ | refine qC (by kernel_rfl) ?_ | refine qD ?_ | refine qE ?_ | refine qF ?_ | refine qG ?_ | refine qI (enc x) rfl (guardX_ok rfl) rfl rfl rfl rfl rfl rfl (by first | omega | decide) hx ?_ | refine qP rfl rfl rfl rfl rfl rfl b127 (q1) ?_ | refine qP rfl rfl rfl rfl rfl rfl b126 (q2) ?_ | refine zT rfl ?_)
      refine go_stop ?_
      exact ⟨⟨i + 1, _, by omega, ok⟩, by dsimp only; omega, (zle 3)⟩
    · have g1 : decide ((i : Int) < ((kids b).length : Int)) = false := by rw [hle]; simp; omega
      rw [List.drop_eq_nil_of_le hge] at ok
      have ok' : inL a b.l 0 = t := ok
      rw [ok'] at hft ⊢
      repeat' (first | refine zS rfl ?_ | refine qA ?_ | refine qB rfl ?_ | refine qD ?_ | refine qH rfl ?_ | refine qP rfl rfl rfl rfl rfl rfl b122 (hft) ?_ | refine zU rfl ?_ | refine qL rfl rfl ?_ | exact zD)
theorem ratF_mul {b : Bool} {n d : Int} : ratF b (bif b then n else 0) (bif b then d else 0) = ratF b n d := by cases b <;> rfl
set_option maxHeartbeats 4000000 in
theorem rarith_ev (op : Int) (a b : V) (ho : 7 ≤ op ∧ op ≤ 11) (ha : Val.okV a = true) (hb : Val.okV b = true) : Ev E 131 [.int op, enc a, enc b] (.d (enc (arF op a b))) := by
  have n1 := RNumber_ev a
  have n2 := RNumber_ev b
  obtain rfl | rfl | rfl | rfl | rfl : op = 7 ∨ op = 8 ∨ op = 9 ∨ op = 10 ∨ op = 11 := by omega
  · have e0 : arF 7 a b = bif strs2 a b then vStr (a.s ++ b.s) else bif !(isNum a) || !(isNum b) then vNull else ratF (addB (numN a) (numD a) (numN b) (numD b)) (addN (numN a) (numD a) (numN b) (numD b)) (addD (numN a) (numD a) (numN b) (numD b)) := rfl
    rw [e0]
    unfold strs2
    cases ka : a.k == 4 with
    | true =>
      have hna : isNum a = false := by unfold isNum; have : a.k = 4 := (by simpa using ka); rw [this]; rfl
      rw [hna] at n1 ⊢
      cases kb : b.k == 4 with
      | true =>
        have z1 := okV_4a ha ka
        have z2 := okV_4a hb kb
        have s1 := rstr_ev (a.s ++ b.s)
        refine enter3 Tryz.func131 Tryz.ntmps131 rfl rfl fun w0 F0 O => ?_
        repeat' (first | refine zS rfl ?_ | refine qA ?_ | refine qB rfl ?_ | refine qD ?_ | refine qP rfl rfl rfl rfl rfl rfl b112 (s1) ?_ | refine zT rfl ?_ | refine qL rfl rfl ?_ | refine zX rfl rfl rfl rfl ?_ | exact zD)
      | false =>
        simp only [Bool.and_false, cond_false, Bool.not_false, Bool.true_or, cond_true]
        refine enter3 Tryz.func131 Tryz.ntmps131 rfl rfl fun w0 F0 O => ?_
        repeat' (first | refine zS rfl ?_ | refine qA ?_ | refine qB rfl ?_ | refine qD ?_ | refine qE ?_ | refine qP rfl rfl rfl rfl rfl rfl b42 (n1) ?_ | refine qP rfl rfl rfl rfl rfl rfl b42 (n2) ?_ | refine qP rfl rfl rfl rfl rfl rfl b36 (rnull_ev) ?_ | refine zT rfl ?_ | refine zU rfl ?_ | refine qL rfl rfl ?_ | refine zX rfl rfl rfl rfl ?_ | exact zD)
    | false =>
    simp only [Bool.false_and, cond_false]
    cases na : isNum a with
    | false =>
      rw [na] at n1
      simp only [Bool.not_false, Bool.true_or, cond_true]
      refine enter3 Tryz.func131 Tryz.ntmps131 rfl rfl fun w0 F0 O => ?_
      repeat' (first | refine zS rfl ?_ | refine qA ?_ | refine qB rfl ?_ | refine qD ?_ | refine qE ?_ | refine qP rfl rfl rfl rfl rfl rfl b42 (n1) ?_ | refine qP rfl rfl rfl rfl rfl rfl b42 (n2) ?_ | refine qP rfl rfl rfl rfl rfl rfl b36 (rnull_ev) ?_ | refine zT rfl ?_ | refine zU rfl ?_ | refine qL rfl rfl ?_ | refine zW rfl rfl rfl rfl ?_ | exact zD)
    | true =>
      rw [na] at n1
      cases nb : isNum b with
      | false =>
        rw [nb] at n2
        simp only [Bool.not_false, Bool.or_true, cond_true]
        refine enter3 Tryz.func131 Tryz.ntmps131 rfl rfl fun w0 F0 O => ?_
        repeat' (first | refine zS rfl ?_ | refine qA ?_ | refine qB rfl ?_ | refine qD ?_ | refine qE ?_ | refine qP rfl rfl rfl rfl rfl rfl b42 (n1) ?_ | refine qP rfl rfl rfl rfl rfl rfl b42 (n2) ?_ | refine qP rfl rfl rfl rfl rfl rfl b36 (rnull_ev) ?_ | refine zT rfl ?_ | refine zU rfl ?_ | refine qL rfl rfl ?_ | refine zW rfl rfl rfl rfl ?_ | exact zD)
      | true =>
        rw [nb] at n2
        have fb := num_fval nb
        have a1 := radd_ev (numN a) (numD a) (numN b) (numD b)
        have r1 := rational_ev (addN (numN a) (numD a) (numN b) (numD b)) (addD (numN a) (numD a) (numN b) (numD b)) (addB (numN a) (numD a) (numN b) (numD b))
        simp only [Bool.not_true, Bool.or_self, cond_false]
        refine enter3 Tryz.func131 Tryz.ntmps131 rfl rfl fun w0 F0 O => ?_
        repeat' (first | refine zS rfl ?_ | refine qA ?_ | refine qB rfl ?_ | refine qD ?_ | refine qE ?_ | refine qF ?_ | refine qP rfl rfl rfl rfl rfl rfl b42 (n1) ?_ | refine qP rfl rfl rfl rfl rfl rfl b42 (n2) ?_ | refine qP rfl rfl rfl rfl rfl rfl b177 (a1) ?_ | refine qP rfl rfl rfl rfl rfl rfl b111 (r1) ?_ | refine zT rfl ?_ | refine zU rfl ?_ | refine qL rfl rfl ?_ | refine zW rfl rfl rfl rfl ?_ | exact zD)
  · have e0 : arF 8 a b = bif !(isNum a) || !(isNum b) then vNull else ratF (addB (numN a) (numD a) (0 - numN b) (numD b)) (addN (numN a) (numD a) (0 - numN b) (numD b)) (addD (numN a) (numD a) (0 - numN b) (numD b)) := rfl
    rw [e0]
    cases na : isNum a with
    | false =>
      rw [na] at n1
      simp only [Bool.not_false, Bool.true_or, cond_true]
      refine enter3 Tryz.func131 Tryz.ntmps131 rfl rfl fun w0 F0 O => ?_
      repeat' (first | refine zS rfl ?_ | refine qA ?_ | refine qB rfl ?_ | refine qD ?_ | refine qE ?_ | refine qP rfl rfl rfl rfl rfl rfl b42 (n1) ?_ | refine qP rfl rfl rfl rfl rfl rfl b42 (n2) ?_ | refine qP rfl rfl rfl rfl rfl rfl b36 (rnull_ev) ?_ | refine zT rfl ?_ | refine zU rfl ?_ | refine qL rfl rfl ?_ | exact zD)
    | true =>
      rw [na] at n1
      cases nb : isNum b with
      | false =>
        rw [nb] at n2
        simp only [Bool.not_false, Bool.or_true, cond_true]
        refine enter3 Tryz.func131 Tryz.ntmps131 rfl rfl fun w0 F0 O => ?_
        repeat' (first | refine zS rfl ?_ | refine qA ?_ | refine qB rfl ?_ | refine qD ?_ | refine qE ?_ | refine qP rfl rfl rfl rfl rfl rfl b42 (n1) ?_ | refine qP rfl rfl rfl rfl rfl rfl b42 (n2) ?_ | refine qP rfl rfl rfl rfl rfl rfl b36 (rnull_ev) ?_ | refine zT rfl ?_ | refine zU rfl ?_ | refine qL rfl rfl ?_ | exact zD)
      | true =>
        rw [nb] at n2
        have fb := num_fval nb
        have a1 := rsub_ev (numN a) (numD a) (numN b) (numD b) fb
        have r1 := rational_ev (addN (numN a) (numD a) (0 - numN b) (numD b)) (addD (numN a) (numD a) (0 - numN b) (numD b)) (addB (numN a) (numD a) (0 - numN b) (numD b))
        simp only [Bool.not_true, Bool.or_self, cond_false]
        refine enter3 Tryz.func131 Tryz.ntmps131 rfl rfl fun w0 F0 O => ?_
        repeat' (first | refine zS rfl ?_ | refine qA ?_ | refine qB rfl ?_ | refine qD ?_ | refine qE ?_ | refine qF ?_ | refine qP rfl rfl rfl rfl rfl rfl b42 (n1) ?_ | refine qP rfl rfl rfl rfl rfl rfl b42 (n2) ?_ | refine qP rfl rfl rfl rfl rfl rfl b124 (a1) ?_ | refine qP rfl rfl rfl rfl rfl rfl b111 (r1) ?_ | refine zT rfl ?_ | refine zU rfl ?_ | refine qL rfl rfl ?_ | exact zD)
  · have e0 : arF 9 a b = bif !(isNum a) || !(isNum b) then vNull else ratF (mulF (numN a) (numD a) (numN b) (numD b)) (muN (numN a) (numD a) (numN b) (numD b)) (muD (numN a) (numD a) (numN b) (numD b)) := rfl
    rw [e0]
    cases na : isNum a with
    | false =>
      rw [na] at n1
      simp only [Bool.not_false, Bool.true_or, cond_true]
      refine enter3 Tryz.func131 Tryz.ntmps131 rfl rfl fun w0 F0 O => ?_
      repeat' (first | refine zS rfl ?_ | refine qA ?_ | refine qB rfl ?_ | refine qD ?_ | refine qE ?_ | refine qP rfl rfl rfl rfl rfl rfl b42 (n1) ?_ | refine qP rfl rfl rfl rfl rfl rfl b42 (n2) ?_ | refine qP rfl rfl rfl rfl rfl rfl b36 (rnull_ev) ?_ | refine zT rfl ?_ | refine zU rfl ?_ | refine qL rfl rfl ?_ | exact zD)
    | true =>
      rw [na] at n1
      cases nb : isNum b with
      | false =>
        rw [nb] at n2
        simp only [Bool.not_false, Bool.or_true, cond_true]
        refine enter3 Tryz.func131 Tryz.ntmps131 rfl rfl fun w0 F0 O => ?_
        repeat' (first | refine zS rfl ?_ | refine qA ?_ | refine qB rfl ?_ | refine qD ?_ | refine qE ?_ | refine qP rfl rfl rfl rfl rfl rfl b42 (n1) ?_ | refine qP rfl rfl rfl rfl rfl rfl b42 (n2) ?_ | refine qP rfl rfl rfl rfl rfl rfl b36 (rnull_ev) ?_ | refine zT rfl ?_ | refine zU rfl ?_ | refine qL rfl rfl ?_ | exact zD)
      | true =>
        rw [nb] at n2
        have fb := num_fval nb
        have a1 := rmul_ev (numN a) (numD a) (numN b) (numD b)
        have r1 := rational_ev (bif mulF (numN a) (numD a) (numN b) (numD b) then muN (numN a) (numD a) (numN b) (numD b) else 0) (bif mulF (numN a) (numD a) (numN b) (numD b) then muD (numN a) (numD a) (numN b) (numD b) else 0) (mulF (numN a) (numD a) (numN b) (numD b))
        rw [ratF_mul] at r1
        simp only [Bool.not_true, Bool.or_self, cond_false]
        refine enter3 Tryz.func131 Tryz.ntmps131 rfl rfl fun w0 F0 O => ?_
        repeat' (first | refine zS rfl ?_ | refine qA ?_ | refine qB rfl ?_ | refine qD ?_ | refine qE ?_ | refine qF ?_ | refine qP rfl rfl rfl rfl rfl rfl b42 (n1) ?_ | refine qP rfl rfl rfl rfl rfl rfl b42 (n2) ?_ | refine qP rfl rfl rfl rfl rfl rfl b178 (a1) ?_ | refine qP rfl rfl rfl rfl rfl rfl b111 (r1) ?_ | refine zT rfl ?_ | refine zU rfl ?_ | refine qL rfl rfl ?_ | exact zD)
  · have e0 : arF 10 a b = bif !(isNum a) || !(isNum b) then vNull else ratF (divB (numN a) (numD a) (numN b) (numD b)) (divN (numN a) (numD a) (numN b) (numD b)) (divD (numN a) (numD a) (numN b) (numD b)) := rfl
    rw [e0]
    cases na : isNum a with
    | false =>
      rw [na] at n1
      simp only [Bool.not_false, Bool.true_or, cond_true]
      refine enter3 Tryz.func131 Tryz.ntmps131 rfl rfl fun w0 F0 O => ?_
      repeat' (first | refine zS rfl ?_ | refine qA ?_ | refine qB rfl ?_ | refine qD ?_ | refine qE ?_ | refine qP rfl rfl rfl rfl rfl rfl b42 (n1) ?_ | refine qP rfl rfl rfl rfl rfl rfl b42 (n2) ?_ | refine qP rfl rfl rfl rfl rfl rfl b36 (rnull_ev) ?_ | refine zT rfl ?_ | refine zU rfl ?_ | refine qL rfl rfl ?_ | exact zD)
    | true =>
      rw [na] at n1
      cases nb : isNum b with
      | false =>
        rw [nb] at n2
        simp only [Bool.not_false, Bool.or_true, cond_true]
        refine enter3 Tryz.func131 Tryz.ntmps131 rfl rfl fun w0 F0 O => ?_
        repeat' (first | refine zS rfl ?_ | refine qA ?_ | refine qB rfl ?_ | refine qD ?_ | refine qE ?_ | refine qP rfl rfl rfl rfl rfl rfl b42 (n1) ?_ | refine qP rfl rfl rfl rfl rfl rfl b42 (n2) ?_ | refine qP rfl rfl rfl rfl rfl rfl b36 (rnull_ev) ?_ | refine zT rfl ?_ | refine zU rfl ?_ | refine qL rfl rfl ?_ | exact zD)
      | true =>
        rw [nb] at n2
        have fb := num_fval nb
        have a1 := rdiv_ev (numN a) (numD a) (numN b) (numD b)
        have r1 := rational_ev (divN (numN a) (numD a) (numN b) (numD b)) (divD (numN a) (numD a) (numN b) (numD b)) (divB (numN a) (numD a) (numN b) (numD b))
        simp only [Bool.not_true, Bool.or_self, cond_false]
        refine enter3 Tryz.func131 Tryz.ntmps131 rfl rfl fun w0 F0 O => ?_
        repeat' (first | refine zS rfl ?_ | refine qA ?_ | refine qB rfl ?_ | refine qD ?_ | refine qE ?_ | refine qF ?_ | refine qP rfl rfl rfl rfl rfl rfl b42 (n1) ?_ | refine qP rfl rfl rfl rfl rfl rfl b42 (n2) ?_ | refine qP rfl rfl rfl rfl rfl rfl b179 (a1) ?_ | refine qP rfl rfl rfl rfl rfl rfl b111 (r1) ?_ | refine zT rfl ?_ | refine zU rfl ?_ | refine qL rfl rfl ?_ | exact zD)
  · have m := rmodI_ev a.n b.n
    have i1 := rint_ev (modN a.n b.n)
    have e0 : arF 11 a b = bif !(isNum a) || !(isNum b) then vNull else bif modB a.n b.n && (a.k == 2 && b.k == 2) then vInt (modN a.n b.n) else vNull := rfl
    rw [e0]
    cases na : isNum a with
    | false =>
      rw [na] at n1
      simp only [Bool.not_false, Bool.true_or, cond_true]
      refine enter3 Tryz.func131 Tryz.ntmps131 rfl rfl fun w0 F0 O => ?_
      repeat' (first | refine zS rfl ?_ | refine qA ?_ | refine qB rfl ?_ | refine qD ?_ | refine qE ?_ | refine qP rfl rfl rfl rfl rfl rfl b42 (n1) ?_ | refine qP rfl rfl rfl rfl rfl rfl b42 (n2) ?_ | refine qP rfl rfl rfl rfl rfl rfl b36 (rnull_ev) ?_ | refine zT rfl ?_ | refine zU rfl ?_ | refine qL rfl rfl ?_ | exact zD)
    | true =>
      rw [na] at n1
      cases nb : isNum b with
      | false =>
        rw [nb] at n2
        simp only [Bool.not_false, Bool.or_true, cond_true]
        refine enter3 Tryz.func131 Tryz.ntmps131 rfl rfl fun w0 F0 O => ?_
        repeat' (first | refine zS rfl ?_ | refine qA ?_ | refine qB rfl ?_ | refine qD ?_ | refine qE ?_ | refine qP rfl rfl rfl rfl rfl rfl b42 (n1) ?_ | refine qP rfl rfl rfl rfl rfl rfl b42 (n2) ?_ | refine qP rfl rfl rfl rfl rfl rfl b36 (rnull_ev) ?_ | refine zT rfl ?_ | refine zU rfl ?_ | refine qL rfl rfl ?_ | exact zD)
      | true =>
        rw [nb] at n2
        simp only [Bool.not_true, Bool.or_self, cond_false]
        cases k1 : a.k == 2 with
        | false =>
          have k1' : (a.k != 2) = true := by rw [bne, k1]; rfl
          rw [Bool.false_and, Bool.and_false, cond_false]
          refine enter3 Tryz.func131 Tryz.ntmps131 rfl rfl fun w0 F0 O => ?_
          repeat' (first | refine zS rfl ?_ | refine qA ?_ | refine qB rfl ?_ | refine qD ?_ | refine qE ?_ | refine qF ?_ | refine qG ?_ | refine qP rfl rfl rfl rfl rfl rfl b42 (n1) ?_ | refine qP rfl rfl rfl rfl rfl rfl b42 (n2) ?_ | refine qP rfl rfl rfl rfl rfl rfl b36 (rnull_ev) ?_ | refine zT rfl ?_ | refine zU rfl ?_ | refine qL rfl rfl ?_ | refine zX rfl rfl rfl rfl ?_ | exact zD)
        | true =>
        have k1' : (a.k != 2) = false := by rw [bne, k1]; rfl
        cases k2 : b.k == 2 with
        | false =>
          have k2' : (b.k != 2) = true := by rw [bne, k2]; rfl
          rw [Bool.and_false, Bool.and_false, cond_false]
          refine enter3 Tryz.func131 Tryz.ntmps131 rfl rfl fun w0 F0 O => ?_
          repeat' (first | refine zS rfl ?_ | refine qA ?_ | refine qB rfl ?_ | refine qD ?_ | refine qE ?_ | refine qF ?_ | refine qG ?_ | refine qP rfl rfl rfl rfl rfl rfl b42 (n1) ?_ | refine qP rfl rfl rfl rfl rfl rfl b42 (n2) ?_ | refine qP rfl rfl rfl rfl rfl rfl b36 (rnull_ev) ?_ | refine zT rfl ?_ | refine zU rfl ?_ | refine qL rfl rfl ?_ | refine zW rfl rfl rfl rfl ?_ | exact zD)
        | true =>
          have k2' : (b.k != 2) = false := by rw [bne, k2]; rfl
          cases hm : modB a.n b.n <;> rw [hm] at m
          all_goals
            refine enter3 Tryz.func131 Tryz.ntmps131 rfl rfl fun w0 F0 O => ?_
            repeat' (first | refine zS rfl ?_ | refine qA ?_ | refine qB rfl ?_ | refine qD ?_ | refine qE ?_ | refine qF ?_ | refine qG ?_ | refine qP rfl rfl rfl rfl rfl rfl b42 (n1) ?_ | refine qP rfl rfl rfl rfl rfl rfl b42 (n2) ?_ | refine qP rfl rfl rfl rfl rfl rfl b27 (m) ?_ | refine qP rfl rfl rfl rfl rfl rfl b36 (rnull_ev) ?_ | refine qP rfl rfl rfl rfl rfl rfl b110 (i1) ?_ | refine zT rfl ?_ | refine zU rfl ?_ | refine qL rfl rfl ?_ | refine zW rfl rfl rfl rfl ?_ | exact zD)
set_option maxHeartbeats 4000000 in
theorem binary_ev (g : Gr) (env : List Bd) (op : Int) (v : V) (nm : ByteArray) (a b : V) (ho : 7 ≤ op ∧ op ≤ 20) (ha : Val.okV a = true) (hb : Val.okV b = true) : Ev E 71 [.int op, enc a, enc b] (.d (enc (apF g env op v nm [a, b]))) := by
  have t1 := RTruth_ev a
  have t2 := RTruth_ev b
  have q1 := rEqual_ev a b
  have l1 := rLess_ev a b
  have l2 := rLess_ev b a
  have m1 := ratMost_ev a b
  have m2 := ratMost_ev b a
  rw [eqF_symm] at m2
  have i1 := rin_ev22 a b
  obtain rfl | rfl | rfl | rfl | rfl | rfl | rfl | rfl | rfl | rfl | rfl | rfl | rfl | rfl : op = 7 ∨ op = 8 ∨ op = 9 ∨ op = 10 ∨ op = 11 ∨ op = 12 ∨ op = 13 ∨ op = 14 ∨ op = 15 ∨ op = 16 ∨ op = 17 ∨ op = 18 ∨ op = 19 ∨ op = 20 := by omega
  · have h := rarith_ev 7 a b (by omega) ha hb
    rw [show apF g env 7 v nm [a, b] = arF 7 a b from rfl]
    refine enter3 Tryz.func71 Tryz.ntmps71 rfl rfl fun w0 F0 O => ?_
    repeat' (first | refine zS rfl ?_ | refine qA ?_ | refine qB rfl ?_ | refine qD ?_ | refine qE ?_ | refine qF ?_ | refine qG ?_ | refine qP rfl rfl rfl rfl rfl rfl b131 (h) ?_ | refine zU rfl ?_ | refine qL rfl rfl ?_ | exact zD)
  · have h := rarith_ev 8 a b (by omega) ha hb
    rw [show apF g env 8 v nm [a, b] = arF 8 a b from rfl]
    refine enter3 Tryz.func71 Tryz.ntmps71 rfl rfl fun w0 F0 O => ?_
    repeat' (first | refine zS rfl ?_ | refine qA ?_ | refine qB rfl ?_ | refine qD ?_ | refine qE ?_ | refine qF ?_ | refine qG ?_ | refine qP rfl rfl rfl rfl rfl rfl b131 (h) ?_ | refine zU rfl ?_ | refine qL rfl rfl ?_ | exact zD)
  · have h := rarith_ev 9 a b (by omega) ha hb
    rw [show apF g env 9 v nm [a, b] = arF 9 a b from rfl]
    refine enter3 Tryz.func71 Tryz.ntmps71 rfl rfl fun w0 F0 O => ?_
    repeat' (first | refine zS rfl ?_ | refine qA ?_ | refine qB rfl ?_ | refine qD ?_ | refine qE ?_ | refine qF ?_ | refine qG ?_ | refine qP rfl rfl rfl rfl rfl rfl b131 (h) ?_ | refine zU rfl ?_ | refine qL rfl rfl ?_ | exact zD)
  · have h := rarith_ev 10 a b (by omega) ha hb
    rw [show apF g env 10 v nm [a, b] = arF 10 a b from rfl]
    refine enter3 Tryz.func71 Tryz.ntmps71 rfl rfl fun w0 F0 O => ?_
    repeat' (first | refine zS rfl ?_ | refine qA ?_ | refine qB rfl ?_ | refine qD ?_ | refine qE ?_ | refine qF ?_ | refine qG ?_ | refine qP rfl rfl rfl rfl rfl rfl b131 (h) ?_ | refine zU rfl ?_ | refine qL rfl rfl ?_ | exact zD)
  · have h := rarith_ev 11 a b (by omega) ha hb
    rw [show apF g env 11 v nm [a, b] = arF 11 a b from rfl]
    refine enter3 Tryz.func71 Tryz.ntmps71 rfl rfl fun w0 F0 O => ?_
    repeat' (first | refine zS rfl ?_ | refine qA ?_ | refine qB rfl ?_ | refine qD ?_ | refine qE ?_ | refine qF ?_ | refine qG ?_ | refine qP rfl rfl rfl rfl rfl rfl b131 (h) ?_ | refine zU rfl ?_ | refine qL rfl rfl ?_ | exact zD)
  · have t5 := rnot_ev (eqF a b)
    have t6 := rfromTruth_ev (eqF a b)
    rw [show apF g env 12 v nm [a, b] = vTruth (eqF a b) from rfl]
    refine enter3 Tryz.func71 Tryz.ntmps71 rfl rfl fun w0 F0 O => ?_
    repeat' (first | refine zS rfl ?_ | refine qA ?_ | refine qB rfl ?_ | refine qD ?_ | refine qF ?_ | refine qP rfl rfl rfl rfl rfl rfl b127 (q1) ?_ | refine qP rfl rfl rfl rfl rfl rfl b122 (t6) ?_ | refine zT rfl ?_ | refine zU rfl ?_ | refine qL rfl rfl ?_ | exact zD)
  · have t5 := rnot_ev (eqF a b)
    have t6 := rfromTruth_ev (2 - kn (eqF a b))
    rw [show apF g env 13 v nm [a, b] = vTruth (2 - kn (eqF a b)) from rfl]
    refine enter3 Tryz.func71 Tryz.ntmps71 rfl rfl fun w0 F0 O => ?_
    repeat' (first | refine zS rfl ?_ | refine qA ?_ | refine qB rfl ?_ | refine qD ?_ | refine qF ?_ | refine qP rfl rfl rfl rfl rfl rfl b127 (q1) ?_ | refine qP rfl rfl rfl rfl rfl rfl b123 (t5) ?_ | refine qP rfl rfl rfl rfl rfl rfl b122 (t6) ?_ | refine zT rfl ?_ | refine zU rfl ?_ | refine qL rfl rfl ?_ | exact zD)
  · have t5 := rnot_ev (eqF a b)
    have t6 := rfromTruth_ev (lessF a b)
    rw [show apF g env 14 v nm [a, b] = vTruth (lessF a b) from rfl]
    refine enter3 Tryz.func71 Tryz.ntmps71 rfl rfl fun w0 F0 O => ?_
    repeat' (first | refine zS rfl ?_ | refine qA ?_ | refine qB rfl ?_ | refine qD ?_ | refine qF ?_ | refine qP rfl rfl rfl rfl rfl rfl b128 (l1) ?_ | refine qP rfl rfl rfl rfl rfl rfl b122 (t6) ?_ | refine zT rfl ?_ | refine zU rfl ?_ | refine qL rfl rfl ?_ | exact zD)
  · have t5 := rnot_ev (eqF a b)
    have t6 := rfromTruth_ev (atmF (lessF a b) (eqF a b))
    rw [show apF g env 15 v nm [a, b] = vTruth (atmF (lessF a b) (eqF a b)) from rfl]
    refine enter3 Tryz.func71 Tryz.ntmps71 rfl rfl fun w0 F0 O => ?_
    repeat' (first | refine zS rfl ?_ | refine qA ?_ | refine qB rfl ?_ | refine qD ?_ | refine qF ?_ | refine qP rfl rfl rfl rfl rfl rfl b129 (m1) ?_ | refine qP rfl rfl rfl rfl rfl rfl b122 (t6) ?_ | refine zT rfl ?_ | refine zU rfl ?_ | refine qL rfl rfl ?_ | exact zD)
  · have t5 := rnot_ev (eqF a b)
    have t6 := rfromTruth_ev (lessF b a)
    rw [show apF g env 16 v nm [a, b] = vTruth (lessF b a) from rfl]
    refine enter3 Tryz.func71 Tryz.ntmps71 rfl rfl fun w0 F0 O => ?_
    repeat' (first | refine zS rfl ?_ | refine qA ?_ | refine qB rfl ?_ | refine qD ?_ | refine qF ?_ | refine qP rfl rfl rfl rfl rfl rfl b128 (l2) ?_ | refine qP rfl rfl rfl rfl rfl rfl b122 (t6) ?_ | refine zT rfl ?_ | refine zU rfl ?_ | refine qL rfl rfl ?_ | exact zD)
  · have t5 := rnot_ev (eqF a b)
    have t6 := rfromTruth_ev (atmF (lessF b a) (eqF a b))
    rw [show apF g env 17 v nm [a, b] = vTruth (atmF (lessF b a) (eqF a b)) from rfl]
    refine enter3 Tryz.func71 Tryz.ntmps71 rfl rfl fun w0 F0 O => ?_
    repeat' (first | refine zS rfl ?_ | refine qA ?_ | refine qB rfl ?_ | refine qD ?_ | refine qF ?_ | refine qP rfl rfl rfl rfl rfl rfl b129 (m2) ?_ | refine qP rfl rfl rfl rfl rfl rfl b122 (t6) ?_ | refine zT rfl ?_ | refine zU rfl ?_ | refine qL rfl rfl ?_ | exact zD)
  · have t5 := rand_ev (truthF a) (truthF b)
    have t6 := rfromTruth_ev (min (kn (truthF a)) (kn (truthF b)))
    rw [show apF g env 18 v nm [a, b] = vTruth (min (kn (truthF a)) (kn (truthF b))) from rfl]
    refine enter3 Tryz.func71 Tryz.ntmps71 rfl rfl fun w0 F0 O => ?_
    repeat' (first | refine qR0 (id := 3) [6] (by kernel_rfl) (by kernel_rfl) (by repeat (first | exact trivial | refine ⟨⟨rfl, rfl⟩, ?_⟩ | refine ⟨trivial, ?_⟩)) ?_ | refine rgF (id := 3) (i := 0) 6 (by kernel_rfl) rfl ?_ | refine rgStore (id := 3) (i := 6) rfl rfl rfl rfl rfl rfl rfl rfl rfl rfl rfl (by repeat (first | exact trivial | refine ⟨⟨rfl, rfl⟩, ?_⟩ | refine ⟨trivial, ?_⟩)) ?_ | refine rgN ?_ | refine zS rfl ?_ | refine qA ?_ | refine qB rfl ?_ | refine qD ?_ | refine qF ?_ | refine qP rfl rfl rfl rfl rfl rfl b18 (t1) ?_ | refine qP rfl rfl rfl rfl rfl rfl b18 (t2) ?_ | refine qP rfl rfl rfl rfl rfl rfl b125 (t5) ?_ | refine qP rfl rfl rfl rfl rfl rfl b122 (t6) ?_ | refine zT rfl ?_ | refine qL rfl rfl ?_ | exact zD)
  · have t5 := ror_ev (truthF a) (truthF b)
    have t6 := rfromTruth_ev (max (kn (truthF a)) (kn (truthF b)))
    rw [show apF g env 19 v nm [a, b] = vTruth (max (kn (truthF a)) (kn (truthF b))) from rfl]
    refine enter3 Tryz.func71 Tryz.ntmps71 rfl rfl fun w0 F0 O => ?_
    repeat' (first | refine qR0 (id := 5) [6] (by kernel_rfl) (by kernel_rfl) (by repeat (first | exact trivial | refine ⟨⟨rfl, rfl⟩, ?_⟩ | refine ⟨trivial, ?_⟩)) ?_ | refine rgF (id := 5) (i := 0) 6 (by kernel_rfl) rfl ?_ | refine rgStore (id := 5) (i := 6) rfl rfl rfl rfl rfl rfl rfl rfl rfl rfl rfl (by repeat (first | exact trivial | refine ⟨⟨rfl, rfl⟩, ?_⟩ | refine ⟨trivial, ?_⟩)) ?_ | refine rgN ?_ | refine zS rfl ?_ | refine qA ?_ | refine qB rfl ?_ | refine qD ?_ | refine qF ?_ | refine qP rfl rfl rfl rfl rfl rfl b18 (t1) ?_ | refine qP rfl rfl rfl rfl rfl rfl b18 (t2) ?_ | refine qP rfl rfl rfl rfl rfl rfl b126 (t5) ?_ | refine qP rfl rfl rfl rfl rfl rfl b122 (t6) ?_ | refine zT rfl ?_ | refine zU rfl ?_ | refine qL rfl rfl ?_ | exact zD)
  · rw [show apF g env 20 v nm [a, b] = vTruth (bif b.k != 8 then 1 else inL a b.l 0) from rfl]
    refine enter3 Tryz.func71 Tryz.ntmps71 rfl rfl fun w0 F0 O => ?_
    repeat' (first | refine zS rfl ?_ | refine qA ?_ | refine qB rfl ?_ | refine qD ?_ | refine qF ?_ | refine qP rfl rfl rfl rfl rfl rfl b130 (i1) ?_ | refine zT rfl ?_ | refine zU rfl ?_ | refine qL rfl rfl ?_ | exact zD)
end Go.Proofs.YthieohigmpfknaaGreatDoor

/- The reference's functions and its evaluation; Eval and Test of both texts. Conditions: see okE. -/
namespace Go.Proofs.YthieohigmpfknaaGreatDoor
open Go Go.Abs Go.Val Go.RowKit
attribute [local irreducible] go SGo HasBody Ev ExtEv EvO EvS binOp RGo


theorem redge_ev22 (g : Gr) (nm : ByteArray) (a : V) (hn : eqS nm nmType = true ∨ eqS nm nmStart = true ∨ eqS nm nmEnd = true) : Ev E 114 [encGr g, .str nm, enc a] (.d (enc (bif edgB g a then ofE nm (edgF g a) else vNull))) := by
  have h := redge_of g a.n
  have i1 := rstr_ev ((findE g.edges a.n).getD ed0).ty
  have i2 := rnode_ev ((findE g.edges a.n).getD ed0).src
  have i3 := rnode_ev ((findE g.edges a.n).getD ed0).dst
  unfold edgB edgF
  cases k6 : a.k == 6 with
  | false =>
    have k6' : (a.k != 6) = true := by rw [bne, k6]; rfl
    rw [Bool.false_and, cond_false]
    refine enter3 Tryz.func114 Tryz.ntmps114 rfl rfl fun w0 F0 O => ?_
    repeat' (first | refine zS rfl ?_ | refine qA ?_ | refine qB rfl ?_ | refine qD ?_ | refine qP rfl rfl rfl rfl rfl rfl b173 (h) ?_ | refine qP rfl rfl rfl rfl rfl rfl b36 (rnull_ev) ?_ | refine zT rfl ?_ | refine qL rfl rfl ?_ | refine zX rfl rfl rfl rfl ?_ | exact zD)
  | true =>
    have k6' : (a.k != 6) = false := by rw [bne, k6]; rfl
    rw [Bool.true_and, cond_true]
    generalize (findE g.edges a.n).getD ed0 = x at *
    cases hs : (findE g.edges a.n).isSome with
    | false =>
      rw [hs] at h
      rw [cond_false]
      refine enter3 Tryz.func114 Tryz.ntmps114 rfl rfl fun w0 F0 O => ?_
      repeat' (first | refine zS rfl ?_ | refine qA ?_ | refine qB rfl ?_ | refine qD ?_ | refine qP rfl rfl rfl rfl rfl rfl b173 (h) ?_ | refine qP rfl rfl rfl rfl rfl rfl b36 (rnull_ev) ?_ | refine zT rfl ?_ | refine qL rfl rfl ?_ | refine zW rfl rfl rfl rfl ?_ | exact zD)
    | true =>
      rw [hs] at h
      rw [cond_true]
      unfold ofE
      have n1 : eqS nm nmStart = true → eqS nm nmType = false := fun h => by
        unfold eqS nmStart nmType at *
        rw [show nm.toList = _ from beq_iff_eq.1 h]
        decide +kernel
      have n2 : eqS nm nmEnd = true → eqS nm nmType = false ∧ eqS nm nmStart = false := fun h => by
        unfold eqS nmEnd nmType nmStart at *
        rw [show nm.toList = _ from beq_iff_eq.1 h]
        decide +kernel
      rcases hn with hn | hn | hn
      · have c1 : (nm.toList == (⟨#[115, 116, 97, 114, 116]⟩ : ByteArray).toList) = false := by
          cases hc : eqS nm nmStart with
          | false => exact hc
          | true => rw [n1 hc] at hn; cases hn
        have c2 : (nm.toList == (⟨#[101, 110, 100]⟩ : ByteArray).toList) = false := by
          cases hc : eqS nm nmEnd with
          | false => exact hc
          | true => rw [(n2 hc).1] at hn; cases hn
        rw [hn, cond_true]
        refine enter3 Tryz.func114 Tryz.ntmps114 rfl rfl fun w0 F0 O => ?_
        repeat' (first | refine zS rfl ?_ | refine qA ?_ | refine qB rfl ?_ | refine qD ?_ | refine qE ?_ | refine qP rfl rfl rfl rfl rfl rfl b173 (h) ?_ | refine qP rfl rfl rfl rfl rfl rfl b112 (i1) ?_ | refine zU rfl ?_ | refine qL rfl rfl ?_ | refine zW rfl rfl rfl rfl ?_ | exact zD)
      · have c1 : (nm.toList == (⟨#[115, 116, 97, 114, 116]⟩ : ByteArray).toList) = true := hn
        rw [n1 hn, hn, cond_false, cond_true]
        refine enter3 Tryz.func114 Tryz.ntmps114 rfl rfl fun w0 F0 O => ?_
        repeat' (first | refine zS rfl ?_ | refine qA ?_ | refine qB rfl ?_ | refine qD ?_ | refine qE ?_ | refine qP rfl rfl rfl rfl rfl rfl b173 (h) ?_ | refine qP rfl rfl rfl rfl rfl rfl b174 (i2) ?_ | refine zT rfl ?_ | refine zU rfl ?_ | refine qL rfl rfl ?_ | refine zW rfl rfl rfl rfl ?_ | exact zD)
      · have c1 : (nm.toList == (⟨#[115, 116, 97, 114, 116]⟩ : ByteArray).toList) = false := (n2 hn).2
        have c2 : (nm.toList == (⟨#[101, 110, 100]⟩ : ByteArray).toList) = true := hn
        rw [(n2 hn).1, (n2 hn).2, cond_false, cond_false]
        refine enter3 Tryz.func114 Tryz.ntmps114 rfl rfl fun w0 F0 O => ?_
        repeat' (first | refine zS rfl ?_ | refine qA ?_ | refine qB rfl ?_ | refine qD ?_ | refine qE ?_ | refine qP rfl rfl rfl rfl rfl rfl b173 (h) ?_ | refine qP rfl rfl rfl rfl rfl rfl b174 (i3) ?_ | refine zT rfl ?_ | refine zU rfl ?_ | refine qL rfl rfl ?_ | refine zW rfl rfl rfl rfl ?_ | exact zD)
set_option maxHeartbeats 4000000 in
theorem rlabels_ev (g : Gr) (a : V) (hg : narG g) : Ev E 115 [encGr g, enc a] (.d (enc (bif nodB g a then vList ((nodF g a).labels.map vStr) else vNull))) := by
  have h := rnode_of g a.n
  have hnn := (narN_nod hg a).1
  unfold nodB nodF at *
  cases k5 : a.k == 5 with
  | false =>
    have k5' : (a.k != 5) = true := by rw [bne, k5]; rfl
    rw [Bool.false_and, cond_false]
    refine enter2 Tryz.func115 Tryz.ntmps115 rfl rfl fun w0 F0 O => ?_
    repeat' (first | refine zS rfl ?_ | refine qA ?_ | refine qB rfl ?_ | refine qD ?_ | refine qP rfl rfl rfl rfl rfl rfl b119 (h) ?_ | refine qP rfl rfl rfl rfl rfl rfl b36 (rnull_ev) ?_ | refine zT rfl ?_ | refine qL rfl rfl ?_ | refine zX rfl rfl rfl rfl ?_ | exact zD)
  | true =>
    have k5' : (a.k != 5) = false := by rw [bne, k5]; rfl
    rw [k5] at hnn
    rw [Bool.true_and, cond_true]
    rw [cond_true] at hnn
    cases hs : (findN g.nodes a.n).isSome with
    | false =>
      rw [hs] at h
      rw [cond_false]
      refine enter2 Tryz.func115 Tryz.ntmps115 rfl rfl fun w0 F0 O => ?_
      repeat' (first | refine zS rfl ?_ | refine qA ?_ | refine qB rfl ?_ | refine qD ?_ | refine qP rfl rfl rfl rfl rfl rfl b119 (h) ?_ | refine qP rfl rfl rfl rfl rfl rfl b36 (rnull_ev) ?_ | refine zT rfl ?_ | refine qL rfl rfl ?_ | refine zW rfl rfl rfl rfl ?_ | exact zD)
    | true =>
      rw [hs] at h
      rw [cond_true]
      generalize (findN g.nodes a.n).getD nd0 = nd at h hnn ⊢
      have hL := rlist_ev2 (nd.labels.map vStr) (nar_list (by simpa using hnn) fun x hx => by
        obtain ⟨s, -, rfl⟩ := List.mem_map.1 hx
        rfl)
      have hll0 : (nd.labels.map D.str).length = nd.labels.length := by simp
      refine enter2 Tryz.func115 Tryz.ntmps115 rfl rfl fun w0 F0 O => ?_
      repeat' (first | refine zS rfl ?_ | refine qA ?_ | refine qB rfl ?_ | refine qD ?_ | refine qE ?_ | refine qF ?_ | refine qP rfl rfl rfl rfl rfl rfl b119 (h) ?_ | refine zU rfl ?_ | refine zW rfl rfl rfl rfl ?_)
      refine go_loop_ (α := Fin (nd.labels.length + 1)) (fun p => ⟨[(4, .ptr 0 0), (5, .ptr 1 0), (7, rowK 2 (encL ((nd.labels.take p.val).map vStr))), (8, .d (.int p.val))], [zVal, .var 87 (.w (.d (encNd nd)))] ++ rowO 28 5 (encL ((nd.labels.take p.val).map vStr))⟩) (fun p => nd.labels.length - p.val) ⟨0, by omega⟩ ((zren [2, 3])) ?_
      rintro ⟨i, hi⟩
      dsimp only
      rcases Nat.lt_or_ge i nd.labels.length with hlt | hge
      · have g1 : decide ((i : Int) < ((nd.labels.map D.str).length : Int)) = true := by rw [hll0]; simpa using hlt
        have hy0 := List.getElem?_eq_getElem hlt
        have htk : nd.labels.take (i + 1) = nd.labels.take i ++ [nd.labels[i]] := by rw [List.take_succ_eq_append_getElem hlt]
        generalize nd.labels[i] = x at hy0 htk
        have hx := map_at (f := D.str) hy0
        have s1 := rstr_ev x
        have hta : encL ((nd.labels.take (i + 1)).map vStr) = encL ((nd.labels.take i).map vStr) ++ [enc (vStr x)] := by rw [htk, List.map_append, List.map_cons, List.map_nil, encL_app]
        have hll : (encL ((nd.labels.take i).map vStr)).length ≤ i := by rw [encL_len]; simp; omega
        match ho' : encL ((nd.labels.take i).map vStr), hll with
        | [], hll =>
          dsimp only [rowK, rowO, List.append, HAppend.hAppend, Append.append]
          repeat' (first | refine zS rfl ?_ | refine qA ?_ | refine qB rfl ?_ | refine qD ?_ | refine qE ?_ | refine qF ?_ | refine qG ?_ | refine qI (.str x) rfl (guardX_ok rfl) rfl rfl rfl rfl rfl rfl (by first | omega | decide) hx ?_ | refine qP rfl rfl rfl rfl rfl rfl b112 (s1) ?_ | (refine qS rfl ⟨by simp, enc_one _, by (show (0 + 1) * 64 ≤ 140737488355328; omega), by (show 0 + 1 ≤ 9223372036854775807; omega)⟩ ?_) | refine zT rfl ?_)
          refine go_stop ?_
          refine ⟨⟨i + 1, by omega⟩, by dsimp only; omega, ?_⟩
          dsimp only
          rw [hta, ho']
          exact (zren [0, 1, 2])
        | b :: q, hll =>
          dsimp only [rowK, rowO, List.append, HAppend.hAppend, Append.append]
          repeat' (first | refine zS rfl ?_ | refine qA ?_ | refine qB rfl ?_ | refine qD ?_ | refine qE ?_ | refine qF ?_ | refine qG ?_ | refine qI (.str x) rfl (guardX_ok rfl) rfl rfl rfl rfl rfl rfl (by first | omega | decide) hx ?_ | refine qP rfl rfl rfl rfl rfl rfl b112 (s1) ?_ | (refine qS rfl ⟨by simp, enc_one _, by (show ((b :: q).length + 1) * 64 ≤ 140737488355328; omega), by (show (b :: q).length + 1 ≤ 9223372036854775807; omega)⟩ ?_) | refine zT rfl ?_)
          refine go_stop ?_
          refine ⟨⟨i + 1, by omega⟩, by dsimp only; omega, ?_⟩
          dsimp only
          rw [hta, ho']
          exact (zren [0, 1, 3])
      · have g1 : decide ((i : Int) < ((nd.labels.map D.str).length : Int)) = false := by rw [hll0]; simp; omega
        rw [List.take_of_length_le hge]
        match ho' : encL (nd.labels.map vStr), hL with
        | [], hL =>
          dsimp only [rowK, rowO, List.append, HAppend.hAppend, Append.append]
          repeat' (first | refine zS rfl ?_ | refine qA ?_ | refine qB rfl ?_ | refine qD ?_ | refine qH rfl ?_ | refine qP rfl rfl rfl rfl rfl rfl b68 (hL) ?_ | refine zU rfl ?_ | refine qL rfl rfl ?_ | exact zD)
        | b :: q, hL =>
          dsimp only [rowK, rowO, List.append, HAppend.hAppend, Append.append]
          refine qA ?_
          refine go_frz 2 rfl ?_
          repeat' (first | refine zS rfl ?_ | refine qA ?_ | refine qB rfl ?_ | refine qD ?_ | refine qH rfl ?_ | refine qP rfl rfl rfl rfl rfl rfl b68 (hL) ?_ | refine zU rfl ?_ | refine qL rfl rfl ?_ | exact zD)
/-- Functions of a path or a list. -/
def partF (nm : ByteArray) (a : V) : V :=
  bif a.k == 8 && !a.l.isEmpty && eqS nm nmFirst then a.l.headD vNull else
  bif a.k == 8 && !a.l.isEmpty && eqS nm nmLast then a.l.getLastD vNull else
  bif a.k == 7 && (eqS nm nmLength || (eqS nm nmNodes || eqS nm nmEdges)) then pthF nm a.l else vNull
/-- What is still to be taken from place i on. -/
def remP (b : Bool) (l : List V) (i : Nat) : List V := evens (l.drop (bif (i % 2 == 0) == b then i else i + 1))
structure SRp (b : Bool) (l : List V) where
  i : Nat
  out : List V
  hi : i ≤ l.length
  ho : out.length ≤ i
  ok : remP b l 0 = out ++ remP b l i
theorem remP_in {b : Bool} {l : List V} {i : Nat} {x : V} (h : l[i]? = some x) (hc : ((i % 2 == 0) == b) = true) : remP b l i = x :: remP b l (i + 1) := by
  unfold remP
  have h2 : (((i + 1) % 2 == 0) == b) = false := by
    rcases Nat.mod_two_eq_zero_or_one i with hm | hm
    · rw [hm] at hc; rw [show (i + 1) % 2 = 1 by omega]; cases b <;> simp_all
    · rw [hm] at hc; rw [show (i + 1) % 2 = 0 by omega]; cases b <;> simp_all
  rw [hc, h2, cond_true, cond_false]
  exact evens_at h
theorem remP_out {b : Bool} {l : List V} {i : Nat} (hc : ((i % 2 == 0) == b) = false) : remP b l i = remP b l (i + 1) := by
  unfold remP
  have h2 : (((i + 1) % 2 == 0) == b) = true := by
    rcases Nat.mod_two_eq_zero_or_one i with hm | hm
    · rw [hm] at hc; rw [show (i + 1) % 2 = 1 by omega]; cases b <;> simp_all
    · rw [hm] at hc; rw [show (i + 1) % 2 = 0 by omega]; cases b <;> simp_all
  rw [hc, h2]
  rfl
theorem tmod2 (i : Nat) : (Int.tmod (i : Int) 2 == 0) = (i % 2 == 0) := by
  rw [Bool.eq_iff_iff, beq_iff_eq, beq_iff_eq, Int.tmod_eq_emod_of_nonneg (by omega)]
  omega
set_option maxHeartbeats 8000000 in
theorem rparts_ev (nm : ByteArray) (a : V) (hna : nar a = true) : Ev E 116 [.str nm, enc a] (.d (enc (partF nm a))) := by
  obtain ⟨hal, hnl⟩ := nar_l hna
  have hkl : (kids a).length = a.l.length := kids_len a
  unfold partF
  have dis : ∀ s t : ByteArray, (s.toList == t.toList) = false → eqS nm s = true → eqS nm t = false := fun s t hst h => by
    unfold eqS at *
    rw [show nm.toList = s.toList from beq_iff_eq.1 h]
    exact hst
  cases k8 : a.k == 8 with
  | true =>
    have k7 : (a.k == 7) = false := by simp at k8 ⊢; omega
    have k7' : (a.k != 7) = true := by rw [bne, k7]; rfl
    rw [k7]
    simp only [Bool.true_and, Bool.false_and, cond_false]
    cases he : a.l with
    | nil =>
      have hk0 : kids a = [] := by rw [kids_eq, he]; rfl
      have g0 : decide (((kids a).length : Int) > 0) = false := by rw [hk0]; rfl
      simp only [List.isEmpty_nil, Bool.not_true, Bool.false_and, cond_false]
      refine enter2 Tryz.func116 Tryz.ntmps116 rfl rfl fun w0 F0 O => ?_
      repeat' (first | refine zS rfl ?_ | refine qA ?_ | refine qB rfl ?_ | refine qD ?_ | refine qE ?_ | refine qP rfl rfl rfl rfl rfl rfl b36 (rnull_ev) ?_ | refine zT rfl ?_ | refine zU rfl ?_ | refine qL rfl rfl ?_ | refine zX rfl rfl rfl rfl ?_ | refine zW rfl rfl rfl rfl ?_ | exact zD)
    | cons b q =>
      have hpos : 1 ≤ (kids a).length := by rw [hkl, he]; simp
      have g0 : decide (((kids a).length : Int) > 0) = true := by simp; omega
      simp only [List.isEmpty_cons, Bool.not_false, Bool.true_and]
      cases cf : eqS nm nmFirst with
      | true =>
        have cf' : (nm.toList == (⟨#[102, 105, 114, 115, 116]⟩ : ByteArray).toList) = true := cf
        have hb0 : (kids a)[(0 : Int).toNat]? = some (enc b) := kids_get (by rw [he]; rfl)
        refine enter2 Tryz.func116 Tryz.ntmps116 rfl rfl fun w0 F0 O => ?_
        repeat' (first | refine zS rfl ?_ | refine qA ?_ | refine qB rfl ?_ | refine qD ?_ | refine qI (enc b) rfl (guardX_ok rfl) rfl rfl rfl rfl rfl rfl (by first | omega | decide) hb0 ?_ | refine zT rfl ?_ | refine qL rfl rfl ?_ | refine zX rfl rfl rfl rfl ?_ | exact zD)
      | false =>
        have cf' : (nm.toList == (⟨#[102, 105, 114, 115, 116]⟩ : ByteArray).toList) = false := cf
        cases cl : eqS nm nmLast with
        | true =>
          have cl' : (nm.toList == (⟨#[108, 97, 115, 116]⟩ : ByteArray).toList) = true := cl
          have hbl : (kids a)[((((kids a).length : Int) - 1)).toNat]? = some (enc ((b :: q).getLastD vNull)) := by
            refine kids_get ?_
            rw [hkl, he, show (((b :: q).length : Int) - 1).toNat = (b :: q).length - 1 by simp, List.getLastD_cons]
            rw [← List.getLast?_eq_getElem?]
            simp [List.getLast?_cons]
          refine enter2 Tryz.func116 Tryz.ntmps116 rfl rfl fun w0 F0 O => ?_
          repeat' (first | refine zS rfl ?_ | refine qA ?_ | refine qB rfl ?_ | refine qD ?_ | refine qE ?_ | refine qI (enc ((b :: q).getLastD vNull)) rfl (guardX_ok rfl) rfl rfl rfl rfl rfl rfl (by first | omega | decide) hbl ?_ | refine zT rfl ?_ | refine zU rfl ?_ | refine qL rfl rfl ?_ | refine zX rfl rfl rfl rfl ?_ | exact zD)
        | false =>
          have cl' : (nm.toList == (⟨#[108, 97, 115, 116]⟩ : ByteArray).toList) = false := cl
          refine enter2 Tryz.func116 Tryz.ntmps116 rfl rfl fun w0 F0 O => ?_
          repeat' (first | refine zS rfl ?_ | refine qA ?_ | refine qB rfl ?_ | refine qD ?_ | refine qE ?_ | refine qP rfl rfl rfl rfl rfl rfl b36 (rnull_ev) ?_ | refine zT rfl ?_ | refine zU rfl ?_ | refine qL rfl rfl ?_ | refine zX rfl rfl rfl rfl ?_ | exact zD)
  | false =>
    simp only [Bool.false_and, cond_false]
    cases k7 : a.k == 7 with
    | false =>
      have k7' : (a.k != 7) = true := by rw [bne, k7]; rfl
      rw [Bool.false_and, cond_false]
      refine enter2 Tryz.func116 Tryz.ntmps116 rfl rfl fun w0 F0 O => ?_
      repeat' (first | refine zS rfl ?_ | refine qA ?_ | refine qB rfl ?_ | refine qD ?_ | refine qE ?_ | refine qP rfl rfl rfl rfl rfl rfl b36 (rnull_ev) ?_ | refine zT rfl ?_ | refine zU rfl ?_ | refine qL rfl rfl ?_ | refine zX rfl rfl rfl rfl ?_ | refine zW rfl rfl rfl rfl ?_ | exact zD)
    | true =>
      have k7' : (a.k != 7) = false := by rw [bne, k7]; rfl
      rw [Bool.true_and]
      cases cl : eqS nm nmLength with
      | true =>
        have cl' : (nm.toList == (⟨#[108, 101, 110, 103, 116, 104]⟩ : ByteArray).toList) = true := cl
        rw [Bool.true_or, cond_true]
        unfold pthF
        rw [cl, cond_true]
        have i1 := rint_ev (Int.tdiv ((kids a).length : Int) 2)
        have e : ((a.l.length : Int) / 2) = Int.tdiv ((kids a).length : Int) 2 := by rw [hkl, Int.tdiv_eq_ediv_of_nonneg (by omega)]
        have w1 : (2 : Int) ≠ 0 ∧ inR .i64 (Int.tdiv ((kids a).length : Int) 2) := by rw [← e]; refine ⟨by omega, ?_⟩; simp only [inR]; omega
        rw [e]
        have n1 : (!(nm.toList == (⟨#[108, 101, 110, 103, 116, 104]⟩ : ByteArray).toList)) = false := by rw [cl']; rfl
        refine enter2 Tryz.func116 Tryz.ntmps116 rfl rfl fun w0 F0 O => ?_
        repeat' (first | refine zS rfl ?_ | refine qA ?_ | refine qB rfl ?_ | refine qD ?_ | refine qE ?_ | refine qP rfl rfl rfl rfl rfl rfl b110 (i1) ?_ | refine zT rfl ?_ | refine zU rfl ?_ | refine qL rfl rfl ?_ | refine zW rfl rfl rfl rfl ?_ | exact zD)
      | false =>
        have cl' : (nm.toList == (⟨#[108, 101, 110, 103, 116, 104]⟩ : ByteArray).toList) = false := cl
        have n1 : (!(nm.toList == (⟨#[108, 101, 110, 103, 116, 104]⟩ : ByteArray).toList)) = true := by rw [cl']; rfl
        cases cn : eqS nm nmNodes || eqS nm nmEdges with
        | false =>
          rw [Bool.or_eq_false_iff] at cn
          have n2 : (!(nm.toList == (⟨#[110, 111, 100, 101, 115]⟩ : ByteArray).toList)) = true := by rw [show (nm.toList == (⟨#[110, 111, 100, 101, 115]⟩ : ByteArray).toList) = false from cn.1]; rfl
          have n3 : (!(nm.toList == (⟨#[101, 100, 103, 101, 115]⟩ : ByteArray).toList)) = true := by rw [show (nm.toList == (⟨#[101, 100, 103, 101, 115]⟩ : ByteArray).toList) = false from cn.2]; rfl
          simp only [Bool.or_self, cond_false]
          refine enter2 Tryz.func116 Tryz.ntmps116 rfl rfl fun w0 F0 O => ?_
          repeat' (first | refine zS rfl ?_ | refine qA ?_ | refine qB rfl ?_ | refine qD ?_ | refine qE ?_ | refine qP rfl rfl rfl rfl rfl rfl b36 (rnull_ev) ?_ | refine zT rfl ?_ | refine zU rfl ?_ | refine qL rfl rfl ?_ | refine zX rfl rfl rfl rfl ?_ | refine zW rfl rfl rfl rfl ?_ | exact zD)
        | true =>
          rw [Bool.or_true, cond_true]
          have hst : pthF nm a.l = vList (remP (eqS nm nmNodes) a.l 0) := by
            unfold pthF remP
            rw [cl, cond_false]
            congr 2
            cases cd : eqS nm nmNodes with
            | true => rw [dis nmNodes nmEdges (by decide +kernel) cd]; rfl
            | false => rw [cd, Bool.false_or] at cn; rw [cn]; rfl
          rw [hst]
          have hmem : ∀ x ∈ remP (eqS nm nmNodes) a.l 0, nar x = true := fun x hx => narL_mem hnl x (List.mem_of_mem_drop (evens_mem hx))
          have hL := rlist_ev2 (remP (eqS nm nmNodes) a.l 0) (nar_list (by have := evens_len (a.l.drop (bif (0 % 2 == 0) == eqS nm nmNodes then 0 else 0 + 1)); simp only [remP]; rw [List.length_drop] at this; omega) hmem)
          cases cd : eqS nm nmNodes
          all_goals
            have cd' := cd
            unfold eqS nmNodes at cd'
            have n2 : (!(nm.toList == (⟨#[110, 111, 100, 101, 115]⟩ : ByteArray).toList)) = !(eqS nm nmNodes) := rfl
            have n3 : (!(nm.toList == (⟨#[101, 100, 103, 101, 115]⟩ : ByteArray).toList)) = !(eqS nm nmEdges) := rfl
            rw [cd] at n2 hL cn
          · rw [Bool.false_or] at cn
            rw [cn] at n3
            simp only [Bool.not_false, Bool.not_true] at n2 n3
            refine enter2 Tryz.func116 Tryz.ntmps116 rfl rfl fun w0 F0 O => ?_
            repeat' (first | refine zS rfl ?_ | refine qA ?_ | refine qB rfl ?_ | refine qD ?_ | refine qE ?_ | refine qF ?_ | refine zU rfl ?_ | refine zX rfl rfl rfl rfl ?_ | refine zW rfl rfl rfl rfl ?_)
            refine go_loop_ (α := SRp false a.l) (fun p => ⟨[(0, .d (.str nm)), (3, .ptr 0 0), (4, .ptr 1 0), (5, rowK 2 (encL p.out)), (6, .d (.int p.i))], [.var 28 (.w (.d (enc a))), zVal] ++ rowO 28 5 (encL p.out)⟩) (fun p => a.l.length - p.i) ⟨0, [], by omega, by simp, rfl⟩ ((zle 2)) ?_
            rintro ⟨i, out, hi, ho, ok⟩
            dsimp only
            rcases Nat.lt_or_ge i a.l.length with hlt | hge
            · have g1 : decide ((i : Int) < ((kids a).length : Int)) = true := by rw [hkl]; simpa using hlt
              have hx0 := List.getElem?_eq_getElem hlt
              generalize a.l[i] = x at hx0
              have hx : (kids a)[(i : Int).toNat]? = some (enc x) := by rw [Int.toNat_natCast]; exact kids_get hx0
              have hta := encL_app out x
              have hll : (encL out).length ≤ i := by rw [encL_len]; omega
              have hcc : ((Int.tmod (i : Int) 2 == 0) == (nm.toList == (⟨#[110, 111, 100, 101, 115]⟩ : ByteArray).toList)) = ((i % 2 == 0) == false) := by rw [cd', tmod2]
              have hrm : (2 : Int) ≠ 0 ∧ inR .i64 (Int.tmod (i : Int) 2) := by
                refine ⟨by omega, ?_⟩
                rw [Int.tmod_eq_emod_of_nonneg (by omega)]
                simp only [inR]
                omega
              cases hc : (i % 2 == 0) == false with
              | false =>
                rw [hc] at hcc
                rw [remP_out hc] at ok
                match ho' : encL out, hll with
                | [], hll =>
                  dsimp only [rowK, rowO, List.append, HAppend.hAppend, Append.append]
                  repeat' (first | refine zS rfl ?_ | refine qA ?_ | refine qB rfl ?_ | refine qD ?_ | refine qE ?_ | refine qF ?_ | refine qG ?_ | refine zT rfl ?_ | refine zU rfl ?_)
                  refine go_stop ?_
                  refine ⟨⟨i + 1, out, by omega, by omega, ok⟩, by dsimp only; omega, ?_⟩
                  dsimp only
                  rw [ho']
                  exact (zren [0, 1])
                | b :: q, hll =>
                  dsimp only [rowK, rowO, List.append, HAppend.hAppend, Append.append]
                  repeat' (first | refine zS rfl ?_ | refine qA ?_ | refine qB rfl ?_ | refine qD ?_ | refine qE ?_ | refine qF ?_ | refine qG ?_ | refine zT rfl ?_ | refine zU rfl ?_)
                  refine go_stop ?_
                  refine ⟨⟨i + 1, out, by omega, by omega, ok⟩, by dsimp only; omega, ?_⟩
                  dsimp only
                  rw [ho']
                  exact (zren [0, 1, 2])
              | true =>
                rw [hc] at hcc
                rw [remP_in hx0 hc] at ok
                match ho' : encL out, hll with
                | [], hll =>
                  dsimp only [rowK, rowO, List.append, HAppend.hAppend, Append.append]
                  repeat' (first | refine zS rfl ?_ | refine qA ?_ | refine qB rfl ?_ | refine qD ?_ | refine qE ?_ | refine qF ?_ | refine qG ?_ | refine qI (enc x) rfl (guardX_ok rfl) rfl rfl rfl rfl rfl rfl (by first | omega | decide) hx ?_ | (refine qS rfl ⟨by simp, enc_one _, by (show (0 + 1) * 64 ≤ 140737488355328; omega), by (show 0 + 1 ≤ 9223372036854775807; omega)⟩ ?_) | refine zT rfl ?_)
                  refine go_stop ?_
                  refine ⟨⟨i + 1, out ++ [x], by omega, by simp; omega, by rw [ok]; simp⟩, by dsimp only; omega, ?_⟩
                  dsimp only
                  rw [hta, ho']
                  exact (zren [0, 1, 2])
                | b :: q, hll =>
                  dsimp only [rowK, rowO, List.append, HAppend.hAppend, Append.append]
                  repeat' (first | refine zS rfl ?_ | refine qA ?_ | refine qB rfl ?_ | refine qD ?_ | refine qE ?_ | refine qF ?_ | refine qG ?_ | refine qI (enc x) rfl (guardX_ok rfl) rfl rfl rfl rfl rfl rfl (by first | omega | decide) hx ?_ | (refine qS rfl ⟨by simp, enc_one _, by (show ((b :: q).length + 1) * 64 ≤ 140737488355328; omega), by (show (b :: q).length + 1 ≤ 9223372036854775807; omega)⟩ ?_) | refine zT rfl ?_)
                  refine go_stop ?_
                  refine ⟨⟨i + 1, out ++ [x], by omega, by simp; omega, by rw [ok]; simp⟩, by dsimp only; omega, ?_⟩
                  dsimp only
                  rw [hta, ho']
                  exact (zren [0, 1, 3])
            · have g1 : decide ((i : Int) < ((kids a).length : Int)) = false := by rw [hkl]; simp; omega
              have ok' : remP false a.l 0 = out := by
                rw [ok]
                have : remP false a.l i = [] := by
                  unfold remP
                  rw [List.drop_eq_nil_of_le (by cases (i % 2 == 0) == false <;> simp <;> omega)]
                  rfl
                rw [this, List.append_nil]
              rw [ok'] at hL ⊢
              match ho' : encL out, hL with
              | [], hL =>
                dsimp only [rowK, rowO, List.append, HAppend.hAppend, Append.append]
                repeat' (first | refine zS rfl ?_ | refine qA ?_ | refine qB rfl ?_ | refine qD ?_ | refine qH rfl ?_ | refine qP rfl rfl rfl rfl rfl rfl b68 (hL) ?_ | refine zU rfl ?_ | refine qL rfl rfl ?_ | exact zD)
              | b :: q, hL =>
                dsimp only [rowK, rowO, List.append, HAppend.hAppend, Append.append]
                repeat' (first | refine zS rfl ?_ | refine qA ?_ | refine qB rfl ?_ | refine qD ?_ | refine qH rfl ?_ | refine zU rfl ?_)
                refine go_frzS 2 rfl ?_
                repeat' (first | refine zS rfl ?_ | refine qD ?_ | refine qP rfl rfl rfl rfl rfl rfl b68 (hL) ?_ | refine qL rfl rfl ?_ | exact zD)
          · simp only [Bool.not_true] at n2
            refine enter2 Tryz.func116 Tryz.ntmps116 rfl rfl fun w0 F0 O => ?_
            repeat' (first | refine zS rfl ?_ | refine qA ?_ | refine qB rfl ?_ | refine qD ?_ | refine qE ?_ | refine qF ?_ | refine zU rfl ?_ | refine zX rfl rfl rfl rfl ?_ | refine zW rfl rfl rfl rfl ?_)
            refine go_loop_ (α := SRp true a.l) (fun p => ⟨[(0, .d (.str nm)), (3, .ptr 0 0), (4, .ptr 1 0), (5, rowK 2 (encL p.out)), (6, .d (.int p.i))], [.var 28 (.w (.d (enc a))), zVal] ++ rowO 28 5 (encL p.out)⟩) (fun p => a.l.length - p.i) ⟨0, [], by omega, by simp, rfl⟩ ((zle 2)) ?_
            rintro ⟨i, out, hi, ho, ok⟩
            dsimp only
            rcases Nat.lt_or_ge i a.l.length with hlt | hge
            · have g1 : decide ((i : Int) < ((kids a).length : Int)) = true := by rw [hkl]; simpa using hlt
              have hx0 := List.getElem?_eq_getElem hlt
              generalize a.l[i] = x at hx0
              have hx : (kids a)[(i : Int).toNat]? = some (enc x) := by rw [Int.toNat_natCast]; exact kids_get hx0
              have hta := encL_app out x
              have hll : (encL out).length ≤ i := by rw [encL_len]; omega
              have hcc : ((Int.tmod (i : Int) 2 == 0) == (nm.toList == (⟨#[110, 111, 100, 101, 115]⟩ : ByteArray).toList)) = ((i % 2 == 0) == true) := by rw [cd', tmod2]
              have hrm : (2 : Int) ≠ 0 ∧ inR .i64 (Int.tmod (i : Int) 2) := by
                refine ⟨by omega, ?_⟩
                rw [Int.tmod_eq_emod_of_nonneg (by omega)]
                simp only [inR]
                omega
              cases hc : (i % 2 == 0) == true with
              | false =>
                rw [hc] at hcc
                rw [remP_out hc] at ok
                match ho' : encL out, hll with
                | [], hll =>
                  dsimp only [rowK, rowO, List.append, HAppend.hAppend, Append.append]
                  repeat' (first | refine zS rfl ?_ | refine qA ?_ | refine qB rfl ?_ | refine qD ?_ | refine qE ?_ | refine qF ?_ | refine qG ?_ | refine zT rfl ?_ | refine zU rfl ?_)
                  refine go_stop ?_
                  refine ⟨⟨i + 1, out, by omega, by omega, ok⟩, by dsimp only; omega, ?_⟩
                  dsimp only
                  rw [ho']
                  exact (zren [0, 1])
                | b :: q, hll =>
                  dsimp only [rowK, rowO, List.append, HAppend.hAppend, Append.append]
                  repeat' (first | refine zS rfl ?_ | refine qA ?_ | refine qB rfl ?_ | refine qD ?_ | refine qE ?_ | refine qF ?_ | refine qG ?_ | refine zT rfl ?_ | refine zU rfl ?_)
                  refine go_stop ?_
                  refine ⟨⟨i + 1, out, by omega, by omega, ok⟩, by dsimp only; omega, ?_⟩
                  dsimp only
                  rw [ho']
                  exact (zren [0, 1, 2])
              | true =>
                rw [hc] at hcc
                rw [remP_in hx0 hc] at ok
                match ho' : encL out, hll with
                | [], hll =>
                  dsimp only [rowK, rowO, List.append, HAppend.hAppend, Append.append]
                  repeat' (first | refine zS rfl ?_ | refine qA ?_ | refine qB rfl ?_ | refine qD ?_ | refine qE ?_ | refine qF ?_ | refine qG ?_ | refine qI (enc x) rfl (guardX_ok rfl) rfl rfl rfl rfl rfl rfl (by first | omega | decide) hx ?_ | (refine qS rfl ⟨by simp, enc_one _, by (show (0 + 1) * 64 ≤ 140737488355328; omega), by (show 0 + 1 ≤ 9223372036854775807; omega)⟩ ?_) | refine zT rfl ?_)
                  refine go_stop ?_
                  refine ⟨⟨i + 1, out ++ [x], by omega, by simp; omega, by rw [ok]; simp⟩, by dsimp only; omega, ?_⟩
                  dsimp only
                  rw [hta, ho']
                  exact (zren [0, 1, 2])
                | b :: q, hll =>
                  dsimp only [rowK, rowO, List.append, HAppend.hAppend, Append.append]
                  repeat' (first | refine zS rfl ?_ | refine qA ?_ | refine qB rfl ?_ | refine qD ?_ | refine qE ?_ | refine qF ?_ | refine qG ?_ | refine qI (enc x) rfl (guardX_ok rfl) rfl rfl rfl rfl rfl rfl (by first | omega | decide) hx ?_ | (refine qS rfl ⟨by simp, enc_one _, by (show ((b :: q).length + 1) * 64 ≤ 140737488355328; omega), by (show (b :: q).length + 1 ≤ 9223372036854775807; omega)⟩ ?_) | refine zT rfl ?_)
                  refine go_stop ?_
                  refine ⟨⟨i + 1, out ++ [x], by omega, by simp; omega, by rw [ok]; simp⟩, by dsimp only; omega, ?_⟩
                  dsimp only
                  rw [hta, ho']
                  exact (zren [0, 1, 3])
            · have g1 : decide ((i : Int) < ((kids a).length : Int)) = false := by rw [hkl]; simp; omega
              have ok' : remP true a.l 0 = out := by
                rw [ok]
                have : remP true a.l i = [] := by
                  unfold remP
                  rw [List.drop_eq_nil_of_le (by cases (i % 2 == 0) == true <;> simp <;> omega)]
                  rfl
                rw [this, List.append_nil]
              rw [ok'] at hL ⊢
              match ho' : encL out, hL with
              | [], hL =>
                dsimp only [rowK, rowO, List.append, HAppend.hAppend, Append.append]
                repeat' (first | refine zS rfl ?_ | refine qA ?_ | refine qB rfl ?_ | refine qD ?_ | refine qH rfl ?_ | refine qP rfl rfl rfl rfl rfl rfl b68 (hL) ?_ | refine zU rfl ?_ | refine qL rfl rfl ?_ | exact zD)
              | b :: q, hL =>
                dsimp only [rowK, rowO, List.append, HAppend.hAppend, Append.append]
                repeat' (first | refine zS rfl ?_ | refine qA ?_ | refine qB rfl ?_ | refine qD ?_ | refine qH rfl ?_ | refine zU rfl ?_)
                refine go_frzS 2 rfl ?_
                repeat' (first | refine zS rfl ?_ | refine qD ?_ | refine qP rfl rfl rfl rfl rfl rfl b68 (hL) ?_ | refine qL rfl rfl ?_ | exact zD)
end Go.Proofs.YthieohigmpfknaaGreatDoor

/- The reference's functions. Conditions: see okE. -/
namespace Go.Proofs.YthieohigmpfknaaGreatDoor
open Go Go.Abs Go.Val Go.RowKit
attribute [local irreducible] go SGo HasBody Ev ExtEv EvO EvS binOp RGo


theorem not_same {nm s t : ByteArray} (hst : (s.toList == t.toList) = false) (h : eqS nm s = true) : eqS nm t = false := by
  unfold eqS at *
  rw [show nm.toList = s.toList from beq_iff_eq.1 h]
  exact hst
theorem part_none {nm : ByteArray} {a : V} (h : eqS nm nmFirst = false ∧ eqS nm nmLast = false ∧ eqS nm nmLength = false ∧ eqS nm nmNodes = false ∧ eqS nm nmEdges = false) : partF nm a = vNull := by
  obtain ⟨h1, h2, h3, h4, h5⟩ := h
  unfold partF
  rw [h1, h2, h3, h4, h5]
  simp
theorem fn_part (g : Gr) (nm : ByteArray) (a : V) (r : List V) (h0 : eqS nm nmCoalesce = false) (h1 : eqS nm nmId = false) (h2 : eqS nm nmAbs = false) (h3 : eqS nm nmText = false) (h4 : eqS nm nmType = false) (h5 : eqS nm nmStart = false) (h6 : eqS nm nmEnd = false) (h7 : eqS nm nmLabels = false) (h8 : eqS nm nmSize = false) :
    fnF g nm (a :: r) = partF nm a := by
  unfold fnF partF
  rw [h0, h1, h2, h3, h4, h5, h6, h7, h8, show a0 (a :: r) = a from rfl]
  simp only [Bool.or_self, cond_false]
  cases k8 : a.k == 8 with
  | true =>
    have k7 : (a.k == 7) = false := by simp at k8 ⊢; omega
    rw [k7]
    cases cf : eqS nm nmFirst with
    | true =>
      have e1 : eqS nm nmLength = false := not_same (by decide +kernel) cf
      have e2 : eqS nm nmNodes = false := not_same (by decide +kernel) cf
      have e3 : eqS nm nmEdges = false := not_same (by decide +kernel) cf
      have e4 : eqS nm nmLast = false := not_same (by decide +kernel) cf
      rw [e1, e2, e3, e4]
      cases a.l.isEmpty <;> simp
    | false =>
      cases cl : eqS nm nmLast with
      | true =>
        have e1 : eqS nm nmLength = false := not_same (by decide +kernel) cl
        have e2 : eqS nm nmNodes = false := not_same (by decide +kernel) cl
        have e3 : eqS nm nmEdges = false := not_same (by decide +kernel) cl
        rw [e1, e2, e3]
        cases a.l.isEmpty <;> simp
      | false =>
        cases eqS nm nmLength <;> cases eqS nm nmNodes <;> cases eqS nm nmEdges <;> simp
  | false =>
    cases k7 : a.k == 7 <;> cases eqS nm nmLength <;> cases eqS nm nmNodes <;> cases eqS nm nmEdges <;> simp
set_option maxHeartbeats 8000000 in
theorem rfunction_ev (g : Gr) (nm : ByteArray) (l : List V) (hg : narG g) (hok : fnOK nm l) : Ev E 69 [encGr g, .str nm, .sl (encL l)] (.d (enc (fnF g nm l))) := by
  obtain ⟨hne, hmax, hnar, htx, hal⟩ := hok
  have hle : (encL l).length = l.length := encL_len _
  obtain ⟨a, r, hl⟩ : ∃ a r, l = a :: r := by
    cases l with
    | nil => exact absurd rfl hne
    | cons a r => exact ⟨a, r, rfl⟩
  have ha0 : a0 l = a := by rw [hl]; rfl
  have hx0 : (encL l)[(0 : Int).toNat]? = some (enc a) := by rw [hl]; rfl
  have hna : nar a = true := hnar a (by rw [hl]; simp)
  have hkl : (kids a).length = a.l.length := kids_len a
  have hpt := rparts_ev nm a hna
  rw [ha0] at htx hal
  have hkm : (kids a).length ≤ 2000000 := by rw [hkl]; exact hal
  cases c0 : eqS nm nmCoalesce with
  | true =>
    have c0' : (nm.toList == (⟨#[99, 111, 97, 108, 101, 115, 99, 101]⟩ : ByteArray).toList) = true := c0
    have e0 : fnF g nm l = firstNN l := by unfold fnF; rw [c0]; rfl
    rw [e0]
    unfold firstNN
    refine enter3 Tryz.func69 Tryz.ntmps69 rfl rfl fun w0 F0 O => ?_
    repeat' (first | refine zS rfl ?_ | refine qA ?_ | refine qB rfl ?_ | refine qD ?_ | refine qF ?_ | refine zT rfl ?_)
    refine go_loop_ (α := SFd l fun v => v.k != 0) (fun p => ⟨[(2, .d (.sl (encL l))), (6, .ptr 1 0), (7, .d (.int p.i))], [.var 25 (.w (.d (encGr g))), zVal]⟩) (fun p => l.length - p.i) ⟨0, by omega, rfl⟩ ((zle 2)) ?_
    rintro ⟨i, hi, ok⟩
    dsimp only
    rcases Nat.lt_or_ge i l.length with hlt | hge
    · have g1 : decide ((i : Int) < ((encL l).length : Int)) = true := by rw [hle]; simpa using hlt
      have hy0 := List.getElem?_eq_getElem hlt
      generalize l[i] = x at hy0
      have hx : (encL l)[(i : Int).toNat]? = some (enc x) := encL_get (by rw [Int.toNat_natCast]; exact hy0)
      rw [ok, find_at hy0]
      cases hc : x.k != 0 with
      | true =>
        repeat' (first | refine zS rfl ?_ | refine qA ?_ | refine qB rfl ?_ | refine qD ?_ | refine qE ?_ | refine qF ?_ | refine qI (enc x) rfl (guardX_ok rfl) rfl rfl rfl rfl rfl rfl (by first | omega | decide) hx ?_ | refine zT rfl ?_ | refine qL rfl rfl ?_ | exact zD)
      | false =>
        repeat' (first | refine zS rfl ?_ | refine qA ?_ | refine qB rfl ?_ | refine qD ?_ | refine qE ?_ | refine qF ?_ | refine qG ?_ | refine qI (enc x) rfl (guardX_ok rfl) rfl rfl rfl rfl rfl rfl (by first | omega | decide) hx ?_ | refine zT rfl ?_ | refine zU rfl ?_)
        refine go_stop ?_
        exact ⟨⟨i + 1, by omega, by rw [ok, find_at hy0, hc]; rfl⟩, by dsimp only; omega, (zle 2)⟩
    · have g1 : decide ((i : Int) < ((encL l).length : Int)) = false := by rw [hle]; simp; omega
      rw [ok, List.drop_eq_nil_of_le hge]
      repeat' (first | refine zS rfl ?_ | refine qA ?_ | refine qB rfl ?_ | refine qD ?_ | refine qH rfl ?_ | refine qP rfl rfl rfl rfl rfl rfl b36 (rnull_ev) ?_ | refine zU rfl ?_ | refine qL rfl rfl ?_ | exact zD)
  | false =>
  have c0' : (nm.toList == (⟨#[99, 111, 97, 108, 101, 115, 99, 101]⟩ : ByteArray).toList) = false := c0
  cases c1 : eqS nm nmId with
  | true =>
    have c1' : (nm.toList == (⟨#[105, 100]⟩ : ByteArray).toList) = true := c1
    have i1 := rint_ev a.n
    rw [part_none (nm := nm) (a := a) ⟨not_same (by decide +kernel) c1, not_same (by decide +kernel) c1, not_same (by decide +kernel) c1, not_same (by decide +kernel) c1, not_same (by decide +kernel) c1⟩] at hpt
    have e0 : fnF g nm l = bif a.k == 5 || a.k == 6 then vInt a.n else vNull := by unfold fnF; rw [c0, c1, ha0]; rfl
    rw [e0]
    cases k5 : a.k == 5 <;> cases k6 : a.k == 6
    all_goals
      refine enter3 Tryz.func69 Tryz.ntmps69 rfl rfl fun w0 F0 O => ?_
      repeat' (first | refine zS rfl ?_ | refine qA ?_ | refine qB rfl ?_ | refine qD ?_ | refine qE ?_ | refine qF ?_ | refine qG ?_ | refine qI (enc a) rfl (guardX_ok rfl) rfl rfl rfl rfl rfl rfl (by first | omega | decide) hx0 ?_ | refine qP rfl rfl rfl rfl rfl rfl b110 (i1) ?_ | refine qP rfl rfl rfl rfl rfl rfl b116 (hpt) ?_ | refine zT rfl ?_ | refine zU rfl ?_ | refine qL rfl rfl ?_ | refine zX rfl rfl rfl rfl ?_ | refine zW rfl rfl rfl rfl ?_ | exact zD)
  | false =>
  have c1' : (nm.toList == (⟨#[105, 100]⟩ : ByteArray).toList) = false := c1
  cases c2 : eqS nm nmAbs with
  | true =>
    have c2' : (nm.toList == (⟨#[97, 98, 115]⟩ : ByteArray).toList) = true := c2
    have n1 := RNumber_ev a
    have e0 : fnF g nm l = absV a := by unfold fnF; rw [c0, c1, c2, ha0]; rfl
    rw [e0]
    unfold absV
    cases hn : isNum a with
    | true =>
      rw [hn] at n1
      obtain ⟨-, f2, -⟩ := fval_inv (num_fval hn)
      cases hs : decide (numN a < 0) with
      | true =>
        have hs' := of_decide_eq_true hs
        have r1 := rational_ev (0 - numN a) (numD a) true
        rw [show max (numN a) (0 - numN a) = 0 - numN a by omega]
        refine enter3 Tryz.func69 Tryz.ntmps69 rfl rfl fun w0 F0 O => ?_
        repeat' (first | refine zS rfl ?_ | refine qA ?_ | refine qB rfl ?_ | refine qD ?_ | refine qE ?_ | refine qF ?_ | refine qI (enc a) rfl (guardX_ok rfl) rfl rfl rfl rfl rfl rfl (by first | omega | decide) hx0 ?_ | refine qP rfl rfl rfl rfl rfl rfl b42 (n1) ?_ | refine qP rfl rfl rfl rfl rfl rfl b111 (r1) ?_ | refine zT rfl ?_ | refine zU rfl ?_ | refine qL rfl rfl ?_ | exact zD)
      | false =>
        have hs' := of_decide_eq_false hs
        have r1 := rational_ev (numN a) (numD a) true
        rw [show max (numN a) (0 - numN a) = numN a by omega]
        refine enter3 Tryz.func69 Tryz.ntmps69 rfl rfl fun w0 F0 O => ?_
        repeat' (first | refine zS rfl ?_ | refine qA ?_ | refine qB rfl ?_ | refine qD ?_ | refine qE ?_ | refine qF ?_ | refine qI (enc a) rfl (guardX_ok rfl) rfl rfl rfl rfl rfl rfl (by first | omega | decide) hx0 ?_ | refine qP rfl rfl rfl rfl rfl rfl b42 (n1) ?_ | refine qP rfl rfl rfl rfl rfl rfl b111 (r1) ?_ | refine zT rfl ?_ | refine zU rfl ?_ | refine qL rfl rfl ?_ | exact zD)
    | false =>
      rw [hn] at n1
      have hz : numN a = 0 := by unfold numN; rw [hn]; rfl
      have hs : decide (numN a < 0) = false := by rw [hz]; rfl
      have r1 := rational_ev (numN a) (numD a) false
      refine enter3 Tryz.func69 Tryz.ntmps69 rfl rfl fun w0 F0 O => ?_
      repeat' (first | refine zS rfl ?_ | refine qA ?_ | refine qB rfl ?_ | refine qD ?_ | refine qE ?_ | refine qF ?_ | refine qI (enc a) rfl (guardX_ok rfl) rfl rfl rfl rfl rfl rfl (by first | omega | decide) hx0 ?_ | refine qP rfl rfl rfl rfl rfl rfl b42 (n1) ?_ | refine qP rfl rfl rfl rfl rfl rfl b111 (r1) ?_ | refine zT rfl ?_ | refine zU rfl ?_ | refine qL rfl rfl ?_ | exact zD)
  | false =>
  have c2' : (nm.toList == (⟨#[97, 98, 115]⟩ : ByteArray).toList) = false := c2
  cases c3 : eqS nm nmText with
  | true =>
    have c3' : (nm.toList == (⟨#[116, 101, 120, 116]⟩ : ByteArray).toList) = true := c3
    have t1 := rtxt_ev a (htx c3)
    have s1 := rstr_ev (bs (txt a))
    rw [part_none (nm := nm) (a := a) ⟨not_same (by decide +kernel) c3, not_same (by decide +kernel) c3, not_same (by decide +kernel) c3, not_same (by decide +kernel) c3, not_same (by decide +kernel) c3⟩] at hpt
    have e0 : fnF g nm l = bif a.k != 0 then vStr (bs (txt a)) else vNull := by unfold fnF; rw [c0, c1, c2, c3, ha0]; rfl
    rw [e0]
    cases k0 : a.k != 0
    all_goals
      refine enter3 Tryz.func69 Tryz.ntmps69 rfl rfl fun w0 F0 O => ?_
      repeat' (first | refine zS rfl ?_ | refine qA ?_ | refine qB rfl ?_ | refine qD ?_ | refine qE ?_ | refine qF ?_ | refine qG ?_ | refine qI (enc a) rfl (guardX_ok rfl) rfl rfl rfl rfl rfl rfl (by first | omega | decide) hx0 ?_ | refine qP rfl rfl rfl rfl rfl rfl b113 (t1) ?_ | refine qP rfl rfl rfl rfl rfl rfl b112 (s1) ?_ | refine qP rfl rfl rfl rfl rfl rfl b116 (hpt) ?_ | refine zT rfl ?_ | refine zU rfl ?_ | refine qL rfl rfl ?_ | exact zD)
  | false =>
  have c3' : (nm.toList == (⟨#[116, 101, 120, 116]⟩ : ByteArray).toList) = false := c3
  cases c4 : eqS nm nmSize with
  | true =>
    have c4' : (nm.toList == (⟨#[115, 105, 122, 101]⟩ : ByteArray).toList) = true := c4
    have x4 : eqS nm nmType = false := not_same (by decide +kernel) c4
    have x5 : eqS nm nmStart = false := not_same (by decide +kernel) c4
    have x6 : eqS nm nmEnd = false := not_same (by decide +kernel) c4
    have x7 : eqS nm nmLabels = false := not_same (by decide +kernel) c4
    rw [part_none (nm := nm) (a := a) ⟨not_same (by decide +kernel) c4, not_same (by decide +kernel) c4, not_same (by decide +kernel) c4, not_same (by decide +kernel) c4, not_same (by decide +kernel) c4⟩] at hpt
    have i1 := rint_ev a.s.size
    have i2 := rint_ev (kids a).length
    have e0 : fnF g nm l = bif a.k == 4 then vInt a.s.size else bif a.k == 8 then vInt (kids a).length else vNull := by unfold fnF; rw [c0, c1, c2, c3, x4, x5, x6, x7, c4, ha0, hkl]; rfl
    rw [e0]
    have y5 : (nm.toList == (⟨#[116, 121, 112, 101]⟩ : ByteArray).toList) = false := x4
    have y6 : (nm.toList == (⟨#[115, 116, 97, 114, 116]⟩ : ByteArray).toList) = false := x5
    have y7 : (nm.toList == (⟨#[101, 110, 100]⟩ : ByteArray).toList) = false := x6
    have y8 : (nm.toList == (⟨#[108, 97, 98, 101, 108, 115]⟩ : ByteArray).toList) = false := x7
    cases k4 : a.k == 4 <;> cases k8 : a.k == 8
    all_goals
      refine Ev.fit fun hfit => ?_
      have hfa : Fit (enc a) := (hfit (.sl (encL l)) (by simp)).sls.2 _ (by rw [hl]; simp [encL_map])
      obtain ⟨-, -, -, f1, f2, -⟩ := fit_enc hfa
      refine enter3 Tryz.func69 Tryz.ntmps69 rfl rfl fun w0 F0 O => ?_
      repeat' (first | refine zS rfl ?_ | refine qA ?_ | refine qB rfl ?_ | refine qD ?_ | refine qE ?_ | refine qF ?_ | refine qG ?_ | refine qI (enc a) rfl (guardX_ok rfl) rfl rfl rfl rfl rfl rfl (by first | omega | decide) hx0 ?_ | refine qP rfl rfl rfl rfl rfl rfl b110 (i1) ?_ | refine qP rfl rfl rfl rfl rfl rfl b110 (i2) ?_ | refine qP rfl rfl rfl rfl rfl rfl b116 (hpt) ?_ | refine zT rfl ?_ | refine zU rfl ?_ | refine qL rfl rfl ?_ | exact zD)
  | false =>
  have c4' : (nm.toList == (⟨#[115, 105, 122, 101]⟩ : ByteArray).toList) = false := c4
  cases c5 : eqS nm nmType with
  | true =>
    have c5' : (nm.toList == (⟨#[116, 121, 112, 101]⟩ : ByteArray).toList) = true := c5
    have h1 := redge_ev22 g nm a (by simp [c5])
    have e0 : fnF g nm l = bif edgB g a then ofE nm (edgF g a) else vNull := by unfold fnF; rw [c0, c1, c2, c3, c5, ha0]; simp
    rw [e0]
    refine enter3 Tryz.func69 Tryz.ntmps69 rfl rfl fun w0 F0 O => ?_
    repeat' (first | refine zS rfl ?_ | refine qA ?_ | refine qB rfl ?_ | refine qD ?_ | refine qE ?_ | refine qF ?_ | refine qI (enc a) rfl (guardX_ok rfl) rfl rfl rfl rfl rfl rfl (by first | omega | decide) hx0 ?_ | refine qP rfl rfl rfl rfl rfl rfl b114 (h1) ?_ | refine zT rfl ?_ | refine zU rfl ?_ | refine qL rfl rfl ?_ | exact zD)
  | false =>
  have c5' : (nm.toList == (⟨#[116, 121, 112, 101]⟩ : ByteArray).toList) = false := c5
  cases c6 : eqS nm nmStart with
  | true =>
    have c6' : (nm.toList == (⟨#[115, 116, 97, 114, 116]⟩ : ByteArray).toList) = true := c6
    have h1 := redge_ev22 g nm a (by simp [c6])
    have e0 : fnF g nm l = bif edgB g a then ofE nm (edgF g a) else vNull := by unfold fnF; rw [c0, c1, c2, c3, c5, c6, ha0]; simp
    rw [e0]
    refine enter3 Tryz.func69 Tryz.ntmps69 rfl rfl fun w0 F0 O => ?_
    repeat' (first | refine zS rfl ?_ | refine qA ?_ | refine qB rfl ?_ | refine qD ?_ | refine qE ?_ | refine qF ?_ | refine qI (enc a) rfl (guardX_ok rfl) rfl rfl rfl rfl rfl rfl (by first | omega | decide) hx0 ?_ | refine qP rfl rfl rfl rfl rfl rfl b114 (h1) ?_ | refine zT rfl ?_ | refine zU rfl ?_ | refine qL rfl rfl ?_ | exact zD)
  | false =>
  have c6' : (nm.toList == (⟨#[115, 116, 97, 114, 116]⟩ : ByteArray).toList) = false := c6
  cases c7 : eqS nm nmEnd with
  | true =>
    have c7' : (nm.toList == (⟨#[101, 110, 100]⟩ : ByteArray).toList) = true := c7
    have h1 := redge_ev22 g nm a (by simp [c7])
    have e0 : fnF g nm l = bif edgB g a then ofE nm (edgF g a) else vNull := by unfold fnF; rw [c0, c1, c2, c3, c5, c6, c7, ha0]; simp
    rw [e0]
    refine enter3 Tryz.func69 Tryz.ntmps69 rfl rfl fun w0 F0 O => ?_
    repeat' (first | refine zS rfl ?_ | refine qA ?_ | refine qB rfl ?_ | refine qD ?_ | refine qE ?_ | refine qF ?_ | refine qI (enc a) rfl (guardX_ok rfl) rfl rfl rfl rfl rfl rfl (by first | omega | decide) hx0 ?_ | refine qP rfl rfl rfl rfl rfl rfl b114 (h1) ?_ | refine zT rfl ?_ | refine zU rfl ?_ | refine qL rfl rfl ?_ | exact zD)
  | false =>
  have c7' : (nm.toList == (⟨#[101, 110, 100]⟩ : ByteArray).toList) = false := c7
  cases c8 : eqS nm nmLabels with
  | true =>
    have c8' : (nm.toList == (⟨#[108, 97, 98, 101, 108, 115]⟩ : ByteArray).toList) = true := c8
    have h1 := rlabels_ev g a hg
    have e0 : fnF g nm l = bif nodB g a then vList ((nodF g a).labels.map vStr) else vNull := by unfold fnF; rw [c0, c1, c2, c3, c5, c6, c7, c8, ha0]; simp
    rw [e0]
    refine enter3 Tryz.func69 Tryz.ntmps69 rfl rfl fun w0 F0 O => ?_
    repeat' (first | refine zS rfl ?_ | refine qA ?_ | refine qB rfl ?_ | refine qD ?_ | refine qE ?_ | refine qF ?_ | refine qI (enc a) rfl (guardX_ok rfl) rfl rfl rfl rfl rfl rfl (by first | omega | decide) hx0 ?_ | refine qP rfl rfl rfl rfl rfl rfl b115 (h1) ?_ | refine zT rfl ?_ | refine zU rfl ?_ | refine qL rfl rfl ?_ | exact zD)
  | false =>
  have c8' : (nm.toList == (⟨#[108, 97, 98, 101, 108, 115]⟩ : ByteArray).toList) = false := c8
  rw [hl, fn_part g nm a r c0 c1 c2 c3 c5 c6 c7 c8 c4, ← hl]
  refine enter3 Tryz.func69 Tryz.ntmps69 rfl rfl fun w0 F0 O => ?_
  repeat' (first | refine zS rfl ?_ | refine qA ?_ | refine qB rfl ?_ | refine qD ?_ | refine qE ?_ | refine qF ?_ | refine qG ?_ | refine qI (enc a) rfl (guardX_ok rfl) rfl rfl rfl rfl rfl rfl (by first | omega | decide) hx0 ?_ | refine qP rfl rfl rfl rfl rfl rfl b116 (hpt) ?_ | refine zU rfl ?_ | refine qL rfl rfl ?_ | exact zD)
end Go.Proofs.YthieohigmpfknaaGreatDoor

/- The reference's evaluation; Eval and Test of both texts. Conditions: see okE. -/
namespace Go.Proofs.YthieohigmpfknaaGreatDoor
open Go Go.Abs Go.Val Go.RowKit
attribute [local irreducible] go SGo HasBody Ev ExtEv EvO EvS binOp RGo


/-! ## The reference's eval -/
theorem giv_null : giv vNull = vNull := by
  unfold giv
  rw [show Val.okV vNull = true by decide +kernel]
  rfl
set_option maxHeartbeats 16000000 in
theorem reval_ev (g : Gr) (env : List Bd) (hg : narG g) (henv : env.length ≤ 2000000) (e : Ex) : okE g env e → Ev E 37 [encGr g, encE e, .sl (env.map encBd)] (.d (enc (evF g env e))) := by
  refine xind (P := fun e => okE g env e → Ev E 37 [encGr g, encE e, .sl (env.map encBd)] (.d (enc (evF g env e)))) (fun op v nm ds ks ih hok => ?_) e
  simp only [okE] at hok
  obtain ⟨hs, hmax, htx, hks⟩ := hok
  have hlen : (kidsE (.mk op v nm ds ks)).length = ks.length := kidsE_len _
  have hkg : ∀ (i : Nat) (x : Ex), ks[i]? = some x → (kidsE (.mk op v nm ds ks))[(i : Int).toNat]? = some (encE x) := fun i x h => kidsE_get (e := .mk op v nm ds ks) (by rw [Int.toNat_natCast]; exact h)
  have hle : (env.map encBd).length = env.length := by simp
  have hLl : (evL g env ks).length = ks.length := evL_len g env ks
  have hLo := evL_ok g env ks
  rw [show evF g env (.mk op v nm ds ks) = giv (apF g env op v nm (evL g env ks)) by simp only [evF]]
  refine enter3 Tryz.func37 Tryz.ntmps37 rfl rfl fun w0 F0 O => ?_
  repeat' (first | refine zS rfl ?_ | refine qA ?_ | refine qB rfl ?_ | refine qD ?_ | refine qF ?_)
  refine go_loop_ (α := Fin (ks.length + 1)) (fun p => ⟨[(7, rowK 3 (encL (evL g env (ks.take p.val)))), (2, .d (.sl (env.map encBd))), (3, .ptr 0 0), (4, .ptr 1 0), (6, .ptr 2 0), (8, .d (.int p.val))], [.var 25 (.w (.d (encGr g))), .var 31 (.w (.d (encE (.mk op v nm ds ks)))), zVal] ++ rowO 28 5 (encL (evL g env (ks.take p.val)))⟩) (fun p => ks.length - p.val) ⟨0, by omega⟩ ((zle 3)) ?_
  rintro ⟨i, hi⟩
  dsimp only
  rcases Nat.lt_or_ge i ks.length with hlt | hge
  · have g1 : decide ((i : Int) < ((kidsE (.mk op v nm ds ks)).length : Int)) = true := by rw [hlen]; simpa using hlt
    have hx0 := List.getElem?_eq_getElem hlt
    generalize ks[i] = x at hx0
    have hx := hkg i x hx0
    have hcx := ih x (List.mem_of_getElem? hx0) (okEL_mem hks x (List.mem_of_getElem? hx0))
    have hta := evL_take (g := g) (env := env) hx0
    have hll : (encL (evL g env (ks.take i))).length ≤ i := by rw [encL_len, evL_len]; simp; omega
    match ho' : encL (evL g env (ks.take i)), hll with
    | [], hll =>
      dsimp only [rowK, rowO, List.append, HAppend.hAppend, Append.append]
      repeat' (first | refine qR0 (id := 5) [10] (by kernel_rfl) (by kernel_rfl) (by repeat (first | exact trivial | refine ⟨⟨rfl, rfl⟩, ?_⟩ | refine ⟨trivial, ?_⟩)) ?_ | refine rgF (id := 5) (i := 0) 10 (by kernel_rfl) rfl ?_ | refine rgF (id := 5) (i := 11) 1 (by kernel_rfl) rfl ?_ | refine rgN ?_ | refine zS rfl ?_ | refine qA ?_ | refine qB rfl ?_ | refine qD ?_ | refine qE ?_ | refine qF ?_ | refine qG ?_ | refine qI (encE x) rfl (guardX_ok rfl) rfl rfl rfl rfl rfl rfl (by first | omega | decide) hx ?_ | refine qP rfl rfl rfl rfl rfl rfl b37 (hcx) ?_ | refine rgS (id := 5) (i := 10) rfl rfl rfl rfl (⟨by simp, enc_one _, by first | (show (0 + 1) * 64 ≤ 140737488355328; omega) | (show ((b :: q).length + 1) * 64 ≤ 140737488355328; omega), by first | (show 0 + 1 ≤ 9223372036854775807; omega) | (show (b :: q).length + 1 ≤ 9223372036854775807; omega)⟩) (by repeat (first | exact trivial | refine ⟨⟨rfl, rfl⟩, ?_⟩ | refine ⟨trivial, ?_⟩)) ?_ | refine zT rfl ?_)
      refine go_stop ?_
      refine ⟨⟨i + 1, by omega⟩, by dsimp only; omega, ?_⟩
      dsimp only
      rw [hta, ho']
      exact (zren [0, 1, 2, 3])
    | b :: q, hll =>
      dsimp only [rowK, rowO, List.append, HAppend.hAppend, Append.append]
      repeat' (first | refine qR0 (id := 5) [10] (by kernel_rfl) (by kernel_rfl) (by repeat (first | exact trivial | refine ⟨⟨rfl, rfl⟩, ?_⟩ | refine ⟨trivial, ?_⟩)) ?_ | refine rgF (id := 5) (i := 0) 10 (by kernel_rfl) rfl ?_ | refine rgF (id := 5) (i := 11) 1 (by kernel_rfl) rfl ?_ | refine rgN ?_ | refine zS rfl ?_ | refine qA ?_ | refine qB rfl ?_ | refine qD ?_ | refine qE ?_ | refine qF ?_ | refine qG ?_ | refine qI (encE x) rfl (guardX_ok rfl) rfl rfl rfl rfl rfl rfl (by first | omega | decide) hx ?_ | refine qP rfl rfl rfl rfl rfl rfl b37 (hcx) ?_ | refine rgS (id := 5) (i := 10) rfl rfl rfl rfl (⟨by simp, enc_one _, by first | (show (0 + 1) * 64 ≤ 140737488355328; omega) | (show ((b :: q).length + 1) * 64 ≤ 140737488355328; omega), by first | (show 0 + 1 ≤ 9223372036854775807; omega) | (show (b :: q).length + 1 ≤ 9223372036854775807; omega)⟩) (by repeat (first | exact trivial | refine ⟨⟨rfl, rfl⟩, ?_⟩ | refine ⟨trivial, ?_⟩)) ?_ | refine zT rfl ?_)
      refine go_stop ?_
      refine ⟨⟨i + 1, by omega⟩, by dsimp only; omega, ?_⟩
      dsimp only
      rw [hta, ho']
      exact (zren [0, 1, 2, 4])
  · have g1 : decide ((i : Int) < ((kidsE (.mk op v nm ds ks)).length : Int)) = false := by rw [hlen]; simp; omega
    rw [List.take_of_length_le hge]
    have hfn := fun (h : op = 23) => fn_ok (g := g) (env := env) (nm := nm) (hs.2.2.2 h) hmax (htx h)
    clear htx ih hks hkg
    generalize evL g env ks = l at *
    refine go_rowD rfl rfl (by repeat (first | exact trivial | refine ⟨rfl, ?_⟩)) (by repeat (first | exact trivial | refine ⟨rfl, ?_⟩)) ?_
    rw [← hLl] at hs hmax
    obtain ⟨⟨o1, o2⟩, hu, hb, -⟩ := hs
    have hun : l.length = 1 → ∃ a, l = [a] := fun h => by
      match l, h with
      | [a], _ => exact ⟨a, rfl⟩
    have hbi : l.length = 2 → ∃ a b, l = [a, b] := fun h => by
      match l, h with
      | [a, b], _ => exact ⟨a, b, rfl⟩
    have hgv := giv_ev (apF g env op v nm l)
    have hop : op = 1 ∨ op = 2 ∨ op = 3 ∨ op = 4 ∨ op = 5 ∨ op = 6 ∨ op = 7 ∨ op = 8 ∨ op = 9 ∨ op = 10 ∨ op = 11 ∨ op = 12 ∨ op = 13 ∨ op = 14 ∨ op = 15 ∨ op = 16 ∨ op = 17 ∨ op = 18 ∨ op = 19 ∨ op = 20 ∨ op = 21 ∨ op = 22 ∨ op = 23 ∨ op = 24 := by omega
    rcases hop with rfl | rfl | rfl | rfl | rfl | rfl | rfl | rfl | rfl | rfl | rfl | rfl | rfl | rfl | rfl | rfl | rfl | rfl | rfl | rfl | rfl | rfl | rfl | rfl
    · skip
      rw [show apF g env 1 v nm l = v from rfl] at hgv ⊢
      repeat' (first | refine zS rfl ?_ | refine qA ?_ | refine qB rfl ?_ | refine qD ?_ | refine qF ?_ | refine qH rfl ?_ | refine qP rfl rfl rfl rfl rfl rfl b67 (hgv) ?_ | refine zT rfl ?_ | refine zU rfl ?_ | refine qL rfl rfl ?_ | exact zD)
    · skip
      rw [show apF g env 2 v nm l = varF env nm from rfl] at hgv ⊢
      unfold varF at hgv ⊢
      repeat' (first | refine zS rfl ?_ | refine qA ?_ | refine qB rfl ?_ | refine qD ?_ | refine qF ?_ | refine qH rfl ?_ | refine zT rfl ?_ | refine zU rfl ?_)
      refine go_loop_ (α := SFd env fun b => b.name.toList == nm.toList) (fun p => ⟨[(2, .d (.sl (env.map encBd))), (4, .ptr 1 0), (6, .ptr 2 0), (9, .d (.int p.i))], [.var 25 (.w (.d (encGr g))), .var 31 (.w (.d (encE (.mk 2 v nm ds ks)))), zVal]⟩) (fun p => env.length - p.i) ⟨0, by omega, rfl⟩ ((zle 3)) ?_
      rintro ⟨i, hi, ok⟩
      dsimp only
      rcases Nat.lt_or_ge i env.length with hlt | hge
      · have g2 : decide ((i : Int) < ((env.map encBd).length : Int)) = true := by rw [hle]; simpa using hlt
        have hx0 := List.getElem?_eq_getElem hlt
        generalize env[i] = x at hx0
        have hx := map_at (f := encBd) hx0
        rw [find_at hx0] at ok
        rw [ok] at hgv ⊢
        cases hc : x.name.toList == nm.toList with
        | true =>
          rw [hc] at hgv
          repeat' (first | refine zS rfl ?_ | refine qA ?_ | refine qB rfl ?_ | refine qC (by kernel_rfl) ?_ | refine qD ?_ | refine qE ?_ | refine qF ?_ | refine qI (encBd x) rfl (guardX_ok rfl) rfl rfl rfl rfl rfl rfl (by first | omega | decide) hx ?_ | refine qP rfl rfl rfl rfl rfl rfl b67 (hgv) ?_ | refine zT rfl ?_ | refine qL rfl rfl ?_ | exact zD)
        | false =>
          repeat' (first | refine zS rfl ?_ | refine qA ?_ | refine qB rfl ?_ | refine qC (by kernel_rfl) ?_ | refine qD ?_ | refine qE ?_ | refine qF ?_ | refine qG ?_ | refine qI (encBd x) rfl (guardX_ok rfl) rfl rfl rfl rfl rfl rfl (by first | omega | decide) hx ?_ | refine zT rfl ?_ | refine zU rfl ?_)
          refine go_stop ?_
          exact ⟨⟨i + 1, by omega, by rw [ok, hc]; rfl⟩, by dsimp only; omega, (zle 3)⟩
      · have g2 : decide ((i : Int) < ((env.map encBd).length : Int)) = false := by rw [hle]; simp; omega
        rw [List.drop_eq_nil_of_le hge] at ok
        rw [ok]
        show go _ _ _ (EndIs _ _ (.d (enc (giv vNull))))
        rw [giv_null]
        repeat' (first | refine zS rfl ?_ | refine qA ?_ | refine qB rfl ?_ | refine qD ?_ | refine qH rfl ?_ | refine qP rfl rfl rfl rfl rfl rfl b36 (rnull_ev) ?_ | refine zU rfl ?_ | refine qL rfl rfl ?_ | exact zD)
    · skip
      obtain ⟨a, rfl⟩ := hun (hu (by omega))
      have hx0 : (encL [a])[(0 : Int).toNat]? = some (enc a) := rfl
      have h1 := unary_ev g env 3 v nm ds ks a (by omega)
      repeat' (first | refine qR0 (id := 23) [7] (by kernel_rfl) (by kernel_rfl) (by repeat (first | exact trivial | refine ⟨⟨rfl, rfl⟩, ?_⟩ | refine ⟨trivial, ?_⟩)) ?_ | refine rgF (id := 23) (i := 0) 7 (by kernel_rfl) rfl ?_ | refine rgStore (id := 23) (i := 7) rfl rfl rfl rfl rfl rfl rfl rfl rfl rfl rfl (by repeat (first | exact trivial | refine ⟨⟨rfl, rfl⟩, ?_⟩ | refine ⟨trivial, ?_⟩)) ?_ | refine rgN ?_ | refine zS rfl ?_ | refine qA ?_ | refine qB rfl ?_ | refine qD ?_ | refine qE ?_ | refine qF ?_ | refine qG ?_ | refine qH rfl ?_ | refine qI (enc a) rfl (guardX_ok rfl) rfl rfl rfl rfl rfl rfl (by first | omega | decide) hx0 ?_ | refine qP rfl rfl rfl rfl rfl rfl b70 (h1) ?_ | refine qP rfl rfl rfl rfl rfl rfl b67 (hgv) ?_ | refine zT rfl ?_ | refine zU rfl ?_ | refine qL rfl rfl ?_ | exact zD)
    · skip
      obtain ⟨a, rfl⟩ := hun (hu (by omega))
      have hx0 : (encL [a])[(0 : Int).toNat]? = some (enc a) := rfl
      have h1 := unary_ev g env 4 v nm ds ks a (by omega)
      repeat' (first | refine qR0 (id := 23) [7] (by kernel_rfl) (by kernel_rfl) (by repeat (first | exact trivial | refine ⟨⟨rfl, rfl⟩, ?_⟩ | refine ⟨trivial, ?_⟩)) ?_ | refine rgF (id := 23) (i := 0) 7 (by kernel_rfl) rfl ?_ | refine rgStore (id := 23) (i := 7) rfl rfl rfl rfl rfl rfl rfl rfl rfl rfl rfl (by repeat (first | exact trivial | refine ⟨⟨rfl, rfl⟩, ?_⟩ | refine ⟨trivial, ?_⟩)) ?_ | refine rgN ?_ | refine zS rfl ?_ | refine qA ?_ | refine qB rfl ?_ | refine qD ?_ | refine qE ?_ | refine qF ?_ | refine qG ?_ | refine qH rfl ?_ | refine qI (enc a) rfl (guardX_ok rfl) rfl rfl rfl rfl rfl rfl (by first | omega | decide) hx0 ?_ | refine qP rfl rfl rfl rfl rfl rfl b70 (h1) ?_ | refine qP rfl rfl rfl rfl rfl rfl b67 (hgv) ?_ | refine zT rfl ?_ | refine zU rfl ?_ | refine qL rfl rfl ?_ | exact zD)
    · skip
      obtain ⟨a, rfl⟩ := hun (hu (by omega))
      have hx0 : (encL [a])[(0 : Int).toNat]? = some (enc a) := rfl
      have h1 := unary_ev g env 5 v nm ds ks a (by omega)
      repeat' (first | refine qR0 (id := 23) [7] (by kernel_rfl) (by kernel_rfl) (by repeat (first | exact trivial | refine ⟨⟨rfl, rfl⟩, ?_⟩ | refine ⟨trivial, ?_⟩)) ?_ | refine rgF (id := 23) (i := 0) 7 (by kernel_rfl) rfl ?_ | refine rgStore (id := 23) (i := 7) rfl rfl rfl rfl rfl rfl rfl rfl rfl rfl rfl (by repeat (first | exact trivial | refine ⟨⟨rfl, rfl⟩, ?_⟩ | refine ⟨trivial, ?_⟩)) ?_ | refine rgN ?_ | refine zS rfl ?_ | refine qA ?_ | refine qB rfl ?_ | refine qD ?_ | refine qE ?_ | refine qF ?_ | refine qG ?_ | refine qH rfl ?_ | refine qI (enc a) rfl (guardX_ok rfl) rfl rfl rfl rfl rfl rfl (by first | omega | decide) hx0 ?_ | refine qP rfl rfl rfl rfl rfl rfl b70 (h1) ?_ | refine qP rfl rfl rfl rfl rfl rfl b67 (hgv) ?_ | refine zT rfl ?_ | refine zU rfl ?_ | refine qL rfl rfl ?_ | exact zD)
    · skip
      obtain ⟨a, rfl⟩ := hun (hu (by omega))
      have hx0 : (encL [a])[(0 : Int).toNat]? = some (enc a) := rfl
      have h1 := unary_ev g env 6 v nm ds ks a (by omega)
      repeat' (first | refine qR0 (id := 23) [7] (by kernel_rfl) (by kernel_rfl) (by repeat (first | exact trivial | refine ⟨⟨rfl, rfl⟩, ?_⟩ | refine ⟨trivial, ?_⟩)) ?_ | refine rgF (id := 23) (i := 0) 7 (by kernel_rfl) rfl ?_ | refine rgStore (id := 23) (i := 7) rfl rfl rfl rfl rfl rfl rfl rfl rfl rfl rfl (by repeat (first | exact trivial | refine ⟨⟨rfl, rfl⟩, ?_⟩ | refine ⟨trivial, ?_⟩)) ?_ | refine rgN ?_ | refine zS rfl ?_ | refine qA ?_ | refine qB rfl ?_ | refine qD ?_ | refine qE ?_ | refine qF ?_ | refine qG ?_ | refine qH rfl ?_ | refine qI (enc a) rfl (guardX_ok rfl) rfl rfl rfl rfl rfl rfl (by first | omega | decide) hx0 ?_ | refine qP rfl rfl rfl rfl rfl rfl b70 (h1) ?_ | refine qP rfl rfl rfl rfl rfl rfl b67 (hgv) ?_ | refine zT rfl ?_ | refine zU rfl ?_ | refine qL rfl rfl ?_ | exact zD)
    · skip
      obtain ⟨a, b, rfl⟩ := hbi (hb (by omega))
      have hx0 : (encL [a, b])[(0 : Int).toNat]? = some (enc a) := rfl
      have hx1 : (encL [a, b])[(1 : Int).toNat]? = some (enc b) := rfl
      have h1 := binary_ev g env 7 v nm a b (by omega) (hLo a (by simp)) (hLo b (by simp))
      repeat' (first | refine qR0 (id := 24) [10] (by kernel_rfl) (by kernel_rfl) (by repeat (first | exact trivial | refine ⟨⟨rfl, rfl⟩, ?_⟩ | refine ⟨trivial, ?_⟩)) ?_ | refine rgF (id := 24) (i := 0) 10 (by kernel_rfl) rfl ?_ | refine rgStore (id := 24) (i := 10) rfl rfl rfl rfl rfl rfl rfl rfl rfl rfl rfl (by repeat (first | exact trivial | refine ⟨⟨rfl, rfl⟩, ?_⟩ | refine ⟨trivial, ?_⟩)) ?_ | refine rgN ?_ | refine zS rfl ?_ | refine qA ?_ | refine qB rfl ?_ | refine qD ?_ | refine qE ?_ | refine qF ?_ | refine qG ?_ | refine qH rfl ?_ | refine qI (enc a) rfl (guardX_ok rfl) rfl rfl rfl rfl rfl rfl (by first | omega | decide) hx0 ?_ | refine qI (enc b) rfl (guardX_ok rfl) rfl rfl rfl rfl rfl rfl (by first | omega | decide) hx1 ?_ | refine qP rfl rfl rfl rfl rfl rfl b71 (h1) ?_ | refine qP rfl rfl rfl rfl rfl rfl b67 (hgv) ?_ | refine zU rfl ?_ | refine qL rfl rfl ?_ | exact zD)
    · skip
      obtain ⟨a, b, rfl⟩ := hbi (hb (by omega))
      have hx0 : (encL [a, b])[(0 : Int).toNat]? = some (enc a) := rfl
      have hx1 : (encL [a, b])[(1 : Int).toNat]? = some (enc b) := rfl
      have h1 := binary_ev g env 8 v nm a b (by omega) (hLo a (by simp)) (hLo b (by simp))
      repeat' (first | refine qR0 (id := 24) [10] (by kernel_rfl) (by kernel_rfl) (by repeat (first | exact trivial | refine ⟨⟨rfl, rfl⟩, ?_⟩ | refine ⟨trivial, ?_⟩)) ?_ | refine rgF (id := 24) (i := 0) 10 (by kernel_rfl) rfl ?_ | refine rgStore (id := 24) (i := 10) rfl rfl rfl rfl rfl rfl rfl rfl rfl rfl rfl (by repeat (first | exact trivial | refine ⟨⟨rfl, rfl⟩, ?_⟩ | refine ⟨trivial, ?_⟩)) ?_ | refine rgN ?_ | refine zS rfl ?_ | refine qA ?_ | refine qB rfl ?_ | refine qD ?_ | refine qE ?_ | refine qF ?_ | refine qG ?_ | refine qH rfl ?_ | refine qI (enc a) rfl (guardX_ok rfl) rfl rfl rfl rfl rfl rfl (by first | omega | decide) hx0 ?_ | refine qI (enc b) rfl (guardX_ok rfl) rfl rfl rfl rfl rfl rfl (by first | omega | decide) hx1 ?_ | refine qP rfl rfl rfl rfl rfl rfl b71 (h1) ?_ | refine qP rfl rfl rfl rfl rfl rfl b67 (hgv) ?_ | refine zU rfl ?_ | refine qL rfl rfl ?_ | exact zD)
    · skip
      obtain ⟨a, b, rfl⟩ := hbi (hb (by omega))
      have hx0 : (encL [a, b])[(0 : Int).toNat]? = some (enc a) := rfl
      have hx1 : (encL [a, b])[(1 : Int).toNat]? = some (enc b) := rfl
      have h1 := binary_ev g env 9 v nm a b (by omega) (hLo a (by simp)) (hLo b (by simp))
      repeat' (first | refine qR0 (id := 24) [10] (by kernel_rfl) (by kernel_rfl) (by repeat (first | exact trivial | refine ⟨⟨rfl, rfl⟩, ?_⟩ | refine ⟨trivial, ?_⟩)) ?_ | refine rgF (id := 24) (i := 0) 10 (by kernel_rfl) rfl ?_ | refine rgStore (id := 24) (i := 10) rfl rfl rfl rfl rfl rfl rfl rfl rfl rfl rfl (by repeat (first | exact trivial | refine ⟨⟨rfl, rfl⟩, ?_⟩ | refine ⟨trivial, ?_⟩)) ?_ | refine rgN ?_ | refine zS rfl ?_ | refine qA ?_ | refine qB rfl ?_ | refine qD ?_ | refine qE ?_ | refine qF ?_ | refine qG ?_ | refine qH rfl ?_ | refine qI (enc a) rfl (guardX_ok rfl) rfl rfl rfl rfl rfl rfl (by first | omega | decide) hx0 ?_ | refine qI (enc b) rfl (guardX_ok rfl) rfl rfl rfl rfl rfl rfl (by first | omega | decide) hx1 ?_ | refine qP rfl rfl rfl rfl rfl rfl b71 (h1) ?_ | refine qP rfl rfl rfl rfl rfl rfl b67 (hgv) ?_ | refine zU rfl ?_ | refine qL rfl rfl ?_ | exact zD)
    · skip
      obtain ⟨a, b, rfl⟩ := hbi (hb (by omega))
      have hx0 : (encL [a, b])[(0 : Int).toNat]? = some (enc a) := rfl
      have hx1 : (encL [a, b])[(1 : Int).toNat]? = some (enc b) := rfl
      have h1 := binary_ev g env 10 v nm a b (by omega) (hLo a (by simp)) (hLo b (by simp))
      repeat' (first | refine qR0 (id := 24) [10] (by kernel_rfl) (by kernel_rfl) (by repeat (first | exact trivial | refine ⟨⟨rfl, rfl⟩, ?_⟩ | refine ⟨trivial, ?_⟩)) ?_ | refine rgF (id := 24) (i := 0) 10 (by kernel_rfl) rfl ?_ | refine rgStore (id := 24) (i := 10) rfl rfl rfl rfl rfl rfl rfl rfl rfl rfl rfl (by repeat (first | exact trivial | refine ⟨⟨rfl, rfl⟩, ?_⟩ | refine ⟨trivial, ?_⟩)) ?_ | refine rgN ?_ | refine zS rfl ?_ | refine qA ?_ | refine qB rfl ?_ | refine qD ?_ | refine qE ?_ | refine qF ?_ | refine qG ?_ | refine qH rfl ?_ | refine qI (enc a) rfl (guardX_ok rfl) rfl rfl rfl rfl rfl rfl (by first | omega | decide) hx0 ?_ | refine qI (enc b) rfl (guardX_ok rfl) rfl rfl rfl rfl rfl rfl (by first | omega | decide) hx1 ?_ | refine qP rfl rfl rfl rfl rfl rfl b71 (h1) ?_ | refine qP rfl rfl rfl rfl rfl rfl b67 (hgv) ?_ | refine zU rfl ?_ | refine qL rfl rfl ?_ | exact zD)
    · skip
      obtain ⟨a, b, rfl⟩ := hbi (hb (by omega))
      have hx0 : (encL [a, b])[(0 : Int).toNat]? = some (enc a) := rfl
      have hx1 : (encL [a, b])[(1 : Int).toNat]? = some (enc b) := rfl
      have h1 := binary_ev g env 11 v nm a b (by omega) (hLo a (by simp)) (hLo b (by simp))
      repeat' (first | refine qR0 (id := 24) [10] (by kernel_rfl) (by kernel_rfl) (by repeat (first | exact trivial | refine ⟨⟨rfl, rfl⟩, ?_⟩ | refine ⟨trivial, ?_⟩)) ?_ | refine rgF (id := 24) (i := 0) 10 (by kernel_rfl) rfl ?_ | refine rgStore (id := 24) (i := 10) rfl rfl rfl rfl rfl rfl rfl rfl rfl rfl rfl (by repeat (first | exact trivial | refine ⟨⟨rfl, rfl⟩, ?_⟩ | refine ⟨trivial, ?_⟩)) ?_ | refine rgN ?_ | refine zS rfl ?_ | refine qA ?_ | refine qB rfl ?_ | refine qD ?_ | refine qE ?_ | refine qF ?_ | refine qG ?_ | refine qH rfl ?_ | refine qI (enc a) rfl (guardX_ok rfl) rfl rfl rfl rfl rfl rfl (by first | omega | decide) hx0 ?_ | refine qI (enc b) rfl (guardX_ok rfl) rfl rfl rfl rfl rfl rfl (by first | omega | decide) hx1 ?_ | refine qP rfl rfl rfl rfl rfl rfl b71 (h1) ?_ | refine qP rfl rfl rfl rfl rfl rfl b67 (hgv) ?_ | refine zU rfl ?_ | refine qL rfl rfl ?_ | exact zD)
    · skip
      obtain ⟨a, b, rfl⟩ := hbi (hb (by omega))
      have hx0 : (encL [a, b])[(0 : Int).toNat]? = some (enc a) := rfl
      have hx1 : (encL [a, b])[(1 : Int).toNat]? = some (enc b) := rfl
      have h1 := binary_ev g env 12 v nm a b (by omega) (hLo a (by simp)) (hLo b (by simp))
      repeat' (first | refine qR0 (id := 24) [10] (by kernel_rfl) (by kernel_rfl) (by repeat (first | exact trivial | refine ⟨⟨rfl, rfl⟩, ?_⟩ | refine ⟨trivial, ?_⟩)) ?_ | refine rgF (id := 24) (i := 0) 10 (by kernel_rfl) rfl ?_ | refine rgStore (id := 24) (i := 10) rfl rfl rfl rfl rfl rfl rfl rfl rfl rfl rfl (by repeat (first | exact trivial | refine ⟨⟨rfl, rfl⟩, ?_⟩ | refine ⟨trivial, ?_⟩)) ?_ | refine rgN ?_ | refine zS rfl ?_ | refine qA ?_ | refine qB rfl ?_ | refine qD ?_ | refine qE ?_ | refine qF ?_ | refine qG ?_ | refine qH rfl ?_ | refine qI (enc a) rfl (guardX_ok rfl) rfl rfl rfl rfl rfl rfl (by first | omega | decide) hx0 ?_ | refine qI (enc b) rfl (guardX_ok rfl) rfl rfl rfl rfl rfl rfl (by first | omega | decide) hx1 ?_ | refine qP rfl rfl rfl rfl rfl rfl b71 (h1) ?_ | refine qP rfl rfl rfl rfl rfl rfl b67 (hgv) ?_ | refine zU rfl ?_ | refine qL rfl rfl ?_ | exact zD)
    · skip
      obtain ⟨a, b, rfl⟩ := hbi (hb (by omega))
      have hx0 : (encL [a, b])[(0 : Int).toNat]? = some (enc a) := rfl
      have hx1 : (encL [a, b])[(1 : Int).toNat]? = some (enc b) := rfl
      have h1 := binary_ev g env 13 v nm a b (by omega) (hLo a (by simp)) (hLo b (by simp))
      repeat' (first | refine qR0 (id := 24) [10] (by kernel_rfl) (by kernel_rfl) (by repeat (first | exact trivial | refine ⟨⟨rfl, rfl⟩, ?_⟩ | refine ⟨trivial, ?_⟩)) ?_ | refine rgF (id := 24) (i := 0) 10 (by kernel_rfl) rfl ?_ | refine rgStore (id := 24) (i := 10) rfl rfl rfl rfl rfl rfl rfl rfl rfl rfl rfl (by repeat (first | exact trivial | refine ⟨⟨rfl, rfl⟩, ?_⟩ | refine ⟨trivial, ?_⟩)) ?_ | refine rgN ?_ | refine zS rfl ?_ | refine qA ?_ | refine qB rfl ?_ | refine qD ?_ | refine qE ?_ | refine qF ?_ | refine qG ?_ | refine qH rfl ?_ | refine qI (enc a) rfl (guardX_ok rfl) rfl rfl rfl rfl rfl rfl (by first | omega | decide) hx0 ?_ | refine qI (enc b) rfl (guardX_ok rfl) rfl rfl rfl rfl rfl rfl (by first | omega | decide) hx1 ?_ | refine qP rfl rfl rfl rfl rfl rfl b71 (h1) ?_ | refine qP rfl rfl rfl rfl rfl rfl b67 (hgv) ?_ | refine zU rfl ?_ | refine qL rfl rfl ?_ | exact zD)
    · skip
      obtain ⟨a, b, rfl⟩ := hbi (hb (by omega))
      have hx0 : (encL [a, b])[(0 : Int).toNat]? = some (enc a) := rfl
      have hx1 : (encL [a, b])[(1 : Int).toNat]? = some (enc b) := rfl
      have h1 := binary_ev g env 14 v nm a b (by omega) (hLo a (by simp)) (hLo b (by simp))
      repeat' (first | refine qR0 (id := 24) [10] (by kernel_rfl) (by kernel_rfl) (by repeat (first | exact trivial | refine ⟨⟨rfl, rfl⟩, ?_⟩ | refine ⟨trivial, ?_⟩)) ?_ | refine rgF (id := 24) (i := 0) 10 (by kernel_rfl) rfl ?_ | refine rgStore (id := 24) (i := 10) rfl rfl rfl rfl rfl rfl rfl rfl rfl rfl rfl (by repeat (first | exact trivial | refine ⟨⟨rfl, rfl⟩, ?_⟩ | refine ⟨trivial, ?_⟩)) ?_ | refine rgN ?_ | refine zS rfl ?_ | refine qA ?_ | refine qB rfl ?_ | refine qD ?_ | refine qE ?_ | refine qF ?_ | refine qG ?_ | refine qH rfl ?_ | refine qI (enc a) rfl (guardX_ok rfl) rfl rfl rfl rfl rfl rfl (by first | omega | decide) hx0 ?_ | refine qI (enc b) rfl (guardX_ok rfl) rfl rfl rfl rfl rfl rfl (by first | omega | decide) hx1 ?_ | refine qP rfl rfl rfl rfl rfl rfl b71 (h1) ?_ | refine qP rfl rfl rfl rfl rfl rfl b67 (hgv) ?_ | refine zU rfl ?_ | refine qL rfl rfl ?_ | exact zD)
    · skip
      obtain ⟨a, b, rfl⟩ := hbi (hb (by omega))
      have hx0 : (encL [a, b])[(0 : Int).toNat]? = some (enc a) := rfl
      have hx1 : (encL [a, b])[(1 : Int).toNat]? = some (enc b) := rfl
      have h1 := binary_ev g env 15 v nm a b (by omega) (hLo a (by simp)) (hLo b (by simp))
      repeat' (first | refine qR0 (id := 24) [10] (by kernel_rfl) (by kernel_rfl) (by repeat (first | exact trivial | refine ⟨⟨rfl, rfl⟩, ?_⟩ | refine ⟨trivial, ?_⟩)) ?_ | refine rgF (id := 24) (i := 0) 10 (by kernel_rfl) rfl ?_ | refine rgStore (id := 24) (i := 10) rfl rfl rfl rfl rfl rfl rfl rfl rfl rfl rfl (by repeat (first | exact trivial | refine ⟨⟨rfl, rfl⟩, ?_⟩ | refine ⟨trivial, ?_⟩)) ?_ | refine rgN ?_ | refine zS rfl ?_ | refine qA ?_ | refine qB rfl ?_ | refine qD ?_ | refine qE ?_ | refine qF ?_ | refine qG ?_ | refine qH rfl ?_ | refine qI (enc a) rfl (guardX_ok rfl) rfl rfl rfl rfl rfl rfl (by first | omega | decide) hx0 ?_ | refine qI (enc b) rfl (guardX_ok rfl) rfl rfl rfl rfl rfl rfl (by first | omega | decide) hx1 ?_ | refine qP rfl rfl rfl rfl rfl rfl b71 (h1) ?_ | refine qP rfl rfl rfl rfl rfl rfl b67 (hgv) ?_ | refine zU rfl ?_ | refine qL rfl rfl ?_ | exact zD)
    · skip
      obtain ⟨a, b, rfl⟩ := hbi (hb (by omega))
      have hx0 : (encL [a, b])[(0 : Int).toNat]? = some (enc a) := rfl
      have hx1 : (encL [a, b])[(1 : Int).toNat]? = some (enc b) := rfl
      have h1 := binary_ev g env 16 v nm a b (by omega) (hLo a (by simp)) (hLo b (by simp))
      repeat' (first | refine qR0 (id := 24) [10] (by kernel_rfl) (by kernel_rfl) (by repeat (first | exact trivial | refine ⟨⟨rfl, rfl⟩, ?_⟩ | refine ⟨trivial, ?_⟩)) ?_ | refine rgF (id := 24) (i := 0) 10 (by kernel_rfl) rfl ?_ | refine rgStore (id := 24) (i := 10) rfl rfl rfl rfl rfl rfl rfl rfl rfl rfl rfl (by repeat (first | exact trivial | refine ⟨⟨rfl, rfl⟩, ?_⟩ | refine ⟨trivial, ?_⟩)) ?_ | refine rgN ?_ | refine zS rfl ?_ | refine qA ?_ | refine qB rfl ?_ | refine qD ?_ | refine qE ?_ | refine qF ?_ | refine qG ?_ | refine qH rfl ?_ | refine qI (enc a) rfl (guardX_ok rfl) rfl rfl rfl rfl rfl rfl (by first | omega | decide) hx0 ?_ | refine qI (enc b) rfl (guardX_ok rfl) rfl rfl rfl rfl rfl rfl (by first | omega | decide) hx1 ?_ | refine qP rfl rfl rfl rfl rfl rfl b71 (h1) ?_ | refine qP rfl rfl rfl rfl rfl rfl b67 (hgv) ?_ | refine zU rfl ?_ | refine qL rfl rfl ?_ | exact zD)
    · skip
      obtain ⟨a, b, rfl⟩ := hbi (hb (by omega))
      have hx0 : (encL [a, b])[(0 : Int).toNat]? = some (enc a) := rfl
      have hx1 : (encL [a, b])[(1 : Int).toNat]? = some (enc b) := rfl
      have h1 := binary_ev g env 17 v nm a b (by omega) (hLo a (by simp)) (hLo b (by simp))
      repeat' (first | refine qR0 (id := 24) [10] (by kernel_rfl) (by kernel_rfl) (by repeat (first | exact trivial | refine ⟨⟨rfl, rfl⟩, ?_⟩ | refine ⟨trivial, ?_⟩)) ?_ | refine rgF (id := 24) (i := 0) 10 (by kernel_rfl) rfl ?_ | refine rgStore (id := 24) (i := 10) rfl rfl rfl rfl rfl rfl rfl rfl rfl rfl rfl (by repeat (first | exact trivial | refine ⟨⟨rfl, rfl⟩, ?_⟩ | refine ⟨trivial, ?_⟩)) ?_ | refine rgN ?_ | refine zS rfl ?_ | refine qA ?_ | refine qB rfl ?_ | refine qD ?_ | refine qE ?_ | refine qF ?_ | refine qG ?_ | refine qH rfl ?_ | refine qI (enc a) rfl (guardX_ok rfl) rfl rfl rfl rfl rfl rfl (by first | omega | decide) hx0 ?_ | refine qI (enc b) rfl (guardX_ok rfl) rfl rfl rfl rfl rfl rfl (by first | omega | decide) hx1 ?_ | refine qP rfl rfl rfl rfl rfl rfl b71 (h1) ?_ | refine qP rfl rfl rfl rfl rfl rfl b67 (hgv) ?_ | refine zU rfl ?_ | refine qL rfl rfl ?_ | exact zD)
    · skip
      obtain ⟨a, b, rfl⟩ := hbi (hb (by omega))
      have hx0 : (encL [a, b])[(0 : Int).toNat]? = some (enc a) := rfl
      have hx1 : (encL [a, b])[(1 : Int).toNat]? = some (enc b) := rfl
      have h1 := binary_ev g env 18 v nm a b (by omega) (hLo a (by simp)) (hLo b (by simp))
      repeat' (first | refine qR0 (id := 24) [10] (by kernel_rfl) (by kernel_rfl) (by repeat (first | exact trivial | refine ⟨⟨rfl, rfl⟩, ?_⟩ | refine ⟨trivial, ?_⟩)) ?_ | refine rgF (id := 24) (i := 0) 10 (by kernel_rfl) rfl ?_ | refine rgStore (id := 24) (i := 10) rfl rfl rfl rfl rfl rfl rfl rfl rfl rfl rfl (by repeat (first | exact trivial | refine ⟨⟨rfl, rfl⟩, ?_⟩ | refine ⟨trivial, ?_⟩)) ?_ | refine rgN ?_ | refine zS rfl ?_ | refine qA ?_ | refine qB rfl ?_ | refine qD ?_ | refine qE ?_ | refine qF ?_ | refine qG ?_ | refine qH rfl ?_ | refine qI (enc a) rfl (guardX_ok rfl) rfl rfl rfl rfl rfl rfl (by first | omega | decide) hx0 ?_ | refine qI (enc b) rfl (guardX_ok rfl) rfl rfl rfl rfl rfl rfl (by first | omega | decide) hx1 ?_ | refine qP rfl rfl rfl rfl rfl rfl b71 (h1) ?_ | refine qP rfl rfl rfl rfl rfl rfl b67 (hgv) ?_ | refine zU rfl ?_ | refine qL rfl rfl ?_ | exact zD)
    · skip
      obtain ⟨a, b, rfl⟩ := hbi (hb (by omega))
      have hx0 : (encL [a, b])[(0 : Int).toNat]? = some (enc a) := rfl
      have hx1 : (encL [a, b])[(1 : Int).toNat]? = some (enc b) := rfl
      have h1 := binary_ev g env 19 v nm a b (by omega) (hLo a (by simp)) (hLo b (by simp))
      repeat' (first | refine qR0 (id := 24) [10] (by kernel_rfl) (by kernel_rfl) (by repeat (first | exact trivial | refine ⟨⟨rfl, rfl⟩, ?_⟩ | refine ⟨trivial, ?_⟩)) ?_ | refine rgF (id := 24) (i := 0) 10 (by kernel_rfl) rfl ?_ | refine rgStore (id := 24) (i := 10) rfl rfl rfl rfl rfl rfl rfl rfl rfl rfl rfl (by repeat (first | exact trivial | refine ⟨⟨rfl, rfl⟩, ?_⟩ | refine ⟨trivial, ?_⟩)) ?_ | refine rgN ?_ | refine zS rfl ?_ | refine qA ?_ | refine qB rfl ?_ | refine qD ?_ | refine qE ?_ | refine qF ?_ | refine qG ?_ | refine qH rfl ?_ | refine qI (enc a) rfl (guardX_ok rfl) rfl rfl rfl rfl rfl rfl (by first | omega | decide) hx0 ?_ | refine qI (enc b) rfl (guardX_ok rfl) rfl rfl rfl rfl rfl rfl (by first | omega | decide) hx1 ?_ | refine qP rfl rfl rfl rfl rfl rfl b71 (h1) ?_ | refine qP rfl rfl rfl rfl rfl rfl b67 (hgv) ?_ | refine zU rfl ?_ | refine qL rfl rfl ?_ | exact zD)
    · skip
      obtain ⟨a, b, rfl⟩ := hbi (hb (by omega))
      have hx0 : (encL [a, b])[(0 : Int).toNat]? = some (enc a) := rfl
      have hx1 : (encL [a, b])[(1 : Int).toNat]? = some (enc b) := rfl
      have h1 := binary_ev g env 20 v nm a b (by omega) (hLo a (by simp)) (hLo b (by simp))
      repeat' (first | refine qR0 (id := 24) [10] (by kernel_rfl) (by kernel_rfl) (by repeat (first | exact trivial | refine ⟨⟨rfl, rfl⟩, ?_⟩ | refine ⟨trivial, ?_⟩)) ?_ | refine rgF (id := 24) (i := 0) 10 (by kernel_rfl) rfl ?_ | refine rgStore (id := 24) (i := 10) rfl rfl rfl rfl rfl rfl rfl rfl rfl rfl rfl (by repeat (first | exact trivial | refine ⟨⟨rfl, rfl⟩, ?_⟩ | refine ⟨trivial, ?_⟩)) ?_ | refine rgN ?_ | refine zS rfl ?_ | refine qA ?_ | refine qB rfl ?_ | refine qD ?_ | refine qE ?_ | refine qF ?_ | refine qG ?_ | refine qH rfl ?_ | refine qI (enc a) rfl (guardX_ok rfl) rfl rfl rfl rfl rfl rfl (by first | omega | decide) hx0 ?_ | refine qI (enc b) rfl (guardX_ok rfl) rfl rfl rfl rfl rfl rfl (by first | omega | decide) hx1 ?_ | refine qP rfl rfl rfl rfl rfl rfl b71 (h1) ?_ | refine qP rfl rfl rfl rfl rfl rfl b67 (hgv) ?_ | refine zU rfl ?_ | refine qL rfl rfl ?_ | exact zD)
    · skip
      obtain ⟨a, rfl⟩ := hun (hu (by omega))
      have hx0 : (encL [a])[(0 : Int).toNat]? = some (enc a) := rfl
      have h1 := unary_ev g env 21 v nm ds ks a (by omega)
      repeat' (first | refine qR0 (id := 23) [7] (by kernel_rfl) (by kernel_rfl) (by repeat (first | exact trivial | refine ⟨⟨rfl, rfl⟩, ?_⟩ | refine ⟨trivial, ?_⟩)) ?_ | refine rgF (id := 23) (i := 0) 7 (by kernel_rfl) rfl ?_ | refine rgStore (id := 23) (i := 7) rfl rfl rfl rfl rfl rfl rfl rfl rfl rfl rfl (by repeat (first | exact trivial | refine ⟨⟨rfl, rfl⟩, ?_⟩ | refine ⟨trivial, ?_⟩)) ?_ | refine rgN ?_ | refine zS rfl ?_ | refine qA ?_ | refine qB rfl ?_ | refine qD ?_ | refine qE ?_ | refine qF ?_ | refine qG ?_ | refine qH rfl ?_ | refine qI (enc a) rfl (guardX_ok rfl) rfl rfl rfl rfl rfl rfl (by first | omega | decide) hx0 ?_ | refine qP rfl rfl rfl rfl rfl rfl b70 (h1) ?_ | refine qP rfl rfl rfl rfl rfl rfl b67 (hgv) ?_ | refine zT rfl ?_ | refine zU rfl ?_ | refine qL rfl rfl ?_ | exact zD)
    · skip
      have h1 := rlist_ev2 l (nar_list hmax fun x hx => okV_nar (hLo x hx))
      rw [show apF g env 22 v nm l = vList l from rfl] at hgv ⊢
      repeat' (first | refine zS rfl ?_ | refine qA ?_ | refine qB rfl ?_ | refine qD ?_ | refine qF ?_ | refine qH rfl ?_ | refine qP rfl rfl rfl rfl rfl rfl b68 (h1) ?_ | refine qP rfl rfl rfl rfl rfl rfl b67 (hgv) ?_ | refine zT rfl ?_ | refine zU rfl ?_ | refine qL rfl rfl ?_ | exact zD)
    · skip
      have h1 := rfunction_ev g nm l hg (hfn rfl)
      rw [show apF g env 23 v nm l = fnF g nm l from rfl] at hgv ⊢
      repeat' (first | refine zS rfl ?_ | refine qA ?_ | refine qB rfl ?_ | refine qD ?_ | refine qF ?_ | refine qH rfl ?_ | refine qP rfl rfl rfl rfl rfl rfl b69 (h1) ?_ | refine qP rfl rfl rfl rfl rfl rfl b67 (hgv) ?_ | refine zT rfl ?_ | refine zU rfl ?_ | refine qL rfl rfl ?_ | exact zD)
    · skip
      rw [show apF g env 24 v nm l = vNull from rfl] at hgv ⊢
      rw [giv_null]
      repeat' (first | refine zS rfl ?_ | refine qA ?_ | refine qB rfl ?_ | refine qD ?_ | refine qF ?_ | refine qH rfl ?_ | refine qP rfl rfl rfl rfl rfl rfl b36 (rnull_ev) ?_ | refine zT rfl ?_ | refine zU rfl ?_ | refine qL rfl rfl ?_ | exact zD)
theorem REval_ev (g : Gr) (env : List Bd) (e : Ex) (h : EvOK g env e) : Ev E 12 [encGr g, encE e, .sl (env.map encBd)] (.d (enc (valF g env e))) := by
  obtain ⟨hg, henv, hd, hn, hok⟩ := h
  have hc := rcheck_ev e hd hn
  unfold valF
  cases hz : chkF e != 0 with
  | true =>
    refine enter3 Tryz.func12 Tryz.ntmps12 rfl rfl fun w0 F0 O => ?_
    repeat' (first | refine zS rfl ?_ | refine qA ?_ | refine qB rfl ?_ | refine qD ?_ | refine qP rfl rfl rfl rfl rfl rfl b17 (hc) ?_ | refine qP rfl rfl rfl rfl rfl rfl b36 (rnull_ev) ?_ | refine zT rfl ?_ | refine qL rfl rfl ?_ | exact zD)
  | false =>
    have hv := reval_ev g env hg henv e (hok (by simpa using hz))
    refine enter3 Tryz.func12 Tryz.ntmps12 rfl rfl fun w0 F0 O => ?_
    repeat' (first | refine zS rfl ?_ | refine qA ?_ | refine qB rfl ?_ | refine qD ?_ | refine qE ?_ | refine qP rfl rfl rfl rfl rfl rfl b17 (hc) ?_ | refine qP rfl rfl rfl rfl rfl rfl b37 (hv) ?_ | refine zU rfl ?_ | refine qL rfl rfl ?_ | exact zD)
theorem RTest_ev (g : Gr) (env : List Bd) (e : Ex) (h : EvOK g env e) : Ev E 15 [encGr g, encE e, .sl (env.map encBd)] (.d (.int (truthF (valF g env e)))) := by
  have h1 := REval_ev g env e h
  have h2 := RTruth_ev (valF g env e)
  refine enter3 Tryz.func15 Tryz.ntmps15 rfl rfl fun w0 F0 O => ?_
  repeat' (first | refine zS rfl ?_ | refine qA ?_ | refine qB rfl ?_ | refine qD ?_ | refine qP rfl rfl rfl rfl rfl rfl b12 (h1) ?_ | refine qP rfl rfl rfl rfl rfl rfl b18 (h2) ?_ | refine qL rfl rfl ?_ | exact zD)
end Go.Proofs.YthieohigmpfknaaGreatDoor
