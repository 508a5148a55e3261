/- Numbers and strings as text, by both texts. Conditions: the bounds of each lemma. -/
import Derived.Test.YtpjnngfjbcjikaaDoorM18
import Derived.Test.YtpjnngfjbcjikaaDoorEng16
import Derived.Lib.ReplaceLaws
namespace Go.Proofs.YtpjnngfjbcjikaaDoor
open Go Go.Abs Go.Val Go.RowKit

/-- A string of these bytes. -/
def bs (l : List UInt8) : ByteArray := ⟨l.toArray⟩
theorem bs_append (a b : List UInt8) : bs a ++ bs b = bs (a ++ b) := by
  apply ByteArray.ext
  simp [bs, ByteArray.data_append]
theorem bs_list (s : ByteArray) : bs s.data.toList = s := by
  cases s
  simp [bs]
theorem bs_size (l : List UInt8) : (bs l).size = l.length := by simp [bs, ByteArray.size]
theorem bs_data (l : List UInt8) : (bs l).data.toList = l := by simp [bs]
theorem strOf_one (n : Int) : strOf [n] = bs [UInt8.ofNat n.toNat] := rfl
/-- The digits of a number; none for 0. -/
def dd (u : Nat) : List UInt8 := if u = 0 then [] else Lib.decDigits u
theorem dd_step {u : Nat} (h : u ≠ 0) : dd u = dd (u / 10) ++ [UInt8.ofNat (48 + u % 10)] := by
  unfold dd
  rw [if_neg h, Lib.decDigits]
  by_cases h10 : u < 10
  · rw [dif_pos h10, if_pos (by omega), List.nil_append, Nat.mod_eq_of_lt h10]
  · rw [dif_neg h10, if_neg (by omega)]
theorem dd_len {u : Nat} (h : u < 18446744073709551616) : (dd u).length ≤ 20 := by
  unfold dd
  split
  · simp
  · rw [Lib.decDigits_length]; exact Lib.nDigits_le20 u h
structure ST (n : Int) where
  m : Int
  s : List UInt8
  hm : m.natAbs ≤ n.natAbs
  hs : dd n.natAbs = dd m.natAbs ++ s
end Go.Proofs.YtpjnngfjbcjikaaDoor
namespace Go.Proofs.YtpjnngfjbcjikaaDoor
open Go Go.Abs Go.Val Go.RowKit
attribute [local irreducible] go SGo HasBody Ev ExtEv
/-- A string with each quote doubled. -/
def dbl (l : List UInt8) : List UInt8 := l.flatMap fun b => bif b == 39 then [39, 39] else [b]
theorem dbl_len : ∀ l : List UInt8, (dbl l).length ≤ 2 * l.length
  | [] => by simp [dbl]
  | b :: r => by
    have := dbl_len r
    have e : dbl (b :: r) = (bif b == 39 then [39, 39] else [b]) ++ dbl r := rfl
    rw [e, List.length_append, List.length_cons]
    cases b == 39 <;> simp <;> omega
structure SD1 (l : List UInt8) where
  i : Nat
  s : List UInt8
  hi : i ≤ l.length
  hs : s ++ dbl (l.drop i) = dbl l
theorem replaceK_dbl : ∀ l : List UInt8, Lib.replaceK [39] [39, 39] (Lib.count l [39]) l = dbl l
  | [] => rfl
  | b :: l => by
    have ih := replaceK_dbl l
    by_cases hb : b = 39
    · subst hb
      have hidx : Lib.index (39 :: l) [39] = ((0 : Nat) : Int) := rfl
      rw [Lib.count_cons_eq, Nat.add_comm, Lib.replaceK_hit _ _ _ _ _ hidx]
      show [] ++ [39, 39] ++ Lib.replaceK [39] [39, 39] (Lib.count l [39]) l = _
      rw [ih]
      rfl
    · have e : dbl (b :: l) = b :: dbl l := by
        show (bif b == 39 then [39, 39] else [b]) ++ dbl l = _
        rw [beq_eq_false_iff_ne.2 hb]
        rfl
      rw [Lib.count_cons_ne b 39 l hb, e]
      cases hc : Lib.count l [39] with
      | zero =>
        rw [hc] at ih
        have : l = dbl l := ih
        show b :: l = b :: dbl l
        rw [← this]
      | succ k =>
        obtain ⟨i, hi⟩ := Lib.index_of_count (s := l) (old := [39]) (by omega)
        have hidx : Lib.index (b :: l) [39] = ((i + 1 : Nat) : Int) := by
          have hp : ([39] : List UInt8).isPrefixOf (b :: l) = false := by
            simp [List.isPrefixOf]
            exact fun h => hb h.symm
          rw [Lib.index, hp, hi]
          have : ((i : Int) == -1) = false := by simp
          rw [this]
          rfl
        rw [hc, Lib.replaceK_hit _ _ _ _ _ hi] at ih
        rw [Lib.replaceK_hit _ _ _ _ _ hidx, ← ih]
        simp only [List.take_succ_cons, List.length_cons, List.length_nil, List.cons_append]
        rw [show i + 1 + (0 + 1) = (i + (0 + 1)) + 1 by omega, List.drop_succ_cons]
theorem replace_dbl (l : List UInt8) : Lib.replaceAll l [39] [39, 39] = dbl l := by
  rw [Lib.replaceAll, Lib.replace, if_neg (by decide), Lib.replaceNum, if_pos (.inl (by omega))]
  exact replaceK_dbl l
theorem of_lib3 {f : FuncId} {a b c r : Value} (hok : Go.Abs.okV r = true) (h : ∀ (w : World) (F : Nat → Prop), E.GI w F → Go.Abs.okV a = true → Go.Abs.okV b = true → Go.Abs.okV c = true → Calls E.P f #[a, b, c] w fun e w' => e = .returned r ∧ Below w.heap.size w w') : Ev E f [.imm a, .imm b, .imm c] (.d (.imm r)) := by
  refine of_lib hok fun w F vs hG hl hr => ?_
  match vs, hl with
  | [v, u, t], _ =>
    obtain ⟨rfl, hk⟩ := Rd.imm_inv (hr 0 _ v rfl rfl)
    obtain ⟨rfl, hk'⟩ := Rd.imm_inv (hr 1 _ u rfl rfl)
    obtain ⟨rfl, hk''⟩ := Rd.imm_inv (hr 2 _ t rfl rfl)
    exact h w F hG hk hk' hk''
theorem replaceAll_ev (s : ByteArray) (hs : s.size ≤ 1000000000) : Ev E 31 [.str s, .str ⟨#[39]⟩, .str ⟨#[39, 39]⟩] (.d (.str (bs (dbl s.data.toList)))) := by
  have hl : s.data.toList.length = s.size := by simp
  have hd2 := dbl_len s.data.toList
  refine of_lib3 ?_ fun w F hG _ _ _ => ?_
  · simp only [Go.Abs.okV, decide_eq_true_eq, bs_size, maxLen]
    omega
  · obtain ⟨-, -, m, hm⟩ := hG.2
    have hcnt := Lib.countB_mul_le ⟨#[39]⟩ (by decide) s.size s (Nat.le_refl _)
    have h1 : (⟨#[39]⟩ : ByteArray).size = 1 := rfl
    have h2 : (⟨#[39, 39]⟩ : ByteArray).size = 2 := rfl
    rw [h1, Nat.mul_one] at hcnt
    refine (Tryd.strings_ReplaceAll s ⟨#[39]⟩ ⟨#[39, 39]⟩ m w (by omega) hm (by decide) (by rw [h2]; omega)).mono ?_
    rintro e w' ⟨rfl, hb⟩
    refine ⟨?_, hb⟩
    show Ending.returned (.string (bs (Lib.replaceAll s.data.toList [39] [39, 39]))) = _
    rw [replace_dbl]
/-- A fraction as text. -/
def ftxt (n d : Int) : List UInt8 := bif fval n d then (bif d == 1 then Lib.itoa n else Lib.itoa n ++ [47] ++ Lib.itoa d) else []
theorem itoa_len {n : Int} (h : inR .i64 n) : (Lib.itoa n).length ≤ 21 := Lib.itoa_length_le n h.1 h.2
theorem fText_ev (n d : Int) : Ev E 30 [.agg [.int n, .int d]] (.d (.str (bs (ftxt n d)))) := Ev.fit fun hfit => by
  have hn := itoa_len ((hfit _ (List.mem_cons_self)).aggs (.int n) (by simp)).int
  have hd := itoa_len ((hfit _ (List.mem_cons_self)).aggs (.int d) (by simp)).int
  have hv := fvalid_ev n d
  unfold ftxt
  cases hf : fval n d with
  | false =>
    rw [hf] at hv
    show Ev E _ _ (.d (.str ⟨#[]⟩))
    refine enter1 Tryd.func30 Tryd.ntmps30 rfl rfl fun w0 F0 => ?_
    repeat' (first | (refine qS rfl ?_ ?_; (first | exact True.intro | rfl | assumption | omega | (simp only [inR]; omega) | ((show _ ≤ (9223372036854775807 : Nat)); (try simp only [ByteArray.size_append]); omega) | exact tmod_ok (by omega) (by omega) | exact tdiv_ok (by omega) (by omega) | exact ⟨rfl, by decide, by decide⟩)) | refine qA ?_ | refine qB rfl ?_ | refine qC (by kernel_rfl) ?_ | refine qD ?_ | refine qE ?_ | refine qF ?_ | refine qG ?_ | refine qH rfl ?_ | refine qP rfl rfl rfl rfl rfl rfl b43 (hv) ?_ | (refine qT rfl ?_ ?_; (first | rfl | assumption)) | (refine qU rfl ?_ ?_; (first | rfl | assumption)) | refine qL rfl rfl ?_ | refine qM rfl rfl rfl ?_ | refine qO rfl rfl rfl ?_ | refine qX (b' := true) rfl rfl rfl rfl (by assumption) ?_ | refine qX (b' := false) rfl rfl rfl rfl (by assumption) ?_ | (refine qY rfl rfl rfl rfl ?_ ?_ <;> intro _) | exact (rfl : (_ : D) = _) | exact (rfl : (_ : List D) = _))
  | true =>
    rw [hf] at hv
    cases h1 : d == 1 with
    | true =>
      refine enter1 Tryd.func30 Tryd.ntmps30 rfl rfl fun w0 F0 => ?_
      repeat' (first | (refine qS rfl ?_ ?_; (first | exact True.intro | rfl | assumption | omega | (simp only [inR]; omega) | ((show _ ≤ (9223372036854775807 : Nat)); (try simp only [ByteArray.size_append]); omega) | exact tmod_ok (by omega) (by omega) | exact tdiv_ok (by omega) (by omega) | exact ⟨rfl, by decide, by decide⟩)) | refine qA ?_ | refine qB rfl ?_ | refine qC (by kernel_rfl) ?_ | refine qD ?_ | refine qE ?_ | refine qF ?_ | refine qG ?_ | refine qH rfl ?_ | refine qP rfl rfl rfl rfl rfl rfl b43 (hv) ?_ | refine qP rfl rfl rfl rfl rfl rfl b29 (itoa_ev n) ?_ | (refine qT rfl ?_ ?_; (first | rfl | assumption)) | (refine qU rfl ?_ ?_; (first | rfl | assumption)) | refine qL rfl rfl ?_ | refine qM rfl rfl rfl ?_ | refine qO rfl rfl rfl ?_ | refine qX (b' := true) rfl rfl rfl rfl (by assumption) ?_ | refine qX (b' := false) rfl rfl rfl rfl (by assumption) ?_ | (refine qY rfl rfl rfl rfl ?_ ?_ <;> intro _) | exact (rfl : (_ : D) = _) | exact (rfl : (_ : List D) = _))
    | false =>
      have e : bs (Lib.itoa n ++ [47] ++ Lib.itoa d) = ⟨(Lib.itoa n).toArray⟩ ++ ⟨#[47]⟩ ++ ⟨(Lib.itoa d).toArray⟩ := by
        rw [← bs_append, ← bs_append]
        rfl
      simp only [cond_true, cond_false]
      rw [e]
      have z1 : (⟨(Lib.itoa n).toArray⟩ : ByteArray).size ≤ 21 := by show (bs (Lib.itoa n)).size ≤ 21; rw [bs_size]; exact hn
      have z2 : (⟨(Lib.itoa d).toArray⟩ : ByteArray).size ≤ 21 := by show (bs (Lib.itoa d)).size ≤ 21; rw [bs_size]; exact hd
      have z3 : (⟨#[47]⟩ : ByteArray).size = 1 := rfl
      refine enter1 Tryd.func30 Tryd.ntmps30 rfl rfl fun w0 F0 => ?_
      repeat' (first | (refine qS rfl ?_ ?_; (first | exact True.intro | rfl | assumption | omega | (simp only [inR]; omega) | ((show _ ≤ (9223372036854775807 : Nat)); (try simp only [ByteArray.size_append]); omega) | exact tmod_ok (by omega) (by omega) | exact tdiv_ok (by omega) (by omega) | exact ⟨rfl, by decide, by decide⟩)) | refine qA ?_ | refine qB rfl ?_ | refine qC (by kernel_rfl) ?_ | refine qD ?_ | refine qE ?_ | refine qF ?_ | refine qG ?_ | refine qH rfl ?_ | refine qP rfl rfl rfl rfl rfl rfl b43 (hv) ?_ | refine qP (d := 16) rfl rfl rfl rfl rfl rfl b29 (itoa_ev n) ?_ | refine qP rfl rfl rfl rfl rfl rfl b29 (itoa_ev d) ?_ | (refine qT rfl ?_ ?_; (first | rfl | assumption)) | (refine qU rfl ?_ ?_; (first | rfl | assumption)) | refine qL rfl rfl ?_ | refine qM rfl rfl rfl ?_ | refine qO rfl rfl rfl ?_ | refine qX (b' := true) rfl rfl rfl rfl (by assumption) ?_ | refine qX (b' := false) rfl rfl rfl rfl (by assumption) ?_ | (refine qY rfl rfl rfl rfl ?_ ?_ <;> intro _) | exact (rfl : (_ : D) = _) | exact (rfl : (_ : List D) = _))
end Go.Proofs.YtpjnngfjbcjikaaDoor
