/- Which values are valid: the flat kinds, of the program and of the specification. Conditions: none. -/
import Derived.Test.YtpjnngfjbcjikaaGreatDoorM1
import Derived.Test.YtpjnngfjbcjikaaGreatDoorM2
namespace Go.Proofs.YtpjnngfjbcjikaaGreatDoor
open Go Go.Abs Go.Val
attribute [local irreducible] go SGo HasBody Ev

def l0 (v : V) : Bool := ((kids v).length : Int) == 0
theorem l0_eq (v : V) : l0 v = (v.l.length == 0) := by
  unfold l0
  rw [kids_len]
  cases v.l with
  | nil => rfl
  | cons a r =>
    simp only [List.length_cons]
    rw [beq_eq_false_iff_ne.2 (by omega), beq_eq_false_iff_ne.2 (by omega)]
def bareF (v : V) (n d s l : Bool) : Bool := (n || v.n == 0) && ((d || v.d == 0) && ((s || s0 v.s) && (l || l0 v)))
theorem bare_ev (v : V) (n d s l : Bool) : Ev E 112 [enc v, .bool n, .bool d, .bool s, .bool l] (.d (.bool (bareF v n d s l))) := by
  cases n <;> cases d <;> cases s <;> cases l <;> (
  refine enter5 Tryz.func112 Tryz.ntmps112 rfl rfl fun w0 F0 => ?_
  repeat' (first | (refine qS rfl ?_ ?_; (first | exact True.intro | rfl | assumption | omega | (simp only [inR]; omega) | ((show _ ≤ (9223372036854775807 : Nat)); (try simp only [ByteArray.size_append]); omega) | exact tmod_ok (by omega) (by omega) | exact tdiv_ok (by omega) (by omega) | exact ⟨rfl, by decide, by decide⟩)) | refine qA ?_ | refine qB rfl ?_ | refine qC (by kernel_rfl) ?_ | refine qD ?_ | refine qE ?_ | refine qF ?_ | refine qG ?_ | refine qH rfl ?_ | (refine qT rfl ?_ ?_; (first | rfl | assumption)) | (refine qU rfl ?_ ?_; (first | rfl | assumption)) | refine qL rfl rfl ?_ | refine qM rfl rfl rfl ?_ | refine qO rfl rfl rfl ?_ | refine qX (b' := true) rfl rfl rfl rfl (by assumption) ?_ | refine qX (b' := false) rfl rfl rfl rfl (by assumption) ?_ | (refine qY rfl rfl rfl rfl ?_ ?_ <;> intro _) | (refine qV rfl ?_ ?_ <;> intro _) | exact (rfl : (_ : D) = _) | exact (rfl : (_ : List D) = _))
  all_goals (refine congrArg D.bool ?_; simp_all [bareF, s0, l0]))
def cOK (b : UInt8) : Bool := !(decide (b.toNat < 32) || decide (b.toNat > 126))
theorem cOK_at {s : ByteArray} {i : Nat} (h : i < s.size) : ∃ b, s.data.toList[i]? = some b ∧ byteAt s i = (b.toNat : Int) := by
  have hl : i < s.data.toList.length := by simpa using h
  refine ⟨s.data.toList[i], List.getElem?_eq_getElem hl, ?_⟩
  unfold byteAt
  rw [List.getD_eq_getElem?_getD, List.getElem?_eq_getElem hl]
  rfl
/-- The state of a loop over a string whose bytes so far are fit. -/
structure SI (s : ByteArray) where
  i : Nat
  hi : i ≤ s.size
  ok : ∀ (j : Nat) b, j < i → s.data.toList[j]? = some b → cOK b = true
theorem chars_ev (s : ByteArray) : Ev E 114 [.str s] (.d (.bool (strOK s))) := Ev.fit fun hfit => by
  have hs := (hfit (.str s) (by simp)).str
  refine enter1 Tryz.func114 Tryz.ntmps114 rfl rfl fun w0 F0 => ?_
  repeat' (first | (refine qS rfl ?_ ?_; (first | exact True.intro | rfl | assumption | omega | (simp only [inR]; omega) | ((show _ ≤ (9223372036854775807 : Nat)); (try simp only [ByteArray.size_append]); omega) | exact tmod_ok (by omega) (by omega) | exact tdiv_ok (by omega) (by omega) | exact ⟨rfl, by decide, by decide⟩)) | refine qA ?_ | refine qB rfl ?_ | refine qC (by kernel_rfl) ?_ | refine qD ?_ | refine qE ?_ | refine qF ?_ | refine qG ?_ | refine qH rfl ?_ | (refine qT rfl ?_ ?_; (first | rfl | assumption)) | (refine qU rfl ?_ ?_; (first | rfl | assumption)) | refine qL rfl rfl ?_ | refine qM rfl rfl rfl ?_ | refine qO rfl rfl rfl ?_ | refine qX (b' := true) rfl rfl rfl rfl (by assumption) ?_ | refine qX (b' := false) rfl rfl rfl rfl (by assumption) ?_ | (refine qY rfl rfl rfl rfl ?_ ?_ <;> intro _) | exact (rfl : (_ : D) = _) | exact (rfl : (_ : List D) = _))
  refine go_loop_ (α := SI s) (fun p => ⟨[(0, .d (.str s)), (3, .d (.int p.i))], []⟩) (fun p => s.size - p.i) ⟨0, by omega, fun j b h => by omega⟩ ((Le.of' 0 rfl (by repeat (first | exact trivial | refine ⟨⟨rfl, rfl⟩, ?_⟩)) (by repeat (first | exact trivial | refine ⟨rfl, ?_⟩)))) ?_
  rintro ⟨i, hi, ok⟩
  dsimp only
  rcases Nat.lt_or_ge i s.size with hlt | hge
  · have hd : decide ((i : Int) < (s.size : Int)) = true := by simpa using hlt
    obtain ⟨b, hb1, hb2⟩ := cOK_at hlt
    have hb : 0 ≤ byteAt s (i : Int).toNat ∧ byteAt s (i : Int).toNat ≤ 255 := by simp only [Int.toNat_natCast, hb2]; have := b.toNat_lt; omega
    cases hc : cOK b with
    | true =>
      have h1 : decide (byteAt s (i : Int).toNat < 32) = false := by simp [cOK] at hc; simp only [Int.toNat_natCast, hb2]; simp; omega
      have h2 : decide (byteAt s (i : Int).toNat > 126) = false := by simp [cOK] at hc; simp only [Int.toNat_natCast, hb2]; simp; omega
      repeat' (first | (refine qS rfl ?_ ?_; (first | exact True.intro | rfl | assumption | omega | (simp only [inR]; omega) | ((show _ ≤ (9223372036854775807 : Nat)); (try simp only [ByteArray.size_append]); omega) | exact tmod_ok (by omega) (by omega) | exact tdiv_ok (by omega) (by omega) | exact ⟨rfl, by decide, by decide⟩)) | refine qA ?_ | refine qB rfl ?_ | refine qC (by kernel_rfl) ?_ | refine qD ?_ | refine qE ?_ | refine qF ?_ | refine qG ?_ | refine qH rfl ?_ | (refine qT rfl ?_ ?_; (first | rfl | assumption)) | (refine qU rfl ?_ ?_; (first | rfl | assumption)) | refine qL rfl rfl ?_ | refine qM rfl rfl rfl ?_ | refine qO rfl rfl rfl ?_ | refine qX (b' := true) rfl rfl rfl rfl (by assumption) ?_ | refine qX (b' := false) rfl rfl rfl rfl (by assumption) ?_ | (refine qY rfl rfl rfl rfl ?_ ?_ <;> intro _) | exact (rfl : (_ : D) = _) | exact (rfl : (_ : List D) = _))
      refine go_stop ?_
      refine ⟨⟨i + 1, by omega, fun j b' hj hb' => ?_⟩, by dsimp only; omega, (Le.of' 0 rfl (by repeat (first | exact trivial | refine ⟨⟨rfl, rfl⟩, ?_⟩)) (by repeat (first | exact trivial | refine ⟨rfl, ?_⟩)))⟩
      rcases Nat.lt_or_ge j i with h | h
      · exact ok j b' h hb'
      · obtain rfl : j = i := by omega
        rw [hb1] at hb'
        cases hb'
        exact hc
    | false =>
      have key : strOK s = false := by
        unfold strOK
        rw [Bool.and_eq_false_iff]
        left
        rw [List.all_eq_false]
        exact ⟨b, List.mem_of_getElem? hb1, by simpa [cOK] using hc⟩
      by_cases h32 : b.toNat < 32
      · have h1 : decide (byteAt s (i : Int).toNat < 32) = true := by simp only [Int.toNat_natCast, hb2]; simp; omega
        repeat' (first | (refine qS rfl ?_ ?_; (first | exact True.intro | rfl | assumption | omega | (simp only [inR]; omega) | ((show _ ≤ (9223372036854775807 : Nat)); (try simp only [ByteArray.size_append]); omega) | exact tmod_ok (by omega) (by omega) | exact tdiv_ok (by omega) (by omega) | exact ⟨rfl, by decide, by decide⟩)) | refine qA ?_ | refine qB rfl ?_ | refine qC (by kernel_rfl) ?_ | refine qD ?_ | refine qE ?_ | refine qF ?_ | refine qG ?_ | refine qH rfl ?_ | (refine qT rfl ?_ ?_; (first | rfl | assumption)) | (refine qU rfl ?_ ?_; (first | rfl | assumption)) | refine qL rfl rfl ?_ | refine qM rfl rfl rfl ?_ | refine qO rfl rfl rfl ?_ | refine qX (b' := true) rfl rfl rfl rfl (by assumption) ?_ | refine qX (b' := false) rfl rfl rfl rfl (by assumption) ?_ | (refine qY rfl rfl rfl rfl ?_ ?_ <;> intro _) | exact (rfl : (_ : D) = _) | exact (rfl : (_ : List D) = _))
        rw [key]
      · have h1 : decide (byteAt s (i : Int).toNat < 32) = false := by simp only [Int.toNat_natCast, hb2]; simp; omega
        have h2 : decide (byteAt s (i : Int).toNat > 126) = true := by simp [cOK] at hc; simp only [Int.toNat_natCast, hb2]; simp; omega
        repeat' (first | (refine qS rfl ?_ ?_; (first | exact True.intro | rfl | assumption | omega | (simp only [inR]; omega) | ((show _ ≤ (9223372036854775807 : Nat)); (try simp only [ByteArray.size_append]); omega) | exact tmod_ok (by omega) (by omega) | exact tdiv_ok (by omega) (by omega) | exact ⟨rfl, by decide, by decide⟩)) | refine qA ?_ | refine qB rfl ?_ | refine qC (by kernel_rfl) ?_ | refine qD ?_ | refine qE ?_ | refine qF ?_ | refine qG ?_ | refine qH rfl ?_ | (refine qT rfl ?_ ?_; (first | rfl | assumption)) | (refine qU rfl ?_ ?_; (first | rfl | assumption)) | refine qL rfl rfl ?_ | refine qM rfl rfl rfl ?_ | refine qO rfl rfl rfl ?_ | refine qX (b' := true) rfl rfl rfl rfl (by assumption) ?_ | refine qX (b' := false) rfl rfl rfl rfl (by assumption) ?_ | (refine qY rfl rfl rfl rfl ?_ ?_ <;> intro _) | exact (rfl : (_ : D) = _) | exact (rfl : (_ : List D) = _))
        rw [key]
  · have hd : decide ((i : Int) < (s.size : Int)) = false := by simp; omega
    repeat' (first | (refine qS rfl ?_ ?_; (first | exact True.intro | rfl | assumption | omega | (simp only [inR]; omega) | ((show _ ≤ (9223372036854775807 : Nat)); (try simp only [ByteArray.size_append]); omega) | exact tmod_ok (by omega) (by omega) | exact tdiv_ok (by omega) (by omega) | exact ⟨rfl, by decide, by decide⟩)) | refine qA ?_ | refine qB rfl ?_ | refine qC (by kernel_rfl) ?_ | refine qD ?_ | refine qE ?_ | refine qF ?_ | refine qG ?_ | refine qH rfl ?_ | (refine qT rfl ?_ ?_; (first | rfl | assumption)) | (refine qU rfl ?_ ?_; (first | rfl | assumption)) | refine qL rfl rfl ?_ | refine qM rfl rfl rfl ?_ | refine qO rfl rfl rfl ?_ | refine qX (b' := true) rfl rfl rfl rfl (by assumption) ?_ | refine qX (b' := false) rfl rfl rfl rfl (by assumption) ?_ | (refine qY rfl rfl rfl rfl ?_ ?_ <;> intro _) | exact (rfl : (_ : D) = _) | exact (rfl : (_ : List D) = _))
    have key : strOK s = decide (s.size ≤ 100) := by
      unfold strOK
      have : (s.data.toList.all fun b => !(decide (b.toNat < 32) || decide (b.toNat > 126))) = true := by
        rw [List.all_eq_true]
        intro b hb
        obtain ⟨j, hj⟩ := List.getElem?_of_mem hb
        have hjl : j < s.data.toList.length := (List.getElem?_eq_some_iff.1 hj).1
        exact ok j b (by have : s.data.toList.length = s.size := by simp
                         omega) hj
      rw [this, Bool.true_and]
    rw [key]
    refine congrArg D.bool ?_
    simp only [decide_eq_decide]
    omega
end Go.Proofs.YtpjnngfjbcjikaaGreatDoor
