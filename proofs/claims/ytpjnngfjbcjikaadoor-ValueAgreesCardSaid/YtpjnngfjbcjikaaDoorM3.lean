/- Which values are valid: the flat kinds, of the program and of the specification. Conditions: none. -/
import Derived.Test.YtpjnngfjbcjikaaDoorM1
import Derived.Test.YtpjnngfjbcjikaaDoorM2
namespace Go.Proofs.YtpjnngfjbcjikaaDoor
open Go Go.Abs Go.Val
attribute [local irreducible] go SGo HasBody Ev

def l0 (v : V) : Bool := ((kids v).length : Int) == 0
theorem l0_eq (v : V) : l0 v = (v.l.length == 0) := by
  unfold l0
  rw [kids_len]
  cases v.l with
  | nil => rfl
  | cons a r =>
    simp only [List.length_cons]
    rw [beq_eq_false_iff_ne.2 (by omega), beq_eq_false_iff_ne.2 (by omega)]
def bareF (v : V) (n d s l : Bool) : Bool := (n || v.n == 0) && ((d || v.d == 0) && ((s || s0 v.s) && (l || l0 v)))
def cOK (b : UInt8) : Bool := !(decide (b.toNat < 32) || decide (b.toNat > 126))
theorem cOK_at {s : ByteArray} {i : Nat} (h : i < s.size) : ∃ b, s.data.toList[i]? = some b ∧ byteAt s i = (b.toNat : Int) := by
  have hl : i < s.data.toList.length := by simpa using h
  refine ⟨s.data.toList[i], List.getElem?_eq_getElem hl, ?_⟩
  unfold byteAt
  rw [List.getD_eq_getElem?_getD, List.getElem?_eq_getElem hl]
  rfl
/-- The state of a loop over a string whose bytes so far are fit. -/
structure SI (s : ByteArray) where
  i : Nat
  hi : i ≤ s.size
  ok : ∀ (j : Nat) b, j < i → s.data.toList[j]? = some b → cOK b = true
end Go.Proofs.YtpjnngfjbcjikaaDoor
