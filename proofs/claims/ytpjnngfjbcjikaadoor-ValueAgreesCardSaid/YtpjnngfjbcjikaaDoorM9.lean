/- The program's test of a string's characters: what strings.IndexFunc with its closure comes to. Conditions: none. -/
import Derived.Test.YtpjnngfjbcjikaaDoorM8
namespace Go.Proofs.YtpjnngfjbcjikaaDoor
open Go Go.Abs Go.Val Go.RowKit Go.Shelf

def badR (r : Nat) : Bool := decide (r < 32) || decide (r > 126)
theorem decode_at (s : ByteArray) (i : Nat) (b : UInt8) (hb : s.get! i = b) : (b.toNat < 128 → Utf8.decode s i = (b.toNat, 1)) ∧ (128 ≤ b.toNat → 128 ≤ (Utf8.decode s i).1) := by
  have h0 : (s.get! (i + 0)).toNat = b.toNat := by rw [Nat.add_zero, hb]
  constructor
  · intro h
    unfold Utf8.decode
    simp only [h0]
    rw [if_pos h]
  · intro h
    unfold Utf8.decode
    simp only [h0, Utf8.runeError]
    rw [if_neg (by omega)]
    split
    · split <;> simp only [] <;> omega
    · split
      · split
        · rename_i h1 h2; simp only [Bool.and_eq_true, decide_eq_true_eq] at h2; simp only []; omega
        · simp only []; omega
      · split
        · split
          · rename_i h1 h2; simp only [Bool.and_eq_true, decide_eq_true_eq] at h2; simp only []; omega
          · simp only []; omega
        · simp only []; omega
theorem get_at {s : ByteArray} {i : Nat} {b : UInt8} (h : s.data.toList[i]? = some b) : s.get! i = b := by
  have hl : i < s.data.size := by simpa using (List.getElem?_eq_some_iff.1 h).1
  have : s.data.toList[i]? = some s.data[i] := by simp [hl]
  rw [this] at h
  cases h
  cases s
  simp only [ByteArray.get!]
  simp [hl]
theorem idx_neg (s : ByteArray) : ∀ (f pos : Nat), s.size ≤ pos + f → (decide (Lib.idxFuncFrom badR true s f pos < 0)) = (s.data.toList.drop pos).all fun b => !(decide (b.toNat < 32) || decide (b.toNat > 126))
  | 0, pos, h => by
    have hlen : s.data.toList.length = s.size := by simp
    have : s.data.toList.drop pos = [] := List.drop_eq_nil_of_le (by omega)
    rw [this]
    simp [Lib.idxFuncFrom]
  | f + 1, pos, h => by
    have hlen : s.data.toList.length = s.size := by simp
    unfold Lib.idxFuncFrom
    by_cases hp : pos < s.size
    · rw [if_pos hp]
      have hx := List.getElem?_eq_getElem (show pos < s.data.toList.length by omega)
      generalize s.data.toList[pos] = b at hx
      rw [drop_at hx, List.all_cons]
      obtain ⟨d1, d2⟩ := decode_at s pos b (get_at hx)
      by_cases hb : b.toNat < 128
      · rw [d1 hb]
        simp only []
        cases hbad : badR b.toNat with
        | true =>
          rw [if_pos rfl]
          have : (!(decide (b.toNat < 32) || decide (b.toNat > 126))) = false := by unfold badR at hbad; rw [hbad]; rfl
          rw [this, Bool.false_and]
          simp
        | false =>
          rw [if_neg (by simp), idx_neg s f (pos + 1) (by omega)]
          have : (!(decide (b.toNat < 32) || decide (b.toNat > 126))) = true := by unfold badR at hbad; rw [hbad]; rfl
          rw [this, Bool.true_and]
      · have h128 := d2 (by omega)
        have hbad : badR (Utf8.decode s pos).1 = true := by unfold badR; simp; omega
        rw [hbad, if_pos rfl]
        have : (!(decide (b.toNat < 32) || decide (b.toNat > 126))) = false := by simp; omega
        rw [this, Bool.false_and]
        simp
    · rw [if_neg hp]
      have : s.data.toList.drop pos = [] := List.drop_eq_nil_of_le (by omega)
      rw [this]
      simp
theorem pred_gives (w : World) : PredAt Tryd.prog 45 #[] encR badR w := fun W r _ => by
  unfold FnGives
  by_cases h1 : r < 32 <;> by_cases h2 : r > 126
  all_goals
    have z1 : (r : Int) < 32 ↔ r < 32 := by omega
    have z2 : (126 : Int) < (r : Int) ↔ r > 126 := by omega
    go_enter Tryd.func45, Tryd.ntmps45
    go_wp2
    all_goals first | (exfalso; omega) | (go_ret; exact ⟨by simp [badR, h1, h2], 0, rfl⟩)
theorem ixOK : IxOK := by
  intro s
  refine ⟨Lib.idxFunc badR true s, ?_, ?_⟩
  · refine Ev.fit fun hfit => ?_
    have hs := (hfit (.str s) (by simp)).str
    refine of_lib2 (inR_ok (k := .i64) ?_) fun w F _ _ _ => ?_
    · unfold Lib.idxFunc
      rcases Lib.idxFuncFrom_range badR true s s.size 0 with h | h <;> simp only [inR] <;> omega
    · refine (Tryd.strings_IndexFunc 45 #[] Tryd.call45 badR s w (pred_gives w)).mono ?_
      rintro e w' ⟨rfl, hb⟩
      exact ⟨rfl, hb⟩
  · unfold Lib.idxFunc
    rw [idx_neg s s.size 0 (by omega), List.drop_zero]
end Go.Proofs.YtpjnngfjbcjikaaDoor
