/- Plain laws of texts: valid values with the same text are identical. Conditions: none. -/
import Derived.Test.YtpjnngfjbcjikaaDoorM30
namespace Go.Proofs.YtpjnngfjbcjikaaDoor
open Go Go.Abs Go.Val Go.RowKit

def isDig (b : UInt8) : Bool := decide (48 ≤ b.toNat) && decide (b.toNat ≤ 57)
def nondig (x : List UInt8) : Prop := ∀ b r, x = b :: r → isDig b = false
def stop (x : List UInt8) : Prop := ∀ b r, x = b :: r → b = 44 ∨ b = 32 ∨ b = 93 ∨ b = 62
theorem stop_nondig {x : List UInt8} (h : stop x) : nondig x := fun b r e => by
  rcases h b r e with h | h | h | h <;> rw [h] <;> rfl
theorem digit_ok {k : Nat} (h : k < 10) : isDig (UInt8.ofNat (48 + k)) = true ∧ (UInt8.ofNat (48 + k)).toNat = 48 + k := by
  have e : (UInt8.ofNat (48 + k)).toNat = 48 + k := by rw [UInt8.toNat_ofNat']; omega
  exact ⟨by unfold isDig; rw [e]; simp; omega, e⟩
theorem dec_dig (u : Nat) : ∀ b ∈ Lib.decDigits u, isDig b = true := by
  induction u using Nat.strongRecOn with
  | _ u ih =>
    intro b hb
    rw [Lib.decDigits] at hb
    by_cases h : u < 10
    · rw [dif_pos h] at hb
      simp only [List.mem_singleton] at hb
      rw [hb]
      exact (digit_ok h).1
    · rw [dif_neg h] at hb
      rcases List.mem_append.1 hb with hb | hb
      · exact ih (u / 10) (by omega) b hb
      · simp only [List.mem_singleton] at hb
        rw [hb]
        exact (digit_ok (by omega)).1
theorem dec_head (u : Nat) : ∃ b r, Lib.decDigits u = b :: r ∧ isDig b = true := by
  have h : Lib.decDigits u ≠ [] := by
    rw [Lib.decDigits]
    split <;> simp
  cases hd : Lib.decDigits u with
  | nil => exact absurd hd h
  | cons b r => exact ⟨b, r, rfl, dec_dig u b (by rw [hd]; simp)⟩
def dval (l : List UInt8) : Nat := l.foldl (fun a b => 10 * a + (b.toNat - 48)) 0
theorem dval_dec (u : Nat) : dval (Lib.decDigits u) = u := by
  induction u using Nat.strongRecOn with
  | _ u ih =>
    rw [Lib.decDigits]
    by_cases h : u < 10
    · rw [dif_pos h]
      have := (digit_ok h).2
      simp only [dval, List.foldl_cons, List.foldl_nil]
      omega
    · rw [dif_neg h]
      have h1 := ih (u / 10) (by omega)
      have := (digit_ok (show u % 10 < 10 by omega)).2
      unfold dval at h1 ⊢
      rw [List.foldl_append, h1]
      simp only [List.foldl_cons, List.foldl_nil]
      omega
theorem dig_split : ∀ (a a' x y : List UInt8), (∀ b ∈ a, isDig b = true) → (∀ b ∈ a', isDig b = true) → nondig x → nondig y → a ++ x = a' ++ y → a = a' ∧ x = y
  | [], [], x, y, _, _, _, _, h => ⟨rfl, h⟩
  | [], b :: a', x, y, _, h2, hx, _, h => by
    have := hx b (a' ++ y) h
    rw [h2 b (by simp)] at this
    cases this
  | b :: a, [], x, y, h1, _, _, hy, h => by
    have := hy b (a ++ x) h.symm
    rw [h1 b (by simp)] at this
    cases this
  | b :: a, b' :: a', x, y, h1, h2, hx, hy, h => by
    simp only [List.cons_append, List.cons.injEq] at h
    obtain ⟨e1, e2⟩ := dig_split a a' x y (fun c hc => h1 c (by simp [hc])) (fun c hc => h2 c (by simp [hc])) hx hy h.2
    exact ⟨by rw [h.1, e1], e2⟩
theorem itoa_split {n m : Int} {x y : List UInt8} (hx : nondig x) (hy : nondig y) (h : Lib.itoa n ++ x = Lib.itoa m ++ y) : n = m ∧ x = y := by
  have key : ∀ {u v : Nat}, Lib.decDigits u ++ x = Lib.decDigits v ++ y → u = v ∧ x = y := by
    intro u v h
    obtain ⟨h1, h2⟩ := dig_split _ _ x y (dec_dig u) (dec_dig v) hx hy h
    refine ⟨?_, h2⟩
    have := congrArg dval h1
    rwa [dval_dec, dval_dec] at this
  unfold Lib.itoa at h
  by_cases hn : n < 0 <;> by_cases hm : m < 0
  · rw [if_pos hn, if_pos hm] at h
    simp only [List.cons_append, List.cons.injEq, true_and] at h
    obtain ⟨h1, h2⟩ := key h
    exact ⟨by omega, h2⟩
  · rw [if_pos hn, if_neg hm] at h
    obtain ⟨b, r, hd, hb⟩ := dec_head m.toNat
    rw [hd] at h
    simp only [List.cons_append, List.cons.injEq] at h
    rw [← h.1] at hb
    cases hb
  · rw [if_neg hn, if_pos hm] at h
    obtain ⟨b, r, hd, hb⟩ := dec_head n.toNat
    rw [hd] at h
    simp only [List.cons_append, List.cons.injEq] at h
    rw [h.1] at hb
    cases hb
  · rw [if_neg hn, if_neg hm] at h
    obtain ⟨h1, h2⟩ := key h
    exact ⟨by omega, h2⟩
theorem itoa_head (n : Int) : ∃ b r, Lib.itoa n = b :: r ∧ (b = 45 ∨ isDig b = true) := by
  unfold Lib.itoa
  by_cases hn : n < 0
  · rw [if_pos hn]; exact ⟨_, _, rfl, .inl rfl⟩
  · rw [if_neg hn]
    obtain ⟨b, r, h1, h2⟩ := dec_head n.toNat
    exact ⟨b, r, h1, .inr h2⟩
theorem dbl_split : ∀ (s s' x y : List UInt8), (∀ r, x ≠ 39 :: r) → (∀ r, y ≠ 39 :: r) → dbl s ++ 39 :: x = dbl s' ++ 39 :: y → s = s' ∧ x = y
  | [], [], x, y, _, _, h => ⟨rfl, by simpa [dbl] using h⟩
  | [], b :: s', x, y, hx, _, h => by
    have e : dbl (b :: s') = (bif b == 39 then [39, 39] else [b]) ++ dbl s' := rfl
    rw [e] at h
    cases hb : b == 39 with
    | true =>
      rw [hb] at h
      simp only [cond_true, List.cons_append, List.nil_append] at h
      have h' : 39 :: x = 39 :: 39 :: (dbl s' ++ 39 :: y) := h
      exact absurd (List.cons.inj h').2 (hx _)
    | false =>
      rw [hb] at h
      have h' : 39 :: x = b :: (dbl s' ++ 39 :: y) := h
      rw [← (List.cons.inj h').1] at hb
      cases hb
  | b :: s, [], x, y, _, hy, h => by
    have e : dbl (b :: s) = (bif b == 39 then [39, 39] else [b]) ++ dbl s := rfl
    rw [e] at h
    cases hb : b == 39 with
    | true =>
      rw [hb] at h
      have h' : 39 :: 39 :: (dbl s ++ 39 :: x) = 39 :: y := h
      exact absurd (List.cons.inj h').2.symm (hy _)
    | false =>
      rw [hb] at h
      have h' : b :: (dbl s ++ 39 :: x) = 39 :: y := h
      rw [(List.cons.inj h').1] at hb
      cases hb
  | b :: s, b' :: s', x, y, hx, hy, h => by
    have e : dbl (b :: s) = (bif b == 39 then [39, 39] else [b]) ++ dbl s := rfl
    have e' : dbl (b' :: s') = (bif b' == 39 then [39, 39] else [b']) ++ dbl s' := rfl
    rw [e, e'] at h
    cases hb : b == 39 <;> cases hb' : b' == 39 <;> rw [hb, hb'] at h
    · have h' : b :: (dbl s ++ 39 :: x) = b' :: (dbl s' ++ 39 :: y) := h
      obtain ⟨h1, h2⟩ := List.cons.inj h'
      obtain ⟨e1, e2⟩ := dbl_split s s' x y hx hy h2
      exact ⟨by rw [h1, e1], e2⟩
    · have h' : b :: (dbl s ++ 39 :: x) = 39 :: 39 :: (dbl s' ++ 39 :: y) := h
      rw [(List.cons.inj h').1] at hb
      cases hb
    · have h' : 39 :: 39 :: (dbl s ++ 39 :: x) = b' :: (dbl s' ++ 39 :: y) := h
      rw [← (List.cons.inj h').1] at hb'
      cases hb'
    · have h' : 39 :: 39 :: (dbl s ++ 39 :: x) = 39 :: 39 :: (dbl s' ++ 39 :: y) := h
      obtain ⟨e1, e2⟩ := dbl_split s s' x y hx hy (List.cons.inj (List.cons.inj h').2).2
      have : b = b' := by rw [beq_iff_eq.1 hb, beq_iff_eq.1 hb']
      exact ⟨by rw [this, e1], e2⟩
/-- A kind's class, by the text's first byte. -/
def hc (b : UInt8) : Int := bif b == 110 then 0 else bif b == 116 || b == 102 then 1 else bif b == 39 then 4 else bif b == 35 then 5 else bif b == 64 then 6 else bif b == 60 then 7 else bif b == 91 then 8 else 2
theorem hc_num {b : UInt8} (h : b = 45 ∨ isDig b = true) : hc b = 2 ∧ b ≠ 93 ∧ b ≠ 62 := by
  rcases h with rfl | h
  · decide
  · have key : ∀ c : Fin 256, isDig (UInt8.ofFin c) = true → hc (UInt8.ofFin c) = 2 ∧ UInt8.ofFin c ≠ 93 ∧ UInt8.ofFin c ≠ 62 := by decide +kernel
    exact key b.toFin h
theorem txt_head {v : V} (h : Val.okV v = true) : ∃ b r, txt v = b :: r ∧ hc b = (bif v.k == 3 then 2 else v.k) ∧ b ≠ 93 ∧ b ≠ 62 := by
  obtain ⟨k, n, d, s, l⟩ := v
  have hk := okV_k h
  simp only [V.k] at hk
  rcases hk with rfl | rfl | rfl | rfl | rfl | rfl | rfl | rfl | rfl
  · have e : txt (.mk 0 n d s l) = [110, 117, 108, 108] := by simp only [txt, h]; rfl
    exact ⟨_, _, e, rfl, by decide, by decide⟩
  · have e : txt (.mk 1 n d s l) = (bif n == 1 then [116, 114, 117, 101] else [102, 97, 108, 115, 101]) := by simp only [txt, h]; rfl
    cases hn : n == 1 with
    | true => rw [hn] at e; exact ⟨_, _, e, rfl, by decide, by decide⟩
    | false => rw [hn] at e; exact ⟨_, _, e, rfl, by decide, by decide⟩
  · have e : txt (.mk 2 n d s l) = Lib.itoa n := by simp only [txt, h]; rfl
    obtain ⟨b, r, h1, h2⟩ := itoa_head n
    obtain ⟨h3, h4, h5⟩ := hc_num h2
    exact ⟨b, r, by rw [e, h1], h3, h4, h5⟩
  · have e : txt (.mk 3 n d s l) = Lib.itoa n ++ [47] ++ Lib.itoa d := by simp only [txt, h]; rfl
    obtain ⟨b, r, h1, h2⟩ := itoa_head n
    obtain ⟨h3, h4, h5⟩ := hc_num h2
    exact ⟨b, r ++ [47] ++ Lib.itoa d, by rw [e, h1]; rfl, h3, h4, h5⟩
  · have e : txt (.mk 4 n d s l) = [39] ++ dbl s.data.toList ++ [39] := by simp only [txt, h]; rfl
    exact ⟨39, dbl s.data.toList ++ [39], by rw [e]; rfl, rfl, by decide, by decide⟩
  · have e : txt (.mk 5 n d s l) = [35] ++ Lib.itoa n := by simp only [txt, h]; rfl
    exact ⟨35, Lib.itoa n, by rw [e]; rfl, rfl, by decide, by decide⟩
  · have e : txt (.mk 6 n d s l) = [64] ++ Lib.itoa n := by simp only [txt, h]; rfl
    exact ⟨64, Lib.itoa n, by rw [e]; rfl, rfl, by decide, by decide⟩
  · have e : txt (.mk 7 n d s l) = [60] ++ Lib.join (l.map txt) [32] ++ [62] := by simp only [txt, h, txtL_map]; rfl
    exact ⟨60, Lib.join (l.map txt) [32] ++ [62], by rw [e]; rfl, rfl, by decide, by decide⟩
  · have e : txt (.mk 8 n d s l) = [91] ++ Lib.join (l.map txt) [44, 32] ++ [93] := by simp only [txt, h, txtL_map]; rfl
    exact ⟨91, Lib.join (l.map txt) [44, 32] ++ [93], by rw [e]; rfl, rfl, by decide, by decide⟩
/-- What a text tells of a value. -/
def Tells (v : V) : Prop := ∀ w x y, Val.okV v = true → Val.okV w = true → stop x → stop y → txt v ++ x = txt w ++ y → v = w ∧ x = y
theorem tail_split (s0 : UInt8) (st : List UInt8) (c : UInt8) (hs : s0 = 44 ∨ s0 = 32) (hcc : c = 93 ∨ c = 62) : ∀ (l l' : List V) (x y : List UInt8), (∀ a ∈ l, Tells a) → (∀ a ∈ l, Val.okV a = true) → (∀ a ∈ l', Val.okV a = true) →
    Lib.joinTail (s0 :: st) (l.map txt) ++ c :: x = Lib.joinTail (s0 :: st) (l'.map txt) ++ c :: y → l = l' ∧ x = y
  | [], [], x, y, _, _, _, h => ⟨rfl, by simpa [Lib.joinTail] using h⟩
  | [], a :: r, x, y, _, _, _, h => by
    have h' : c :: x = s0 :: (st ++ txt a ++ Lib.joinTail (s0 :: st) (r.map txt) ++ c :: y) := h
    have := (List.cons.inj h').1
    rcases hs with rfl | rfl <;> rcases hcc with rfl | rfl <;> cases this
  | a :: r, [], x, y, _, _, _, h => by
    have h' : s0 :: (st ++ txt a ++ Lib.joinTail (s0 :: st) (r.map txt) ++ c :: x) = c :: y := h
    have := (List.cons.inj h').1
    rcases hs with rfl | rfl <;> rcases hcc with rfl | rfl <;> cases this
  | a :: r, a' :: r', x, y, ht, hv, hv', h => by
    have e : ∀ (b : V) (q : List V) (z : List UInt8), Lib.joinTail (s0 :: st) ((b :: q).map txt) ++ z = (s0 :: st) ++ (txt b ++ (Lib.joinTail (s0 :: st) (q.map txt) ++ z)) := by
      intro b q z
      have e1 : Lib.joinTail (s0 :: st) ((b :: q).map txt) = (s0 :: st) ++ txt b ++ Lib.joinTail (s0 :: st) (q.map txt) := rfl
      rw [e1]
      simp only [List.append_assoc]
    rw [e, e] at h
    have h2 := List.append_cancel_left h
    have hst : ∀ (q : List V) (z : List UInt8), stop (Lib.joinTail (s0 :: st) (q.map txt) ++ c :: z) := by
      intro q z b r' hb
      cases q with
      | nil =>
        have h' : c :: z = b :: r' := hb
        rw [← (List.cons.inj h').1]
        rcases hcc with rfl | rfl <;> simp
      | cons u q =>
        have h' : s0 :: (st ++ txt u ++ Lib.joinTail (s0 :: st) (q.map txt) ++ c :: z) = b :: r' := hb
        rw [← (List.cons.inj h').1]
        rcases hs with rfl | rfl <;> simp
    obtain ⟨e1, e2⟩ := ht a (by simp) a' _ _ (hv a (by simp)) (hv' a' (by simp)) (hst r x) (hst r' y) h2
    obtain ⟨e3, e4⟩ := tail_split s0 st c hs hcc r r' x y (fun b hb => ht b (by simp [hb])) (fun b hb => hv b (by simp [hb])) (fun b hb => hv' b (by simp [hb])) e2
    exact ⟨by rw [e1, e3], e4⟩
theorem join_split (s0 : UInt8) (st : List UInt8) (c : UInt8) (hs : s0 = 44 ∨ s0 = 32) (hcc : c = 93 ∨ c = 62) : ∀ (l l' : List V) (x y : List UInt8), (∀ a ∈ l, Tells a) → (∀ a ∈ l, Val.okV a = true) → (∀ a ∈ l', Val.okV a = true) →
    Lib.join (l.map txt) (s0 :: st) ++ c :: x = Lib.join (l'.map txt) (s0 :: st) ++ c :: y → l = l' ∧ x = y
  | [], [], x, y, _, _, _, h => ⟨rfl, by simpa [Lib.join_nil] using h⟩
  | [], a :: r, x, y, _, _, hv', h => by
    exfalso
    obtain ⟨b, q, hb, -, n1, n2⟩ := txt_head (hv' a (by simp))
    rw [List.map_cons, Lib.join_cons, hb] at h
    have h' : c :: x = b :: (q ++ Lib.joinTail (s0 :: st) (r.map txt) ++ c :: y) := h
    have := (List.cons.inj h').1
    rcases hcc with rfl | rfl
    · exact n1 this.symm
    · exact n2 this.symm
  | a :: r, [], x, y, _, hv, _, h => by
    exfalso
    obtain ⟨b, q, hb, -, n1, n2⟩ := txt_head (hv a (by simp))
    rw [List.map_cons, Lib.join_cons, hb] at h
    have h' : b :: (q ++ Lib.joinTail (s0 :: st) (r.map txt) ++ c :: x) = c :: y := h
    have := (List.cons.inj h').1
    rcases hcc with rfl | rfl
    · exact n1 this
    · exact n2 this
  | a :: r, a' :: r', x, y, ht, hv, hv', h => by
    rw [List.map_cons, List.map_cons, Lib.join_cons, Lib.join_cons, List.append_assoc, List.append_assoc] at h
    have hst : ∀ (q : List V) (z : List UInt8), stop (Lib.joinTail (s0 :: st) (q.map txt) ++ c :: z) := by
      intro q z b r' hb
      cases q with
      | nil =>
        have h' : c :: z = b :: r' := hb
        rw [← (List.cons.inj h').1]
        rcases hcc with rfl | rfl <;> simp
      | cons u q =>
        have h' : s0 :: (st ++ txt u ++ Lib.joinTail (s0 :: st) (q.map txt) ++ c :: z) = b :: r' := hb
        rw [← (List.cons.inj h').1]
        rcases hs with rfl | rfl <;> simp
    obtain ⟨e1, e2⟩ := ht a (by simp) a' _ _ (hv a (by simp)) (hv' a' (by simp)) (hst r x) (hst r' y) h
    obtain ⟨e3, e4⟩ := tail_split s0 st c hs hcc r r' x y (fun b hb => ht b (by simp [hb])) (fun b hb => hv b (by simp [hb])) (fun b hb => hv' b (by simp [hb])) e2
    exact ⟨by rw [e1, e3], e4⟩
theorem okV_0 {n d : Int} {s : ByteArray} {l : List V} (h : Val.okV (.mk 0 n d s l) = true) : n = 0 := by
  unfold Val.okV at h
  rw [okN_flat 8 0 n d s l (by omega) (by omega)] at h
  simp [okFlat, V.k, V.n, V.d, V.s, V.l] at h
  exact h.2
theorem okV_1 {n d : Int} {s : ByteArray} {l : List V} (h : Val.okV (.mk 1 n d s l) = true) : n = 0 ∨ n = 1 := by
  unfold Val.okV at h
  rw [okN_flat 8 1 n d s l (by omega) (by omega)] at h
  simp [okFlat, V.k, V.n, V.d, V.s, V.l] at h
  exact h.2
theorem tells (v : V) : Tells v := by
  refine vind (P := Tells) (fun k n d s l ih => ?_) v
  intro w x y hv hw hx hy h
  obtain ⟨k', n', d', s', l'⟩ := w
  have hkv := okV_kids hv
  have hkw := okV_kids hw
  obtain ⟨b, r, h1, h2, -, -⟩ := txt_head hv
  obtain ⟨b', r', h1', h2', -, -⟩ := txt_head hw
  have hbb : b = b' := by
    rw [h1, h1'] at h
    exact (List.cons.inj h).1
  rw [hbb, h2'] at h2
  clear h1 h1' h2' hbb b b' r r'
  have hk := okV_k hv
  have hk' := okV_k hw
  obtain ⟨a1, a2, a3, a4, a5⟩ := okV_bare hv
  obtain ⟨b1, b2, b3, b4, b5⟩ := okV_bare hw
  simp only [V.k, V.n, V.d, V.s, V.l] at *
  have hss : k ≠ 4 → k' ≠ 4 → s = s' := fun h1 h2 => ba_ext (by rw [a2 h1, b2 h2])
  have hll : k ≠ 7 → k ≠ 8 → k' ≠ 7 → k' ≠ 8 → l = l' := fun h1 h2 h3 h4 => by rw [a5 h1 h2, b5 h3 h4]
  rcases hk with rfl | rfl | rfl | rfl | rfl | rfl | rfl | rfl | rfl <;> rcases hk' with rfl | rfl | rfl | rfl | rfl | rfl | rfl | rfl | rfl <;> first | (exfalso; revert h2; decide) | skip
  · have e : ∀ n d s l, Val.okV (.mk 0 n d s l) = true → txt (.mk 0 n d s l) = [110, 117, 108, 108] := fun n d s l h => by simp only [txt, h]; rfl
    rw [e _ _ _ _ hv, e _ _ _ _ hw] at h
    refine ⟨?_, List.append_cancel_left h⟩
    rw [okV_0 hv, okV_0 hw, a1 (by omega), b1 (by omega), hss (by omega) (by omega), hll (by omega) (by omega) (by omega) (by omega)]
  · have e : ∀ n d s l, Val.okV (.mk 1 n d s l) = true → txt (.mk 1 n d s l) = (bif n == 1 then [116, 114, 117, 101] else [102, 97, 108, 115, 101]) := fun n d s l h => by simp only [txt, h]; rfl
    rw [e _ _ _ _ hv, e _ _ _ _ hw] at h
    have hn : n = n' ∧ x = y := by
      rcases okV_1 hv with h3 | h3 <;> rcases okV_1 hw with h4 | h4 <;> rw [h3, h4] at h ⊢
      · exact ⟨rfl, List.append_cancel_left h⟩
      · exfalso
        have h' : (102 : UInt8) :: _ = 116 :: _ := h
        have := (List.cons.inj h').1
        revert this; decide
      · exfalso
        have h' : (116 : UInt8) :: _ = 102 :: _ := h
        have := (List.cons.inj h').1
        revert this; decide
      · exact ⟨rfl, List.append_cancel_left h⟩
    refine ⟨?_, hn.2⟩
    rw [hn.1, a1 (by omega), b1 (by omega), hss (by omega) (by omega), hll (by omega) (by omega) (by omega) (by omega)]
  · have e : ∀ n d s l, Val.okV (.mk 2 n d s l) = true → txt (.mk 2 n d s l) = Lib.itoa n := fun n d s l h => by simp only [txt, h]; rfl
    rw [e _ _ _ _ hv, e _ _ _ _ hw] at h
    obtain ⟨h3, h4⟩ := itoa_split (stop_nondig hx) (stop_nondig hy) h
    refine ⟨?_, h4⟩
    rw [h3, a1 (by omega), b1 (by omega), hss (by omega) (by omega), hll (by omega) (by omega) (by omega) (by omega)]
  · exfalso
    have e : ∀ n d s l, Val.okV (.mk 2 n d s l) = true → txt (.mk 2 n d s l) = Lib.itoa n := fun n d s l h => by simp only [txt, h]; rfl
    have e' : ∀ n d s l, Val.okV (.mk 3 n d s l) = true → txt (.mk 3 n d s l) = Lib.itoa n ++ [47] ++ Lib.itoa d := fun n d s l h => by simp only [txt, h]; rfl
    rw [e _ _ _ _ hv, e' _ _ _ _ hw, List.append_assoc, List.append_assoc] at h
    obtain ⟨h3, h4⟩ := itoa_split (stop_nondig hx) (fun b r hb => by have h' : (47 : UInt8) :: _ = b :: r := hb; rw [← (List.cons.inj h').1]; rfl) h
    have h' : x = 47 :: (Lib.itoa d' ++ y) := h4
    rcases hx _ _ h' with h | h | h | h <;> revert h <;> decide
  · exfalso
    have e : ∀ n d s l, Val.okV (.mk 2 n d s l) = true → txt (.mk 2 n d s l) = Lib.itoa n := fun n d s l h => by simp only [txt, h]; rfl
    have e' : ∀ n d s l, Val.okV (.mk 3 n d s l) = true → txt (.mk 3 n d s l) = Lib.itoa n ++ [47] ++ Lib.itoa d := fun n d s l h => by simp only [txt, h]; rfl
    rw [e' _ _ _ _ hv, e _ _ _ _ hw, List.append_assoc, List.append_assoc] at h
    obtain ⟨h3, h4⟩ := itoa_split (fun b r hb => by have h' : (47 : UInt8) :: _ = b :: r := hb; rw [← (List.cons.inj h').1]; rfl) (stop_nondig hy) h
    have h' : y = 47 :: (Lib.itoa d ++ x) := h4.symm
    rcases hy _ _ h' with h | h | h | h <;> revert h <;> decide
  · have e' : ∀ n d s l, Val.okV (.mk 3 n d s l) = true → txt (.mk 3 n d s l) = Lib.itoa n ++ [47] ++ Lib.itoa d := fun n d s l h => by simp only [txt, h]; rfl
    rw [e' _ _ _ _ hv, e' _ _ _ _ hw] at h
    simp only [List.append_assoc] at h
    have hnd : ∀ z : List UInt8, nondig ([47] ++ z) := fun z b r hb => by have h' : (47 : UInt8) :: _ = b :: r := hb; rw [← (List.cons.inj h').1]; rfl
    obtain ⟨h3, h4⟩ := itoa_split (hnd _) (hnd _) h
    obtain ⟨h5, h6⟩ := itoa_split (stop_nondig hx) (stop_nondig hy) (List.append_cancel_left h4)
    refine ⟨?_, h6⟩
    rw [h3, h5, hss (by omega) (by omega), hll (by omega) (by omega) (by omega) (by omega)]
  · have e : ∀ n d s l, Val.okV (.mk 4 n d s l) = true → txt (.mk 4 n d s l) = [39] ++ dbl s.data.toList ++ [39] := fun n d s l h => by simp only [txt, h]; rfl
    rw [e _ _ _ _ hv, e _ _ _ _ hw] at h
    simp only [List.append_assoc] at h
    have hq : ∀ {z : List UInt8}, stop z → ∀ r, z ≠ 39 :: r := fun hz r e => by rcases hz _ _ e with h | h | h | h <;> revert h <;> decide
    obtain ⟨h3, h4⟩ := dbl_split _ _ x y (hq hx) (hq hy) (List.append_cancel_left h)
    refine ⟨?_, h4⟩
    have hs' : s = s' := by
      apply ByteArray.ext
      exact Array.toList_inj.1 h3
    rw [hs', a3 rfl, b3 rfl, a1 (by omega), b1 (by omega), hll (by omega) (by omega) (by omega) (by omega)]
  · have e : ∀ n d s l, Val.okV (.mk 5 n d s l) = true → txt (.mk 5 n d s l) = [35] ++ Lib.itoa n := fun n d s l h => by simp only [txt, h]; rfl
    rw [e _ _ _ _ hv, e _ _ _ _ hw] at h
    simp only [List.append_assoc] at h
    obtain ⟨h3, h4⟩ := itoa_split (stop_nondig hx) (stop_nondig hy) (List.append_cancel_left h)
    refine ⟨?_, h4⟩
    rw [h3, a1 (by omega), b1 (by omega), hss (by omega) (by omega), hll (by omega) (by omega) (by omega) (by omega)]
  · have e : ∀ n d s l, Val.okV (.mk 6 n d s l) = true → txt (.mk 6 n d s l) = [64] ++ Lib.itoa n := fun n d s l h => by simp only [txt, h]; rfl
    rw [e _ _ _ _ hv, e _ _ _ _ hw] at h
    simp only [List.append_assoc] at h
    obtain ⟨h3, h4⟩ := itoa_split (stop_nondig hx) (stop_nondig hy) (List.append_cancel_left h)
    refine ⟨?_, h4⟩
    rw [h3, a1 (by omega), b1 (by omega), hss (by omega) (by omega), hll (by omega) (by omega) (by omega) (by omega)]
  · have e : ∀ n d s l, Val.okV (.mk 7 n d s l) = true → txt (.mk 7 n d s l) = [60] ++ Lib.join (l.map txt) [32] ++ [62] := fun n d s l h => by simp only [txt, h, txtL_map]; rfl
    rw [e _ _ _ _ hv, e _ _ _ _ hw] at h
    simp only [List.append_assoc] at h
    obtain ⟨h3, h4⟩ := join_split 32 [] 62 (.inr rfl) (.inr rfl) l l' x y ih hkv hkw (List.append_cancel_left h)
    refine ⟨?_, h4⟩
    rw [h3, a4 (.inl rfl), b4 (.inl rfl), a1 (by omega), b1 (by omega), hss (by omega) (by omega)]
  · have e : ∀ n d s l, Val.okV (.mk 8 n d s l) = true → txt (.mk 8 n d s l) = [91] ++ Lib.join (l.map txt) [44, 32] ++ [93] := fun n d s l h => by simp only [txt, h, txtL_map]; rfl
    rw [e _ _ _ _ hv, e _ _ _ _ hw] at h
    simp only [List.append_assoc] at h
    obtain ⟨h3, h4⟩ := join_split 44 [32] 93 (.inl rfl) (.inl rfl) l l' x y ih hkv hkw (List.append_cancel_left h)
    refine ⟨?_, h4⟩
    rw [h3, a4 (.inr rfl), b4 (.inr rfl), a1 (by omega), b1 (by omega), hss (by omega) (by omega)]
theorem txt_inj {v w : V} (hv : Val.okV v = true) (hw : Val.okV w = true) (h : txt v = txt w) : v = w :=
  (tells v w [] [] hv hw (fun b r e => by cases e) (fun b r e => by cases e) (by rw [h])).1
/-! ## Equal and the order -/
theorem kn_ge2 {a b : Int} (h : min (kn a) (kn b) = 2) : kn a = 2 ∧ kn b = 2 := by
  rcases kn_cases a with h1 | h1 | h1 <;> rcases kn_cases b with h2 | h2 | h2 <;> rw [h1, h2] at h ⊢ <;> revert h <;> decide
theorem kn_2 {a : Int} (h : kn a = 2) : a = 2 := by
  unfold kn at h
  cases hb : (a == 0 || a == 2) with
  | true => rw [hb] at h; exact h
  | false => rw [hb] at h; cases h
theorem eqM_2 : ∀ (a b : List V) (t : Int), a.length = b.length → eqM eqF a b t = 2 → t = 2 ∧ ∀ (i : Nat) x y, a[i]? = some x → b[i]? = some y → eqF x y = 2
  | [], [], t, _, h => ⟨h, fun i x y hx => by simp at hx⟩
  | [], _ :: _, _, hl, _ => by simp at hl
  | _ :: _, [], _, hl, _ => by simp at hl
  | x :: r, y :: q, t, hl, h => by
    simp only [eqM] at h
    obtain ⟨h1, h2⟩ := eqM_2 r q _ (by simpa using hl) h
    obtain ⟨h3, h4⟩ := kn_ge2 h1
    refine ⟨kn_2 h3, fun i u w hu hw => ?_⟩
    cases i with
    | zero => simp at hu hw; subst hu hw; exact kn_2 h4
    | succ i => exact h2 i u w (by simpa using hu) (by simpa using hw)
theorem tt_2 {b : Bool} (h : tt b = 2) : b = true := by cases b; cases h; rfl
theorem eqF_2 (a : V) : ∀ b : V, eqF a b = 2 → a = b := by
  refine vind (P := fun a => ∀ b : V, eqF a b = 2 → a = b) (fun k n d s l ih b h => ?_) a
  rw [eqF_eq] at h
  unfold stepE at h
  cases h1 : ((V.mk k n d s l).k == 0 || b.k == 0 || !Val.okV (.mk k n d s l) || !Val.okV b) with
  | true => rw [h1] at h; cases h
  | false =>
    rw [h1] at h
    simp only [cond_false] at h
    simp only [Bool.or_eq_false_iff, Bool.not_eq_false'] at h1
    obtain ⟨⟨⟨h0, h0'⟩, hv⟩, hw⟩ := h1
    cases h2 : isNum (.mk k n d s l) && isNum b with
    | true =>
      rw [h2] at h
      simp only [cond_true] at h
      simp only [Bool.and_eq_true] at h2
      rw [cmpQ_zero h2.1 h2.2] at h
      have h3 := tt_2 h
      simp only [Bool.and_eq_true, beq_iff_eq] at h3
      exact num_eq h2.1 h2.2 h3.1 h3.2
    | false =>
      rw [h2] at h
      simp only [cond_false] at h
      cases h3 : (V.mk k n d s l).k != b.k with
      | true => rw [h3] at h; cases h
      | false =>
        rw [h3] at h
        simp only [cond_false] at h
        have hk : (V.mk k n d s l).k = b.k := by simpa using h3
        obtain ⟨k', n', d', s', l'⟩ := b
        obtain ⟨a1, a2, a3, a4, a5⟩ := okV_bare hv
        obtain ⟨b1, b2, b3, b4, b5⟩ := okV_bare hw
        simp only [V.k, V.n, V.d, V.s, V.l] at *
        subst hk
        have hn3 : k ≠ 3 := by
          intro h3
          rw [isNum_k hv, isNum_k hw, V.k, V.k, h3] at h2
          cases h2
        have hd : d = d' := by rw [a1 hn3, b1 hn3]
        subst hd
        cases h4 : k == 4 with
        | true =>
          rw [h4] at h
          have hk4 : k = 4 := by simpa using h4
          have := tt_2 h
          rw [a3 hk4, b3 hk4, show s = s' from ba_ext (by simpa using this), a5 (by omega) (by omega), b5 (by omega) (by omega)]
        | false =>
          rw [h4] at h
          have hk4 : k ≠ 4 := by simpa using h4
          simp only [cond_false] at h
          have hs : s = s' := ba_ext (by rw [a2 hk4, b2 hk4])
          subst hs
          cases h5 : k != 8 && k != 7 with
          | true =>
            rw [h5] at h
            simp only [Bool.and_eq_true, bne_iff_ne] at h5
            have := tt_2 h
            rw [show n = n' by simpa using this, a5 (by omega) (by omega), b5 (by omega) (by omega)]
          | false =>
            rw [h5] at h
            simp only [cond_false] at h
            have h78 : k = 7 ∨ k = 8 := by
              simp only [Bool.and_eq_false_iff, bne_eq_false_iff_eq] at h5
              omega
            cases h6 : l.length != l'.length with
            | true => rw [h6] at h; cases h
            | false =>
              rw [h6] at h
              have hl : l.length = l'.length := by simpa using h6
              obtain ⟨-, h7⟩ := eqM_2 l l' 2 hl h
              have : l = l' := by
                refine List.ext_getElem? fun i => ?_
                rcases Nat.lt_or_ge i l.length with hlt | hge
                · have e1 := List.getElem?_eq_getElem hlt
                  have e2 := List.getElem?_eq_getElem (show i < l'.length by omega)
                  rw [e1, e2, ih _ (List.getElem_mem hlt) _ (h7 i _ _ e1 e2)]
                · rw [List.getElem?_eq_none hge, List.getElem?_eq_none (by omega)]
              rw [this, a4 h78, b4 h78]
theorem eqM_ge : ∀ (l : List V) (t : Int), (∀ x ∈ l, 1 ≤ kn (eqF x x)) → 1 ≤ t → t ≤ 2 → 1 ≤ eqM eqF l l t
  | [], t, _, h, _ => h
  | x :: r, t, hx, h, h' => by
    simp only [eqM]
    have h1 := hx x (by simp)
    have h2 : 1 ≤ kn t := by
      have : t = 1 ∨ t = 2 := by omega
      rcases this with rfl | rfl <;> decide
    have h3 := kn_cases t
    exact eqM_ge r _ (fun y hy => hx y (by simp [hy])) (by omega) (by omega)
theorem eqF_ne0 (a : V) : Val.okV a = true → 1 ≤ kn (eqF a a) := by
  refine vind (P := fun a => Val.okV a = true → 1 ≤ kn (eqF a a)) (fun k n d s l ih hv => ?_) a
  have hl : 1 ≤ eqM eqF l l 2 := eqM_ge l 2 (fun x hx => ih x hx (okV_kids hv x hx)) (by omega) (by omega)
  have hm : ∀ (a b : List V) (t : Int), t ≤ 2 → eqM eqF a b t ≤ 2 := by
    intro a
    induction a with
    | nil => intro b t ht; cases b <;> exact ht
    | cons x r ihr =>
      intro b t ht
      cases b with
      | nil => exact ht
      | cons y q =>
        simp only [eqM]
        refine ihr q _ ?_
        have := kn_cases t
        omega
  have hl2 := hm l l 2 (by omega)
  rw [eqF_eq]
  show 1 ≤ kn (stepE _ _ (eqM eqF l l 2))
  generalize eqM eqF l l 2 = t at *
  have ht : t = 1 ∨ t = 2 := by omega
  unfold stepE
  rw [hv]
  cases h1 : ((V.mk k n d s l).k == 0 || (V.mk k n d s l).k == 0 || !true || !true) with
  | true => show (1 : Int) ≤ kn 1; decide
  | false =>
    simp only [cond_false]
    cases h2 : isNum (.mk k n d s l) && isNum (.mk k n d s l) with
    | true =>
      simp only [Bool.and_eq_true] at h2
      rw [cmpQ_zero h2.1 h2.2]
      simp only [cond_true, beq_self_eq_true, Bool.and_self]
      decide
    | false =>
      simp only [cond_false, bne_self_eq_false, beq_self_eq_true]
      cases (V.mk k n d s l).k == 4 with
      | true => show (1 : Int) ≤ kn (tt true); decide
      | false =>
        cases (V.mk k n d s l).k != 8 && (V.mk k n d s l).k != 7 with
        | true => show (1 : Int) ≤ kn (tt true); decide
        | false => rcases ht with rfl | rfl <;> decide
end Go.Proofs.YtpjnngfjbcjikaaDoor
