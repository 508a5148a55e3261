/- Plain laws of the orders: antisymmetry, symmetry. Conditions: none. -/
import Derived.Test.YtpjnngfjbcjikaaDoorM28
namespace Go.Proofs.YtpjnngfjbcjikaaDoor
open Go Go.Abs Go.Val Go.RowKit

theorem ci_anti (x y : Int) : ci y x = - ci x y := by
  rcases (show x < y ∨ x = y ∨ x > y by omega) with h | h | h
  · rw [ci_lt h, ci_gt h]; rfl
  · subst h; rw [ci_eq]; rfl
  · rw [ci_gt h, ci_lt h]
theorem bl_tri : ∀ a b : List UInt8, (Op.bytesLess a b = true ∧ Op.bytesLess b a = false ∧ a ≠ b) ∨ (Op.bytesLess a b = false ∧ Op.bytesLess b a = true ∧ a ≠ b) ∨ (Op.bytesLess a b = false ∧ Op.bytesLess b a = false ∧ a = b)
  | [], [] => .inr (.inr ⟨rfl, rfl, rfl⟩)
  | [], _ :: _ => .inl ⟨rfl, rfl, by simp⟩
  | _ :: _, [] => .inr (.inl ⟨rfl, rfl, by simp⟩)
  | x :: a, y :: b => by
    have ih := bl_tri a b
    simp only [Op.bytesLess]
    rcases Nat.lt_trichotomy x.toNat y.toNat with h | h | h
    · have h1 : x < y := h
      have h2 : ¬ y < x := fun h' => Nat.lt_asymm h h'
      have h3 : x ≠ y := fun e => by subst e; omega
      have h4 : (y == x) = false := by rw [beq_eq_false_iff_ne]; exact fun e => h3 e.symm
      left
      refine ⟨by simp [h1], by simp [h2, h4], fun e => h3 (List.cons.inj e).1⟩
    · have e : x = y := UInt8.toNat_inj.1 h
      subst e
      have h2 : ¬ x < x := fun h' => Nat.lt_irrefl _ h'
      simp only [h2, decide_false, beq_self_eq_true, Bool.true_and, Bool.false_or]
      rcases ih with ⟨i1, i2, i3⟩ | ⟨i1, i2, i3⟩ | ⟨i1, i2, i3⟩
      · exact .inl ⟨i1, i2, fun e => i3 (List.cons.inj e).2⟩
      · exact .inr (.inl ⟨i1, i2, fun e => i3 (List.cons.inj e).2⟩)
      · exact .inr (.inr ⟨i1, i2, by rw [i3]⟩)
    · have h1 : y < x := h
      have h2 : ¬ x < y := fun h' => Nat.lt_asymm h h'
      have h3 : x ≠ y := fun e => by subst e; omega
      have h4 : (x == y) = false := by rw [beq_eq_false_iff_ne]; exact h3
      right; left
      refine ⟨by simp [h2, h4], by simp [h1], fun e => h3 (List.cons.inj e).1⟩
theorem cs_cases (a b : ByteArray) : (cs a b = -1 ∧ cs b a = 1 ∧ a.toList ≠ b.toList) ∨ (cs a b = 1 ∧ cs b a = -1 ∧ a.toList ≠ b.toList) ∨ (cs a b = 0 ∧ cs b a = 0 ∧ a.toList = b.toList) := by
  unfold cs
  rcases bl_tri a.toList b.toList with ⟨h1, h2, h3⟩ | ⟨h1, h2, h3⟩ | ⟨h1, h2, h3⟩
  · left
    have : (b.toList == a.toList) = false := by rw [beq_eq_false_iff_ne]; exact fun e => h3 e.symm
    rw [h1, h2, this]
    exact ⟨rfl, rfl, h3⟩
  · right; left
    have : (a.toList == b.toList) = false := by rw [beq_eq_false_iff_ne]; exact h3
    rw [h1, h2, this]
    exact ⟨rfl, rfl, h3⟩
  · right; right
    rw [h1, h2, h3]
    simp
theorem cs_anti (a b : ByteArray) : cs b a = - cs a b := by
  rcases cs_cases a b with ⟨h1, h2, _⟩ | ⟨h1, h2, _⟩ | ⟨h1, h2, _⟩ <;> rw [h1, h2] <;> rfl
theorem orI_anti {x x' y y' : Int} (h1 : x' = -x) (h2 : y' = -y) : orI x' y' = - orI x y := by
  subst h1 h2
  unfold orI
  cases h : x != 0 with
  | true =>
    have : (-x != 0) = true := by simp only [bne_iff_ne] at h ⊢; omega
    rw [this]
    rfl
  | false =>
    have : (-x != 0) = false := by simp only [bne_eq_false_iff_eq] at h ⊢; omega
    rw [this]
    rfl
theorem cmpQ_anti (an ad bn bd : Int) : cmpQ bn bd an ad = - cmpQ an ad bn bd := by
  unfold cmpQ
  rw [← sgn_opp]
  congr 1
  omega
theorem tt_anti (a b : Bool) (h : (a != b) = true) : 1 - tt b = -(1 - tt a) := by
  cases a <;> cases b <;> first | rfl | (cases h; done)
theorem rcls_num {a b : V} (ha : Val.okV a = true) (hb : Val.okV b = true) (h : (ci (rcls a.k) (rcls b.k) != 0) = false) : isNum b = isNum a := by
  have e : ci (rcls a.k) (rcls b.k) = 0 := by simpa using h
  cases hn : isNum a with
  | false =>
    have := rcls_kind (okV_rng ha) (okV_rng hb) e (by rw [← isNum_k ha]; exact hn)
    rw [isNum_k hb, ← this, ← isNum_k ha, hn]
  | true =>
    cases hm : isNum b with
    | true => rfl
    | false =>
      have e' : ci (rcls b.k) (rcls a.k) = 0 := by rw [ci_anti, e]; rfl
      have := rcls_kind (okV_rng hb) (okV_rng ha) e' (by rw [← isNum_k hb]; exact hm)
      rw [isNum_k ha, ← this, ← isNum_k hb, hm] at hn
      cases hn
theorem cmpL_anti (g : V → V → Int) : ∀ (a b : List V), (∀ x ∈ a, ∀ y, g y x = - g x y) → cmpL g b a = - cmpL g a b
  | [], [], _ => rfl
  | [], _ :: _, _ => rfl
  | _ :: _, [], _ => rfl
  | x :: r, y :: q, h => by
    simp only [cmpL]
    exact orI_anti (h x (by simp) y) (cmpL_anti g r q fun z hz => h z (by simp [hz]))
theorem headO_anti {a b : V} {t t' : Int} (h : t' = -t) : headO b a t' = - headO a b t :=
  orI_anti (ci_anti _ _) (orI_anti (ci_anti _ _) (orI_anti (ci_anti _ _) (orI_anti (cs_anti _ _) h)))
theorem ordF_anti (a : V) : ∀ b : V, ordF b a = - ordF a b := by
  refine vind (P := fun a => ∀ b : V, ordF b a = - ordF a b) (fun k n d s l ih b => ?_) a
  have hl : cmpL ordF b.l (V.mk k n d s l).l = - cmpL ordF (V.mk k n d s l).l b.l := cmpL_anti ordF l b.l ih
  rw [ordF_eq, ordF_eq]
  generalize V.mk k n d s l = a at *
  unfold stepO
  cases h1 : Val.okV a != Val.okV b with
  | true =>
    have h1' : (Val.okV b != Val.okV a) = true := by rw [bne_comm]; exact h1
    rw [h1']
    exact tt_anti _ _ h1
  | false =>
    have e : Val.okV a = Val.okV b := by simpa using h1
    rw [e]
    simp only [bne_self_eq_false, cond_false]
    cases h2 : Val.okV b with
    | false => exact headO_anti hl
    | true =>
      rw [h2] at e
      simp only [Bool.not_true, cond_false]
      have hci : ci (rcls b.k) (rcls a.k) = - ci (rcls a.k) (rcls b.k) := ci_anti _ _
      cases h3 : ci (rcls a.k) (rcls b.k) != 0 with
      | true =>
        have : (ci (rcls b.k) (rcls a.k) != 0) = true := by rw [hci]; simp only [bne_iff_ne] at h3 ⊢; omega
        rw [this]
        exact hci
      | false =>
        have : (ci (rcls b.k) (rcls a.k) != 0) = false := by rw [hci]; simp only [bne_eq_false_iff_eq] at h3 ⊢; omega
        rw [this, rcls_num e h2 h3]
        simp only [cond_false]
        cases isNum a with
        | true => exact cmpQ_anti _ _ _ _
        | false => exact headO_anti hl
theorem eqM_symm (g : V → V → Int) : ∀ (a b : List V) (t : Int), (∀ x ∈ a, ∀ y, g y x = g x y) → eqM g b a t = eqM g a b t
  | [], [], _, _ => rfl
  | [], _ :: _, _, _ => rfl
  | _ :: _, [], _, _ => rfl
  | x :: r, y :: q, t, h => by
    simp only [eqM]
    rw [h x (by simp) y]
    exact eqM_symm g r q _ fun z hz => h z (by simp [hz])
theorem eqF_symm (a : V) : ∀ b : V, eqF b a = eqF a b := by
  refine vind (P := fun a => ∀ b : V, eqF b a = eqF a b) (fun k n d s l ih b => ?_) a
  have hl : eqM eqF b.l (V.mk k n d s l).l 2 = eqM eqF (V.mk k n d s l).l b.l 2 := eqM_symm eqF l b.l 2 ih
  rw [eqF_eq, eqF_eq, hl]
  generalize V.mk k n d s l = a at *
  unfold stepE
  have e1 : (b.k == 0 || a.k == 0 || !Val.okV b || !Val.okV a) = (a.k == 0 || b.k == 0 || !Val.okV a || !Val.okV b) := by
    cases b.k == 0 <;> cases a.k == 0 <;> cases Val.okV a <;> cases Val.okV b <;> rfl
  have e2 : (cmpQ (numN b) (numD b) (numN a) (numD a) == 0) = (cmpQ (numN a) (numD a) (numN b) (numD b) == 0) := by
    rw [cmpQ_anti, Bool.eq_iff_iff]
    simp only [beq_iff_eq]
    omega
  have e3 : (b.k != a.k) = (a.k != b.k) := bne_comm
  rw [e1, Bool.and_comm (isNum b), e2, e3]
  cases h : a.k != b.k with
  | true => rfl
  | false =>
    have hk : a.k = b.k := by simpa using h
    have e4 : (b.s.toList == a.s.toList) = (a.s.toList == b.s.toList) := by rw [Bool.eq_iff_iff]; simp only [beq_iff_eq]; exact eq_comm
    have e5 : (b.n == a.n) = (a.n == b.n) := by rw [Bool.eq_iff_iff]; simp only [beq_iff_eq]; exact eq_comm
    have e6 : (b.l.length != a.l.length) = (a.l.length != b.l.length) := bne_comm
    rw [hk, e4, e5, e6]
end Go.Proofs.YtpjnngfjbcjikaaDoor
