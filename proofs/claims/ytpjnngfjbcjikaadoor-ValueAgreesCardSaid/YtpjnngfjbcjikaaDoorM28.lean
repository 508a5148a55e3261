/- What smallness gives: short lists and short texts. Conditions: none. -/
import Derived.Test.YtpjnngfjbcjikaaDoorM27
namespace Go.Proofs.YtpjnngfjbcjikaaDoor
open Go Go.Abs Go.Val Go.RowKit

mutual
/-- How many parts a value has; long strings count more. -/
def cost : V → Nat
  | .mk _ _ _ s l => 1 + s.size / 50 + costL l
def costL : List V → Nat
  | [] => 0
  | v :: r => cost v + costL r
end
theorem cost_eq (v : V) : cost v = 1 + v.s.size / 50 + costL v.l := by cases v; simp [cost, V.s, V.l]
theorem weighL_cost (f : V → Int → Int) : ∀ (l : List V), (∀ x ∈ l, ∀ left, 0 ≤ f x left → (cost x : Int) + f x left ≤ left) → ∀ left, 0 ≤ weighL f l left → (costL l : Int) + weighL f l left ≤ left
  | [], _, left, h => by simp [weighL, costL]
  | x :: r, hf, left, h => by
    simp only [weighL] at h ⊢
    cases hd : decide (left ≥ 0) with
    | false =>
      rw [hd] at h
      simp only [cond_false] at h
      have := of_decide_eq_false hd
      omega
    | true =>
      rw [hd] at h
      simp only [cond_true] at h ⊢
      have ih := weighL_cost f r (fun y hy => hf y (by simp [hy])) (f x left) h
      have hx := hf x (by simp) left (by omega)
      simp only [costL]
      omega
theorem weighF_cost : ∀ (m : Nat) (v : V) (left : Int), 0 ≤ weighF m v left → (cost v : Int) + weighF m v left ≤ left
  | 0, v, left, h => by simp only [weighF] at h; omega
  | m + 1, v, left, h => by
    simp only [weighF] at h ⊢
    have := weighL_cost (weighF m) v.l (fun x _ l hl => weighF_cost m x l hl) _ h
    rw [cost_eq]
    have e : (v.s.size : Int).tdiv 50 = ((v.s.size / 50 : Nat) : Int) := by rw [Int.tdiv_eq_ediv_of_nonneg (by omega)]; rfl
    rw [e] at this ⊢
    omega
theorem light_cost {l : List V} (h : lightF [l] 300 = true) : costL l ≤ 299 := by
  unfold lightF at h
  have h1 : (0 : Int) ≤ lightL [l] 300 := of_decide_eq_true h
  have h2 : lightL [l] 300 = weighL (weighF 12) l 299 := rfl
  rw [h2] at h1
  have := weighL_cost (weighF 12) l (fun x _ left hx => weighF_cost 12 x left hx) 299 h1
  omega
theorem costL_len : ∀ l : List V, l.length ≤ costL l
  | [] => Nat.le_refl _
  | v :: r => by
    have := costL_len r
    have := cost_eq v
    simp only [costL, List.length_cons]
    omega
theorem costL_mem : ∀ {l : List V} {x : V}, x ∈ l → cost x ≤ costL l
  | [], x, h => by simp at h
  | v :: r, x, h => by
    simp only [costL]
    rcases List.mem_cons.1 h with e | e
    · rw [e]; omega
    · have := costL_mem e; omega
theorem nar_cost (v : V) : cost v ≤ 1000000 → nar v = true := by
  refine vind (P := fun v => cost v ≤ 1000000 → nar v = true) (fun k n d s l ih h => ?_) v
  have hl : ∀ l : List V, (∀ x ∈ l, cost x ≤ 1000000 → nar x = true) → costL l ≤ 1000000 → narL l = true := by
    intro l
    induction l with
    | nil => intro _ _; simp [narL]
    | cons a r ihr =>
      intro hx hc
      simp only [costL] at hc
      simp only [narL, Bool.and_eq_true]
      exact ⟨hx a (by simp) (by omega), ihr (fun x hm => hx x (by simp [hm])) (by omega)⟩
  simp only [cost] at h
  have := costL_len l
  simp only [nar, Bool.and_eq_true, decide_eq_true_eq]
  exact ⟨by omega, hl l ih (by omega)⟩
theorem narL_cost {l : List V} (h : costL l ≤ 299) : nar (vList l) = true := by
  refine nar_cost _ ?_
  rw [cost_eq]
  show 1 + (⟨#[]⟩ : ByteArray).size / 50 + costL l ≤ 1000000
  have : (⟨#[]⟩ : ByteArray).size = 0 := rfl
  omega
theorem narP_cost {l : List V} (h : costL l ≤ 299) : nar (vPath l) = true := by
  refine nar_cost _ ?_
  rw [cost_eq]
  show 1 + (⟨#[]⟩ : ByteArray).size / 50 + costL l ≤ 1000000
  have : (⟨#[]⟩ : ByteArray).size = 0 := rfl
  omega
theorem join_len_le (sep : List UInt8) (c : V → Nat) : ∀ l : List V, sep.length ≤ 2 → (∀ x ∈ l, (txt x).length + 2 ≤ c x) → (Lib.join (l.map txt) sep).length ≤ (l.map c).sum
  | [], _, _ => by simp [Lib.join_nil]
  | x :: r, hs, h => by
    have key : ∀ q : List V, (∀ x ∈ q, (txt x).length + 2 ≤ c x) → (Lib.joinTail sep (q.map txt)).length ≤ (q.map c).sum := by
      intro q
      induction q with
      | nil => intro _; simp [Lib.joinTail]
      | cons y q ih =>
        intro hq
        have e : Lib.joinTail sep ((y :: q).map txt) = (sep ++ txt y) ++ Lib.joinTail sep (q.map txt) := rfl
        have h1 := hq y (by simp)
        have h2 := ih fun z hz => hq z (by simp [hz])
        rw [e, List.length_append, List.length_append]
        simp only [List.map_cons, List.sum_cons]
        omega
    have h1 := h x (by simp)
    have h2 := key r fun z hz => h z (by simp [hz])
    rw [List.map_cons, Lib.join_cons, List.length_append]
    simp only [List.map_cons, List.sum_cons]
    omega
theorem sum_cost (l : List V) : (l.map fun v => 150 * cost v).sum = 150 * costL l := by
  induction l with
  | nil => rfl
  | cons v r ih => simp only [List.map_cons, List.sum_cons, costL, ih]; omega
theorem okV_2 {n d : Int} {s : ByteArray} {l : List V} (h : Val.okV (.mk 2 n d s l) = true) : inM n = true := by
  unfold Val.okV at h
  rw [okN_flat 8 2 n d s l (by omega) (by omega)] at h
  simp [okFlat, V.k, V.n, V.d, V.s, V.l] at h
  exact h.2
theorem okV_56 {k n d : Int} {s : ByteArray} {l : List V} (hk : k = 5 ∨ k = 6) (h : Val.okV (.mk k n d s l) = true) : 1 ≤ n ∧ n ≤ 1000000 := by
  unfold Val.okV at h
  rw [okN_flat 8 k n d s l (by omega) (by omega)] at h
  rcases hk with rfl | rfl
  · simp [okFlat, V.k, V.n, V.d, V.s, V.l] at h
    exact ⟨h.2.1, of_decide_eq_true h.2.2⟩
  · simp [okFlat, V.k, V.n, V.d, V.s, V.l] at h
    exact ⟨h.2.1, of_decide_eq_true h.2.2⟩
theorem itoa_len' {n : Int} (h : -1000000000000000 ≤ n ∧ n ≤ 1000000000000000) : (Lib.itoa n).length ≤ 21 := Lib.itoa_length_le n (by omega) (by omega)
theorem txt_len (v : V) : (txt v).length + 2 ≤ 150 * cost v := by
  refine vind (P := fun v => (txt v).length + 2 ≤ 150 * cost v) (fun k n d s l ih => ?_) v
  have hc : 1 ≤ cost (.mk k n d s l) := by simp only [cost]; omega
  cases hok : Val.okV (.mk k n d s l) with
  | false =>
    have e : txt (.mk k n d s l) = [63] := by simp only [txt, hok]; rfl
    rw [e]
    simp only [List.length_cons, List.length_nil]
    omega
  | true =>
    have hk := okV_k hok
    simp only [V.k] at hk
    rcases hk with rfl | rfl | rfl | rfl | rfl | rfl | rfl | rfl | rfl
    · have e : txt (.mk 0 n d s l) = [110, 117, 108, 108] := by simp only [txt, hok]; rfl
      rw [e]
      simp only [List.length_cons, List.length_nil]
      omega
    · have e : txt (.mk 1 n d s l) = (bif n == 1 then [116, 114, 117, 101] else [102, 97, 108, 115, 101]) := by simp only [txt, hok]; rfl
      rw [e]
      cases n == 1 <;> simp only [cond_true, cond_false, List.length_cons, List.length_nil] <;> omega
    · have e : txt (.mk 2 n d s l) = Lib.itoa n := by simp only [txt, hok]; rfl
      have := itoa_len' ((inM_iff n).1 (okV_2 hok))
      rw [e]
      omega
    · have e : txt (.mk 3 n d s l) = Lib.itoa n ++ [47] ++ Lib.itoa d := by simp only [txt, hok]; rfl
      obtain ⟨h2, h3⟩ := okV_3 hok
      simp only [fval, Bool.and_eq_true, decide_eq_true_eq] at h3
      have h4 := (inM_iff n).1 h3.2.2.1
      have := itoa_len' h4
      have := itoa_len' (n := d) (by omega)
      rw [e, List.length_append, List.length_append]
      simp only [List.length_cons, List.length_nil]
      omega
    · have e : txt (.mk 4 n d s l) = [39] ++ dbl s.data.toList ++ [39] := by simp only [txt, hok]; rfl
      have := dbl_len s.data.toList
      have : s.data.toList.length = s.size := by simp
      have hcc : cost (.mk 4 n d s l) = 1 + s.size / 50 + costL l := by simp only [cost]
      rw [e, List.length_append, List.length_append]
      simp only [List.length_cons, List.length_nil]
      omega
    · have e : txt (.mk 5 n d s l) = [35] ++ Lib.itoa n := by simp only [txt, hok]; rfl
      have h5 := okV_56 (.inl rfl) hok
      have := itoa_len' (n := n) (by omega)
      rw [e, List.length_append]
      simp only [List.length_cons, List.length_nil]
      omega
    · have e : txt (.mk 6 n d s l) = [64] ++ Lib.itoa n := by simp only [txt, hok]; rfl
      have h5 := okV_56 (.inr rfl) hok
      have := itoa_len' (n := n) (by omega)
      rw [e, List.length_append]
      simp only [List.length_cons, List.length_nil]
      omega
    · have e : txt (.mk 7 n d s l) = [60] ++ Lib.join (l.map txt) [32] ++ [62] := by simp only [txt, hok, txtL_map]; rfl
      have hj := join_len_le [32] (fun v => 150 * cost v) l (by simp) ih
      rw [sum_cost] at hj
      have hcc : cost (.mk 7 n d s l) = 1 + s.size / 50 + costL l := by simp only [cost]
      rw [e, List.length_append, List.length_append]
      simp only [List.length_cons, List.length_nil]
      omega
    · have e : txt (.mk 8 n d s l) = [91] ++ Lib.join (l.map txt) [44, 32] ++ [93] := by simp only [txt, hok, txtL_map]; rfl
      have hj := join_len_le [44, 32] (fun v => 150 * cost v) l (by simp) ih
      rw [sum_cost] at hj
      have hcc : cost (.mk 8 n d s l) = 1 + s.size / 50 + costL l := by simp only [cost]
      rw [e, List.length_append, List.length_append]
      simp only [List.length_cons, List.length_nil]
      omega
theorem txt_small {l : List V} {v : V} (h : costL l ≤ 299) (hm : v ∈ l) : (txt v).length ≤ 1099511627776 := by
  have h1 := txt_len v
  have h2 := costL_mem hm
  omega
theorem sameF_refl (v : V) : sameF v v = true := by
  refine vind (P := fun v => sameF v v = true) (fun k n d s l ih => ?_) v
  rw [sameF_eq]
  have hl : ∀ l : List V, (∀ x ∈ l, sameF x x = true) → sameL l l = true := by
    intro l
    induction l with
    | nil => intro _; simp [sameL]
    | cons a r ihr =>
      intro h
      simp only [sameL, Bool.and_eq_true]
      exact ⟨h a (by simp), ihr fun x hx => h x (by simp [hx])⟩
  simp [headSame, hl l ih, V.l]
end Go.Proofs.YtpjnngfjbcjikaaDoor
