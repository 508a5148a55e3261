/- Plain laws of the orders: the order of values is transitive, and 0 for identical values alone. Conditions: none. -/
import Derived.Test.YtpjnngfjbcjikaaDoorM29
namespace Go.Proofs.YtpjnngfjbcjikaaDoor
open Go Go.Abs Go.Val Go.RowKit

def TrS {α : Type} (c : α → α → Int) (S : α → Prop) : Prop := ∀ p q r, S p → S q → S r → c p q ≤ 0 → c q r ≤ 0 → c p r ≤ 0
theorem or_tr {α : Type} {c1 c2 : α → α → Int} {S : α → Prop} (a1 : ∀ x y, c1 y x = - c1 x y) (t1 : TrS c1 S) (t2 : ∀ p q r, S p → S q → S r → c1 p q = 0 → c1 q r = 0 → c1 p r = 0 → c2 p q ≤ 0 → c2 q r ≤ 0 → c2 p r ≤ 0) :
    TrS (fun x y => orI (c1 x y) (c2 x y)) S := by
  intro p q r hp hq hr h1 h2
  have key : ∀ x y, orI (c1 x y) (c2 x y) ≤ 0 → c1 x y ≤ 0 ∧ (c1 x y = 0 → c2 x y ≤ 0) := by
    intro x y h
    unfold orI at h
    cases hb : c1 x y != 0 with
    | true => rw [hb] at h; simp only [cond_true] at h; exact ⟨h, fun e => by rw [e] at hb; cases hb⟩
    | false => rw [hb] at h; simp only [cond_false] at h; have : c1 x y = 0 := by simpa using hb
               exact ⟨by omega, fun _ => h⟩
  obtain ⟨k1, k2⟩ := key p q h1
  obtain ⟨k3, k4⟩ := key q r h2
  have k5 := t1 p q r hp hq hr k1 k3
  show orI (c1 p r) (c2 p r) ≤ 0
  unfold orI
  cases hb : c1 p r != 0 with
  | true => exact k5
  | false =>
    have e : c1 p r = 0 := by simpa using hb
    simp only [cond_false]
    have e1 : c1 r p ≤ 0 := by rw [a1 p r]; omega
    have e2 := t1 r p q hr hp hq e1 k1
    have e3 := a1 q r
    have e4 : c1 q r = 0 := by omega
    have e5 := t1 q r p hq hr hp k3 e1
    have e6 := a1 p q
    have e7 : c1 p q = 0 := by omega
    exact t2 p q r hp hq hr e7 e4 e (k2 e7) (k4 e4)
theorem ci_tr : TrS ci (fun _ => True) := by
  intro p q r _ _ _ h1 h2
  have key : ∀ x y, ci x y ≤ 0 → x ≤ y := by
    intro x y h
    rcases (show x ≤ y ∨ x > y by omega) with h' | h'
    · exact h'
    · rw [ci_gt h'] at h; omega
  have := key p q h1
  have := key q r h2
  rcases (show p < r ∨ p = r by omega) with h | h
  · rw [ci_lt h]; omega
  · rw [h, ci_eq]; omega
theorem bl_trans : ∀ a b c : List UInt8, Op.bytesLess b a = false → Op.bytesLess c b = false → Op.bytesLess c a = false
  | [], _, _, _, _ => by
    rename_i b c _ _
    cases c <;> rfl
  | x :: a, [], c, h, _ => by simp [Op.bytesLess] at h
  | x :: a, y :: b, [], _, h => by simp [Op.bytesLess] at h
  | x :: a, y :: b, z :: c, h1, h2 => by
    simp only [Op.bytesLess, Bool.or_eq_false_iff, Bool.and_eq_false_iff, decide_eq_false_iff_not, beq_eq_false_iff_ne] at h1 h2 ⊢
    obtain ⟨p1, p2⟩ := h1
    obtain ⟨q1, q2⟩ := h2
    have p1' : ¬ y.toNat < x.toNat := p1
    have q1' : ¬ z.toNat < y.toNat := q1
    refine ⟨fun h => ?_, ?_⟩
    · have : z.toNat < x.toNat := h
      omega
    · by_cases hzx : z = x
      · right
        subst hzx
        have hy : y = z := UInt8.toNat_inj.1 (by omega)
        subst hy
        have p3 := p2.resolve_left (fun h => h rfl)
        have q3 := q2.resolve_left (fun h => h rfl)
        exact bl_trans a b c p3 q3
      · exact .inl hzx
theorem cs_le (a b : ByteArray) : cs a b ≤ 0 ↔ Op.bytesLess b.toList a.toList = false := by
  rcases bl_tri a.toList b.toList with ⟨h1, h2, h3⟩ | ⟨h1, h2, h3⟩ | ⟨h1, h2, h3⟩
  · unfold cs; rw [h1, h2]; simp
  · have : (a.toList == b.toList) = false := by rw [beq_eq_false_iff_ne]; exact h3
    unfold cs; rw [h1, h2, this]; simp
  · unfold cs; rw [h1, h2, h3]; simp
theorem cs_tr : TrS cs (fun _ => True) := by
  intro p q r _ _ _ h1 h2
  rw [cs_le] at *
  exact bl_trans _ _ _ h1 h2
theorem cmpL_tr {g : V → V → Int} {S : V → Prop} (ga : ∀ x y, g y x = - g x y) (gt : TrS g S) : ∀ n : Nat, TrS (cmpL g) (fun l => l.length ≤ n ∧ ∀ x ∈ l, S x)
  | 0 => by
    rintro p q r ⟨h1, -⟩ ⟨h2, -⟩ ⟨h3, -⟩ _ _
    obtain rfl : p = [] := List.eq_nil_of_length_eq_zero (by omega)
    obtain rfl : r = [] := List.eq_nil_of_length_eq_zero (by omega)
    exact Int.le_refl _
  | n + 1 => by
    have ih := cmpL_tr ga gt n
    rintro p q r ⟨h1, s1⟩ ⟨h2, s2⟩ ⟨h3, s3⟩ k1 k2
    cases p with
    | nil => cases r <;> simp [cmpL]
    | cons x p =>
      cases q with
      | nil => simp [cmpL] at k1
      | cons y q =>
        cases r with
        | nil => simp [cmpL] at k2
        | cons z r =>
          have := or_tr (α := V × List V) (c1 := fun a b => g a.1 b.1) (c2 := fun a b => cmpL g a.2 b.2) (S := fun a => S a.1 ∧ a.2.length ≤ n ∧ ∀ w ∈ a.2, S w) (fun a b => ga a.1 b.1)
            (fun a b c ha hb hc => gt a.1 b.1 c.1 ha.1 hb.1 hc.1) (fun a b c ha hb hc _ _ _ => ih a.2 b.2 c.2 ha.2 hb.2 hc.2)
            (x, p) (y, q) (z, r) ⟨s1 x (by simp), by simpa using h1, fun w hw => s1 w (by simp [hw])⟩ ⟨s2 y (by simp), by simpa using h2, fun w hw => s2 w (by simp [hw])⟩ ⟨s3 z (by simp), by simpa using h3, fun w hw => s3 w (by simp [hw])⟩
          exact this k1 k2
theorem cmpQ_tr {a b c : V} (ha : isNum a = true) (hb : isNum b = true) (hc : isNum c = true) (h1 : cmpQ (numN a) (numD a) (numN b) (numD b) ≤ 0) (h2 : cmpQ (numN b) (numD b) (numN c) (numD c) ≤ 0) : cmpQ (numN a) (numD a) (numN c) (numD c) ≤ 0 := by
  have key : ∀ {x y : V}, isNum x = true → isNum y = true → (cmpQ (numN x) (numD x) (numN y) (numD y) ≤ 0 ↔ numN x * numD y ≤ numN y * numD x) := by
    intro x y hx hy
    unfold cmpQ fzn fzd
    rw [fval_num hx, fval_num hy]
    simp only [cond_true]
    unfold sgn
    split
    · constructor <;> intro _ <;> omega
    · split
      · constructor <;> intro _ <;> omega
      · constructor <;> intro _ <;> omega
  rw [key ha hb] at h1
  rw [key hb hc] at h2
  rw [key ha hc]
  have pos : ∀ {x : V}, isNum x = true → 1 ≤ numD x := by
    intro x hx
    have := fval_num hx
    simp only [fval, Bool.and_eq_true, decide_eq_true_eq] at this
    exact this.1
  have pa := pos ha
  have pb := pos hb
  have pc := pos hc
  generalize numN a = an at *
  generalize numN b = bn at *
  generalize numN c = cn at *
  generalize numD a = ad at *
  generalize numD b = bd at *
  generalize numD c = cd at *
  have e1 := Int.mul_le_mul_of_nonneg_right h1 (show 0 ≤ cd by omega)
  have e2 := Int.mul_le_mul_of_nonneg_right h2 (show 0 ≤ ad by omega)
  have e3 : bn * ad * cd = bn * cd * ad := by rw [Int.mul_assoc, Int.mul_comm ad cd, ← Int.mul_assoc]
  have e4 : an * bd * cd = an * cd * bd := by rw [Int.mul_assoc, Int.mul_comm bd cd, ← Int.mul_assoc]
  have e5 : cn * bd * ad = cn * ad * bd := by rw [Int.mul_assoc, Int.mul_comm bd ad, ← Int.mul_assoc]
  have e6 : an * cd * bd ≤ cn * ad * bd := by omega
  exact Int.le_of_mul_le_mul_right e6 (by omega)
mutual
def dep : V → Nat
  | .mk _ _ _ _ l => depL l + 1
def depL : List V → Nat
  | [] => 0
  | v :: r => max (dep v) (depL r)
end
theorem depL_mem : ∀ {l : List V} {x : V}, x ∈ l → dep x ≤ depL l
  | [], x, h => by simp at h
  | v :: r, x, h => by
    simp only [depL]
    rcases List.mem_cons.1 h with e | e
    · rw [e]; omega
    · have := depL_mem e; omega
theorem dep_l (v : V) : dep v = depL v.l + 1 := by cases v; simp [dep, V.l]
attribute [local irreducible] ordF
def iv (v : V) : Int := bif Val.okV v then 0 else 1
/-- The order as one lexicographic order. -/
theorem ordF_lex (a b : V) : ordF a b = orI (ci (iv a) (iv b)) (orI (bif Val.okV a then ci (rcls a.k) (rcls b.k) else 0) (bif isNum a then cmpQ (numN a) (numD a) (numN b) (numD b) else headO a b (cmpL ordF a.l b.l))) := by
  rw [ordF_eq]
  unfold stepO iv
  cases ha : Val.okV a with
  | false =>
    have : isNum a = false := by unfold isNum; rw [ha, Bool.and_false]
    rw [this]
    cases hb : Val.okV b <;> rfl
  | true =>
    cases hb : Val.okV b with
    | false => rfl
    | true =>
      simp only [bne_self_eq_false, cond_false, Bool.not_true, cond_true, ci_eq]
      unfold orI
      simp only [bne_self_eq_false, cond_false]
theorem head_tr {S : V → Prop} {L : V → V → Int} (hl : TrS L S) : TrS (fun a b => headO a b (L a b)) S := by
  have c4 : TrS (fun a b : V => orI (cs a.s b.s) (L a b)) S :=
    or_tr (c1 := fun a b : V => cs a.s b.s) (c2 := L) (S := S) (fun x y => cs_anti _ _) (fun p q r _ _ _ => cs_tr _ _ _ trivial trivial trivial) (fun p q r hp hq hr _ _ _ => hl p q r hp hq hr)
  have c3 : TrS (fun a b : V => orI (ci a.d b.d) (orI (cs a.s b.s) (L a b))) S :=
    or_tr (c1 := fun a b : V => ci a.d b.d) (c2 := fun a b : V => orI (cs a.s b.s) (L a b)) (S := S) (fun x y => ci_anti _ _) (fun p q r _ _ _ => ci_tr _ _ _ trivial trivial trivial) (fun p q r hp hq hr _ _ _ => c4 p q r hp hq hr)
  have c2 : TrS (fun a b : V => orI (ci a.n b.n) (orI (ci a.d b.d) (orI (cs a.s b.s) (L a b)))) S :=
    or_tr (c1 := fun a b : V => ci a.n b.n) (c2 := fun a b : V => orI (ci a.d b.d) (orI (cs a.s b.s) (L a b))) (S := S) (fun x y => ci_anti _ _) (fun p q r _ _ _ => ci_tr _ _ _ trivial trivial trivial) (fun p q r hp hq hr _ _ _ => c3 p q r hp hq hr)
  exact or_tr (c1 := fun a b : V => ci a.k b.k) (c2 := fun a b : V => orI (ci a.n b.n) (orI (ci a.d b.d) (orI (cs a.s b.s) (L a b)))) (S := S) (fun x y => ci_anti _ _) (fun p q r _ _ _ => ci_tr _ _ _ trivial trivial trivial) (fun p q r hp hq hr _ _ _ => c2 p q r hp hq hr)
theorem ordF_tr : ∀ n : Nat, TrS ordF (fun v => dep v ≤ n)
  | 0 => by
    intro p q r hp
    have : dep p ≤ 0 := hp
    rw [dep_l] at this
    omega
  | n + 1 => by
    have ih := ordF_tr n
    have hl : ∀ p q r : V, dep p ≤ n + 1 → dep q ≤ n + 1 → dep r ≤ n + 1 → cmpL ordF p.l q.l ≤ 0 → cmpL ordF q.l r.l ≤ 0 → cmpL ordF p.l r.l ≤ 0 := by
      intro p q r hp hq hr
      rw [dep_l] at hp hq hr
      have hm : ∀ {v : V}, depL v.l + 1 ≤ n + 1 → ∀ x ∈ v.l, dep x ≤ n := fun h x hx => by have := depL_mem hx; omega
      exact cmpL_tr (fun x y => ordF_anti x y) ih (p.l.length + q.l.length + r.l.length) p.l q.l r.l ⟨by omega, hm hp⟩ ⟨by omega, hm hq⟩ ⟨by omega, hm hr⟩
    have hh : TrS (fun a b => headO a b (cmpL ordF a.l b.l)) (fun v => dep v ≤ n + 1) := head_tr (S := fun v => dep v ≤ n + 1) (L := fun a b => cmpL ordF a.l b.l) hl
    intro p q r hp hq hr
    rw [ordF_lex p q, ordF_lex q r, ordF_lex p r]
    have main := or_tr (c1 := fun a b => ci (iv a) (iv b)) (c2 := fun a b => orI (bif Val.okV a then ci (rcls a.k) (rcls b.k) else 0) (bif isNum a then cmpQ (numN a) (numD a) (numN b) (numD b) else headO a b (cmpL ordF a.l b.l))) (S := fun v => dep v ≤ n + 1)
      (fun x y => ci_anti _ _) (fun p q r _ _ _ => ci_tr _ _ _ trivial trivial trivial) ?_ p q r hp hq hr
    · exact main
    · intro p q r hp hq hr e1 e2 e3
      have hiv : ∀ {x y : V}, ci (iv x) (iv y) = 0 → Val.okV x = Val.okV y := by
        intro x y h
        unfold iv at h
        cases hx : Val.okV x <;> cases hy : Val.okV y <;> first | rfl | (rw [hx, hy] at h; cases h)
      have v1 := hiv e1
      have v2 := hiv e2
      cases hp' : Val.okV p with
      | false =>
        rw [hp'] at v1
        rw [← v1] at v2
        have n1 : isNum p = false := by unfold isNum; rw [hp', Bool.and_false]
        have n2 : isNum q = false := by unfold isNum; rw [← v1, Bool.and_false]
        rw [← v1, n1, n2]
        exact hh p q r hp hq hr
      | true =>
        rw [hp'] at v1
        rw [← v1] at v2
        rw [← v1]
        simp only [cond_true]
        refine or_tr (α := V) (c1 := fun a b => ci (rcls a.k) (rcls b.k)) (c2 := fun a b => bif isNum a then cmpQ (numN a) (numD a) (numN b) (numD b) else headO a b (cmpL ordF a.l b.l)) (S := fun v => dep v ≤ n + 1 ∧ Val.okV v = true)
          (fun x y => ci_anti _ _) (fun p q r _ _ _ => ci_tr _ _ _ trivial trivial trivial) (fun p q r hp hq hr e1 e2 e3 => ?_) p q r ⟨hp, hp'⟩ ⟨hq, v1.symm⟩ ⟨hr, v2.symm⟩
        have m1 := rcls_num hp.2 hq.2 (by simpa using e1)
        have m2 := rcls_num hq.2 hr.2 (by simpa using e2)
        cases hn : isNum p with
        | true =>
          rw [hn] at m1
          rw [m1] at m2
          rw [m1]
          simp only [cond_true]
          exact cmpQ_tr hn m1 m2
        | false =>
          rw [hn] at m1
          rw [m1]
          simp only [cond_false]
          exact hh p q r hp.1 hq.1 hr.1
theorem ordF_trans (a b c : V) (h1 : ordF a b ≤ 0) (h2 : ordF b c ≤ 0) : ordF a c ≤ 0 :=
  ordF_tr (dep a + dep b + dep c) a b c (by show dep a ≤ _; omega) (by show dep b ≤ _; omega) (by show dep c ≤ _; omega) h1 h2

/-! ## Identical values -/
theorem ba_ext {a b : ByteArray} (h : a.toList = b.toList) : a = b := by
  rw [ByteArray.toList_eq, ByteArray.toList_eq] at h
  apply ByteArray.ext
  exact Array.toList_inj.1 h
theorem sameF_iff (a : V) : ∀ b : V, sameF a b = true ↔ a = b := by
  refine vind (P := fun a => ∀ b : V, sameF a b = true ↔ a = b) (fun k n d s l ih b => ?_) a
  constructor
  · intro h
    rw [sameF_eq] at h
    simp only [Bool.and_eq_true, headSame, beq_iff_eq] at h
    obtain ⟨⟨h1, h2, h3, h4, h5⟩, h6⟩ := h
    have hl : ∀ l m : List V, (∀ x ∈ l, ∀ b, sameF x b = true ↔ x = b) → l.length = m.length → sameL l m = true → l = m := by
      intro l
      induction l with
      | nil => intro m _ hl _; exact (List.eq_nil_of_length_eq_zero (by simpa using hl.symm)).symm
      | cons x r ihr =>
        intro m hx hl hs
        cases m with
        | nil => simp at hl
        | cons y q =>
          simp only [sameL, Bool.and_eq_true] at hs
          rw [(hx x (by simp) y).1 hs.1, ihr q (fun z hz => hx z (by simp [hz])) (by simpa using hl) hs.2]
    obtain ⟨k', n', d', s', l'⟩ := b
    simp only [V.k, V.n, V.d, V.s, V.l] at h1 h2 h3 h4 h6
    have h5' : l.length = l'.length := by
      have := kids_len (.mk k n d s l)
      have := kids_len (.mk k' n' d' s' l')
      simp only [V.l] at *
      omega
    rw [h1, h2, h3, ba_ext h4, hl l l' ih h5' h6]
  · rintro rfl
    exact sameF_refl _
theorem ordF_self (a : V) : ordF a a = 0 := by have := ordF_anti a a; omega
theorem ci_zero {x y : Int} (h : ci x y = 0) : x = y := by
  rcases (show x < y ∨ x = y ∨ x > y by omega) with h' | h' | h'
  · rw [ci_lt h'] at h; cases h
  · exact h'
  · rw [ci_gt h'] at h; cases h
theorem cs_zero {a b : ByteArray} (h : cs a b = 0) : a = b := by
  rcases cs_cases a b with ⟨h1, _, _⟩ | ⟨h1, _, _⟩ | ⟨_, _, h3⟩
  · rw [h1] at h; cases h
  · rw [h1] at h; cases h
  · exact ba_ext h3
theorem orI_zero {x y : Int} (h : orI x y = 0) : x = 0 ∧ y = 0 := by
  unfold orI at h
  cases hb : x != 0 with
  | true => rw [hb] at h; simp only [cond_true] at h; rw [h] at hb; cases hb
  | false => rw [hb] at h; exact ⟨by simpa using hb, h⟩
theorem num_eq {a b : V} (ha : isNum a = true) (hb : isNum b = true) (h1 : numN a = numN b) (h2 : numD a = numD b) : a = b := by
  have va : Val.okV a = true := by unfold isNum at ha; simp only [Bool.and_eq_true] at ha; exact ha.2
  have vb : Val.okV b = true := by unfold isNum at hb; simp only [Bool.and_eq_true] at hb; exact hb.2
  have ka : a.k = 2 ∨ a.k = 3 := by unfold isNum at ha; simp only [Bool.and_eq_true, Bool.or_eq_true, beq_iff_eq] at ha; exact ha.1
  have kb : b.k = 2 ∨ b.k = 3 := by unfold isNum at hb; simp only [Bool.and_eq_true, Bool.or_eq_true, beq_iff_eq] at hb; exact hb.1
  obtain ⟨a1, a2, -, -, a5⟩ := okV_bare va
  obtain ⟨b1, b2, -, -, b5⟩ := okV_bare vb
  unfold numN at h1
  unfold numD at h2
  rw [ha, hb] at h1 h2
  simp only [cond_true] at h1 h2
  obtain ⟨k, n, d, s, l⟩ := a
  obtain ⟨k', n', d', s', l'⟩ := b
  simp only [V.k, V.n, V.d, V.s, V.l] at *
  have hs : s = s' := ba_ext (by rw [a2 (by omega), b2 (by omega)])
  have hl : l = l' := by rw [a5 (by omega) (by omega), b5 (by omega) (by omega)]
  subst hs hl h1
  rcases ka with rfl | rfl <;> rcases kb with rfl | rfl
  · rw [a1 (by omega), b1 (by omega)]
  · exfalso
    have := (okV_3 vb).1
    have h2' : (1 : Int) = d' := h2
    omega
  · exfalso
    have := (okV_3 va).1
    have h2' : d = (1 : Int) := h2
    omega
  · have h2' : d = d' := h2
    rw [h2']
theorem cmpL_zero : ∀ (a b : List V), (∀ x ∈ a, ∀ y, ordF x y = 0 → x = y) → cmpL ordF a b = 0 → a = b
  | [], [], _, _ => rfl
  | [], _ :: _, _, h => by simp [cmpL] at h
  | _ :: _, [], _, h => by simp [cmpL] at h
  | x :: r, y :: q, hx, h => by
    simp only [cmpL] at h
    obtain ⟨h1, h2⟩ := orI_zero h
    rw [hx x (by simp) y h1, cmpL_zero r q (fun z hz => hx z (by simp [hz])) h2]
theorem ordF_zero (a : V) : ∀ b : V, ordF a b = 0 → a = b := by
  refine vind (P := fun a => ∀ b : V, ordF a b = 0 → a = b) (fun k n d s l ih b h => ?_) a
  rw [ordF_lex] at h
  obtain ⟨h1, h2⟩ := orI_zero h
  obtain ⟨h3, h4⟩ := orI_zero h2
  have hv : Val.okV (.mk k n d s l) = Val.okV b := by
    have := ci_zero h1
    unfold iv at this
    cases hx : Val.okV (.mk k n d s l) <;> cases hy : Val.okV b <;> first | rfl | (rw [hx, hy] at this; cases this)
  have hhead : headO (.mk k n d s l) b (cmpL ordF (V.mk k n d s l).l b.l) = 0 → V.mk k n d s l = b := by
    intro h
    unfold headO at h
    obtain ⟨e1, h⟩ := orI_zero h
    obtain ⟨e2, h⟩ := orI_zero h
    obtain ⟨e3, h⟩ := orI_zero h
    obtain ⟨e4, h⟩ := orI_zero h
    have e5 := cmpL_zero l b.l ih h
    have e1 := ci_zero e1
    have e2 := ci_zero e2
    have e3 := ci_zero e3
    have e4 := cs_zero e4
    obtain ⟨k', n', d', s', l'⟩ := b
    simp only [V.k, V.n, V.d, V.s, V.l] at e1 e2 e3 e4 e5
    rw [e1, e2, e3, e4, e5]
  cases hn : isNum (.mk k n d s l) with
  | false => rw [hn] at h4; exact hhead h4
  | true =>
    rw [hn] at h4
    simp only [cond_true] at h4
    have hok : Val.okV (.mk k n d s l) = true := by unfold isNum at hn; simp only [Bool.and_eq_true] at hn; exact hn.2
    rw [hok] at h3 hv
    have hm : isNum b = true := by rw [rcls_num hok hv.symm (by simpa using h3), hn]
    have hz := cmpQ_zero hn hm
    rw [h4] at hz
    have hz' : ((numN (.mk k n d s l) == numN b) && (numD (.mk k n d s l) == numD b)) = true := hz.symm
    simp only [Bool.and_eq_true, beq_iff_eq] at hz'
    exact num_eq hn hm hz'.1 hz'.2
theorem ord_same (a b : V) : (ordF a b == 0) = sameF a b := by
  rw [Bool.eq_iff_iff, beq_iff_eq, sameF_iff]
  exact ⟨ordF_zero a b, fun h => by rw [h]; exact ordF_self _⟩
end Go.Proofs.YtpjnngfjbcjikaaDoor
