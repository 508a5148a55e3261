/- The engine's rule for regions whose order is drawn: what is reckoned in the text's order holds in every order that the edges allow. Conditions: 'ordOK', asked of the region's text. -/
import Derived.Test.YtpjnngfjbcjikaaDoorEng2
namespace Go.Abs
open Go Go.RowKit

def edgeOn (o : Oper) (j : Nat) : Bool := o.after.any fun e => Region.binds .any e && Nat.beq e.on j
/-- Each edge leads back and binds; no two operations write one slot; whoever looks at a slot that another operation writes has an edge to that one, or that one has an edge to him. -/
def ordOK (l : List Oper) : Bool :=
  (List.range l.length).all fun i => match l[i]? with
    | none => true
    | some o => (o.after.all fun e => !(Region.binds .any e) || Nat.blt e.on i) &&
      (List.range l.length).all fun j => match l[j]? with
        | none => true
        | some p => match p.dst with
          | none => true
          | some t => Nat.beq i j || ((o.dst != some t) && (!((o.looksAt l.toArray).contains t) || (if j < i then edgeOn o j else edgeOn p i)))

structure OrdOK (l : List Oper) : Prop where
  back : ∀ (i : Nat) (o : Oper) (e : Edge), l[i]? = some o → e ∈ o.after → Region.binds .any e = true → e.on < i
  uniq : ∀ (i j : Nat) (o p : Oper) t, i ≠ j → l[i]? = some o → l[j]? = some p → p.dst = some t → o.dst ≠ some t
  looks : ∀ (i j : Nat) (o p : Oper) t, i ≠ j → l[i]? = some o → l[j]? = some p → p.dst = some t → t ∈ o.looksAt l.toArray → (j < i → ∃ e ∈ o.after, Region.binds .any e = true ∧ e.on = j) ∧ (¬ j < i → ∃ e ∈ p.after, Region.binds .any e = true ∧ e.on = i)

theorem edgeOn_spec {o : Oper} {j : Nat} (h : edgeOn o j = true) : ∃ e ∈ o.after, Region.binds .any e = true ∧ e.on = j := by
  unfold edgeOn at h
  obtain ⟨i, hi, he⟩ := Array.any_eq_true.1 h
  rw [Bool.and_eq_true] at he
  exact ⟨o.after[i], Array.getElem_mem hi, he.1, Nat.eq_of_beq_eq_true he.2⟩

theorem ordOK_spec {l : List Oper} (h : ordOK l = true) : OrdOK l := by
  have hlt : ∀ (i : Nat) (o : Oper), l[i]? = some o → i ∈ List.range l.length := fun i o ho => by
    rw [List.mem_range]
    exact (List.getElem?_eq_some_iff.1 ho).1
  have hmain : ∀ (i : Nat) (o : Oper), l[i]? = some o → (o.after.all fun e => !(Region.binds .any e) || Nat.blt e.on i) = true ∧
      ∀ (j : Nat) (p : Oper) t, l[j]? = some p → p.dst = some t → Nat.beq i j = true ∨ ((o.dst != some t) = true ∧ (!((o.looksAt l.toArray).contains t) || (if j < i then edgeOn o j else edgeOn p i)) = true) := by
    intro i o ho
    have h1 := List.all_eq_true.1 h i (hlt i o ho)
    simp only [ho, Bool.and_eq_true] at h1
    refine ⟨h1.1, fun j p t hp ht => ?_⟩
    have h2 := List.all_eq_true.1 h1.2 j (hlt j p hp)
    simp only [hp, ht, Bool.or_eq_true, Bool.and_eq_true] at h2
    rcases h2 with h2 | h2
    · exact .inl h2
    · exact .inr ⟨h2.1, by simpa using h2.2⟩
  refine ⟨fun i o e ho he hbd => ?_, fun i j o p t hij ho hp ht => ?_, fun i j o p t hij ho hp ht hl => ?_⟩
  · have := (hmain i o ho).1
    obtain ⟨k, hk, rfl⟩ := Array.getElem_of_mem he
    have := Array.all_eq_true.1 this k hk
    rw [hbd] at this
    simpa using this
  · rcases (hmain i o ho).2 j p t hp ht with h1 | h1
    · exact absurd (Nat.eq_of_beq_eq_true h1) hij
    · simpa using h1.1
  · rcases (hmain i o ho).2 j p t hp ht with h1 | h1
    · exact absurd (Nat.eq_of_beq_eq_true h1) hij
    · have h2 := h1.2
      have hc : (o.looksAt l.toArray).contains t = true := by simpa using hl
      rw [hc] at h2
      simp only [Bool.not_true, Bool.false_or] at h2
      refine ⟨fun hlt => ?_, fun hlt => ?_⟩
      · rw [if_pos hlt] at h2; exact edgeOn_spec h2
      · rw [if_neg hlt] at h2; exact edgeOn_spec h2

/-- The state behind the first operations, each with what it yields (none: passed over). -/
def stps (s : St) : List (Oper × Option X) → St
  | [] => s
  | (o, x) :: r => stps (s.put o.dst (x.getD .und)) r

theorem stps_ob (s : St) (l : List (Oper × Option X)) : (stps s l).ob = s.ob := by
  induction l generalizing s with
  | nil => rfl
  | cons p r ih => obtain ⟨o, x⟩ := p; simp only [stps]; rw [ih, St.put_ob]

theorem stps_append (s : St) (l m : List (Oper × Option X)) : stps s (l ++ m) = stps (stps s l) m := by
  induction l generalizing s with
  | nil => rfl
  | cons p r ih => obtain ⟨o, x⟩ := p; exact ih _

/-- A slot that nobody writes holds what it held. -/
theorem lk_stps_other (s : St) (l : List (Oper × Option X)) (t : Nat) (h : ∀ p ∈ l, p.1.dst ≠ some t) : lk (stps s l).tm t = lk s.tm t := by
  induction l generalizing s with
  | nil => rfl
  | cons p r ih =>
    obtain ⟨o, x⟩ := p
    simp only [stps]
    rw [ih _ fun p hp => h p (by simp [hp])]
    have hne := h (o, x) (by simp)
    cases hd : o.dst with
    | none => rfl
    | some d =>
      simp only [St.put, lk]
      cases hb : Nat.beq d t with
      | true => exact absurd (by rw [hd, Nat.eq_of_beq_eq_true hb]) hne
      | false => rfl
theorem lk_put_same (s : St) (t : Nat) (x : X) : lk (s.put (some t) x).tm t = x := by
  simp [St.put, lk]
/-- A slot that one operation writes holds what that one yields. -/
theorem lk_stps_one (s : St) (l : List (Oper × Option X)) (t i : Nat) (o : Oper) (x : Option X) (hi : l[i]? = some (o, x)) (hd : o.dst = some t) (h : ∀ (j : Nat) p, j ≠ i → l[j]? = some p → p.1.dst ≠ some t) :
    lk (stps s l).tm t = x.getD .und := by
  induction l generalizing s i with
  | nil => cases hi
  | cons p r ih =>
    obtain ⟨o', x'⟩ := p
    simp only [stps]
    cases i with
    | zero =>
      simp at hi
      obtain ⟨rfl, rfl⟩ := hi
      rw [lk_stps_other _ r t ?_, hd, lk_put_same]
      intro p hp
      obtain ⟨j, hj⟩ := List.getElem?_of_mem hp
      exact h (j + 1) p (by omega) (by simpa using hj)
    | succ i =>
      exact ih _ i (by simpa using hi) fun j p hj hp => h (j + 1) p (by omega) (by simpa using hp)

theorem StEq.stps {s s' : St} (h : StEq s s') (xs : List (Oper × Option X)) : StEq (stps s xs) (stps s' xs) := by
  induction xs generalizing s s' with
  | nil => exact h
  | cons p r ih => obtain ⟨o, x⟩ := p; exact ih (h.put _ _)
theorem SD.data {C : Cx} {all : Array Oper} {ops : List Oper} {s s' : St} (h : SD C all true ops s s') :
    ∃ xs : List (Oper × Option X), xs.map (·.1) = ops ∧ StEq (stps s xs) s' ∧ ∀ (i : Nat) o x, xs[i]? = some (o, x) → dstOK C o = true ∧ GuardIs all (stps s (xs.take i)) o x.isSome ∧ ∀ y, x = some y → VOp C (stps s (xs.take i)) o y := by
  have key : ∀ pu, SD C all pu ops s s' → pu = true → ∃ xs : List (Oper × Option X), xs.map (·.1) = ops ∧ StEq (stps s xs) s' ∧ ∀ (i : Nat) o x, xs[i]? = some (o, x) → dstOK C o = true ∧ GuardIs all (stps s (xs.take i)) o x.isSome ∧ ∀ y, x = some y → VOp C (stps s (xs.take i)) o y := by
    intro pu h hpu
    induction h with
    | nil s => exact ⟨[], rfl, StEq.refl _, fun i o x h => by simp at h⟩
    | @vop o rest s s' x hg hd hv hh ih =>
      obtain ⟨xs, h1, h2, h3⟩ := ih (hpu ▸ hh)
      refine ⟨(o, some x) :: xs, by simp [h1], h2, fun i o' x' hi => ?_⟩
      cases i with
      | zero =>
        simp at hi
        obtain ⟨rfl, rfl⟩ := hi
        exact ⟨hd, hg, fun y hy => by cases hy; exact hv⟩
      | succ i => exact h3 i o' x' (by simpa using hi)
    | @skip o rest s s' hg hd hh ih =>
      obtain ⟨xs, h1, h2, h3⟩ := ih (hpu ▸ hh)
      refine ⟨(o, none) :: xs, by simp [h1], h2, fun i o' x' hi => ?_⟩
      cases i with
      | zero =>
        simp at hi
        obtain ⟨rfl, rfl⟩ := hi
        exact ⟨hd, hg, fun y hy => by cases hy⟩
      | succ i => exact h3 i o' x' (by simpa using hi)
    | eff hp => rw [hpu] at hp; cases hp
    | ghost hp => rw [hpu] at hp; cases hp
    | same hs hh ih =>
      obtain ⟨xs, h1, h2, h3⟩ := ih (hpu ▸ hh)
      refine ⟨xs, h1, (hs.stps xs).trans h2, fun i o x hi => ?_⟩
      obtain ⟨a1, a2, a3⟩ := h3 i o x hi
      have hss := (hs.stps (xs.take i)).symm
      exact ⟨a1, hss.guard a2, fun y hy => hss.vop (a3 y hy)⟩
  exact key true h rfl

/-- How many places are not yet listed. -/
def unl (n : Nat) (L : Array Bool) : Nat := ((List.range n).filter fun i => !L.getD i true).length
theorem unl_set {n i : Nat} {L : Array Bool} (hn : L.size = n) (hi : i < n) (h : L.getD i true = false) : unl n (L.setIfInBounds i true) < unl n L := by
  unfold unl
  have hsub : ∀ j, (!(L.setIfInBounds i true).getD j true) = (!L.getD j true && j != i) := by
    intro j
    by_cases hj : j = i
    · subst hj; simp [hn, hi]
    · have : L.setIfInBounds i true = L.setIfInBounds i true := rfl
      simp only [Array.getD_eq_getD_getElem?]
      rw [Array.getElem?_setIfInBounds_ne (fun e => hj e.symm)]
      simp [hj]
  simp only [hsub]
  have hmem : i ∈ (List.range n).filter fun i => !L.getD i true := by
    rw [List.mem_filter]
    exact ⟨List.mem_range.2 hi, by rw [h]; rfl⟩
  have e : (List.range n).filter (fun j => !L.getD j true && j != i) = ((List.range n).filter fun i => !L.getD i true).filter (fun j => j != i) := by
    rw [List.filter_filter]
    congr 1
    funext j
    rw [Bool.and_comm]
  rw [e]
  have hle : ∀ l : List Nat, i ∈ l → (l.filter fun j => j != i).length < l.length := by
    intro l
    induction l with
    | nil => intro h; cases h
    | cons a r ih =>
      intro hm
      by_cases ha : a = i
      · subst ha
        simp
        exact Nat.lt_succ_of_le (List.length_filter_le _ _)
      · have : i ∈ r := by
          rcases List.mem_cons.1 hm with h | h
          · exact absurd h.symm ha
          · exact h
        have := ih this
        simp [ha]
        omega
  exact hle _ hmem
theorem unl_zero {n : Nat} {L : Array Bool} (h : unl n L = 0) : ∀ i, i < n → L.getD i true = true := by
  intro i hi
  unfold unl at h
  have := List.eq_nil_of_length_eq_zero h
  rw [List.filter_eq_nil_iff] at this
  simpa using this i (List.mem_range.2 hi)

structure Ords (C : Cx) (s : St) (xs : List (Oper × Option X)) (ops : List Oper) (L : Array Bool) (a : Act) (w : World) : Prop where
  size : L.size = ops.length
  down : ∀ (i : Nat) (o : Oper) (e : Edge), ops[i]? = some o → L.getD i false = true → e ∈ o.after → Region.binds .any e = true → L.getD e.on false = true
  rel : ∃ F σ, Below C.w0.heap.size C.w0 w ∧ (∀ b, C.F0 b → F b) ∧ (∀ b, F b → C.F0 b ∨ C.w0.heap.size ≤ b) ∧ WInv C.E C.w0.heap.size F σ s.ob w ∧ a.defers = [] ∧ a.tmps.size = C.N ∧
    (∀ t, (∀ (j : Nat) o, ops[j]? = some o → L.getD j false = true → o.dst ≠ some t) → RdX w F σ (lk s.tm t) (a.tmps.getD t undef)) ∧
    (∀ (j : Nat) o x t, xs[j]? = some (o, x) → L.getD j false = true → o.dst = some t → RdX w F σ (x.getD .und) (a.tmps.getD t undef))

theorem getD_set_true {L : Array Bool} {i j : Nat} (hi : i < L.size) : (L.setIfInBounds i true).getD j false = (L.getD j false || j == i) := by
  by_cases hj : j = i
  · subst hj; simp [hi]
  · simp only [Array.getD_eq_getD_getElem?]
    rw [Array.getElem?_setIfInBounds_ne (fun e => hj e.symm)]
    simp [hj]
theorem getD_tf {L : Array Bool} {i : Nat} (hi : i < L.size) : L.getD i true = L.getD i false := by simp [hi]

theorem Ords.all {C : Cx} {s : St} {xs : List (Oper × Option X)} {ops : List Oper} (hx : xs.map (·.1) = ops) (ho : OrdOK ops)
    (hv : ∀ (i : Nat) o x, xs[i]? = some (o, x) → dstOK C o = true ∧ GuardIs ops.toArray (stps s (xs.take i)) o x.isSome ∧ ∀ y, x = some y → VOp C (stps s (xs.take i)) o y)
    {Q : Exit → Act → World → Prop} (hq : ∀ a w, C.Rel (stps s xs) a w → Q .normal a w) :
    ∀ (fuel : Nat) (L : Array Bool) (a : Act) (w : World), unl ops.length L ≤ fuel → Ords C s xs ops L a w → wpAny C.E.P .any ops.toArray Q fuel L a w := by
  have hxo : ∀ (i : Nat) o, ops[i]? = some o → ∃ x, xs[i]? = some (o, x) := by
    intro i o hi
    rw [← hx, List.getElem?_map] at hi
    cases hxi : xs[i]? with
    | none => rw [hxi] at hi; cases hi
    | some p => rw [hxi] at hi; simp at hi; exact ⟨p.2, by rw [← hi]⟩
  have hox : ∀ (i : Nat) o x, xs[i]? = some (o, x) → ops[i]? = some o := by
    intro i o x hi
    rw [← hx, List.getElem?_map, hi]; rfl
  have hlen : xs.length = ops.length := by rw [← hx]; simp
  have hdst : ∀ (j : Nat) (p : Oper) d, ops.toArray[j]? = some p → p.dst = some d → d < C.N := by
    intro j p d hj hd
    rw [List.getElem?_toArray] at hj
    obtain ⟨x, hx'⟩ := hxo j p hj
    exact dstOK_lt (hv j p x hx').1 d hd
  -- what the state behind the first ones says of a slot
  have hlook : ∀ (i : Nat) (o : Oper) (x : Option X) (L : Array Bool) (a : Act) (w : World) (F : Nat → Prop) (σ : Sg), xs[i]? = some (o, x) → L.getD i false = false →
      (∀ (j : Nat) (o : Oper) (e : Edge), ops[j]? = some o → L.getD j false = true → e ∈ o.after → Region.binds .any e = true → L.getD e.on false = true) →
      (∀ e ∈ o.after, Region.binds .any e = true → L.getD e.on false = true) →
      (∀ t, (∀ (j : Nat) o, ops[j]? = some o → L.getD j false = true → o.dst ≠ some t) → RdX w F σ (lk s.tm t) (a.tmps.getD t undef)) →
      (∀ (j : Nat) o x t, xs[j]? = some (o, x) → L.getD j false = true → o.dst = some t → RdX w F σ (x.getD .und) (a.tmps.getD t undef)) →
      ∀ t ∈ o.looksAt ops.toArray, RdX w F σ (lk (stps s (xs.take i)).tm t) (a.tmps.getD t undef) := by
    intro i o x L a w F σ hi hL hdown hready h1 h2 t ht
    by_cases hw : ∃ (j : Nat) (p : Oper), ops[j]? = some p ∧ p.dst = some t
    · obtain ⟨j, p, hj, hp⟩ := hw
      obtain ⟨y, hy⟩ := hxo j p hj
      have huniq : ∀ (k : Nat) (q : Oper), k ≠ j → ops[k]? = some q → q.dst ≠ some t := fun k q hk hq => ho.uniq k j q p t hk hq hj hp
      by_cases hij : i = j
      · subst hij
        have e : lk (stps s (xs.take i)).tm t = lk s.tm t := by
          refine lk_stps_other _ _ _ fun q hq => ?_
          obtain ⟨k, hk⟩ := List.getElem?_of_mem hq
          rw [List.getElem?_take] at hk
          split at hk
          · exact huniq k q.1 (by omega) (hox k q.1 q.2 hk)
          · cases hk
        rw [e]
        refine h1 t fun k q hk hkl => ?_
        by_cases hki : k = i
        · subst hki; rw [hL] at hkl; cases hkl
        · exact huniq k q hki hk
      · obtain ⟨ha, hb⟩ := ho.looks i j o p t hij (hox i o x hi) hj hp ht
        by_cases hlt : j < i
        · obtain ⟨e, he, hbd, hej⟩ := ha hlt
          have hjl : L.getD j false = true := by rw [← hej]; exact hready e he hbd
          have e1 : lk (stps s (xs.take i)).tm t = y.getD .und := by
            refine lk_stps_one _ _ t j p y (by rw [List.getElem?_take, if_pos hlt]; exact hy) hp fun k q hk hq => ?_
            rw [List.getElem?_take] at hq
            split at hq
            · exact huniq k q.1 hk (hox k q.1 q.2 hq)
            · cases hq
          rw [e1]
          exact h2 j p y t hy hjl hp
        · obtain ⟨e, he, hbd, hei⟩ := hb hlt
          have hjl : L.getD j false = false := by
            cases hjl : L.getD j false with
            | false => rfl
            | true =>
              have := hdown j p e hj hjl he hbd
              rw [hei, hL] at this
              cases this
          have e1 : lk (stps s (xs.take i)).tm t = lk s.tm t := by
            refine lk_stps_other _ _ _ fun q hq => ?_
            obtain ⟨k, hk⟩ := List.getElem?_of_mem hq
            rw [List.getElem?_take] at hk
            split at hk
            · exact huniq k q.1 (by omega) (hox k q.1 q.2 hk)
            · cases hk
          rw [e1]
          refine h1 t fun k q hk hkl => ?_
          by_cases hkj : k = j
          · subst hkj; rw [hjl] at hkl; cases hkl
          · exact huniq k q hkj hk
    · have hno : ∀ (k : Nat) (q : Oper), ops[k]? = some q → q.dst ≠ some t := fun k q hk hq => hw ⟨k, q, hk, hq⟩
      have e1 : lk (stps s (xs.take i)).tm t = lk s.tm t := by
        refine lk_stps_other _ _ _ fun q hq => ?_
        obtain ⟨k, hk⟩ := List.getElem?_of_mem hq
        rw [List.getElem?_take] at hk
        split at hk
        · exact hno k q.1 (hox k q.1 q.2 hk)
        · cases hk
      rw [e1]
      exact h1 t fun k q hk _ => hno k q hk
  -- the end
  have hfin : ∀ (L : Array Bool) (a : Act) (w : World), (∀ i, i < ops.length → L.getD i false = true) → Ords C s xs ops L a w → Q .normal a w := by
    intro L a w hall hO
    obtain ⟨F, σ, r1, r2, r3, hi, r4, r5, h1, h2⟩ := hO.rel
    refine hq a w ⟨F, σ, r1, r2, r3, by rw [stps_ob]; exact hi, r4, r5, fun t => ?_⟩
    by_cases hw : ∃ (j : Nat) (p : Oper), ops[j]? = some p ∧ p.dst = some t
    · obtain ⟨j, p, hj, hp⟩ := hw
      obtain ⟨y, hy⟩ := hxo j p hj
      rw [lk_stps_one s xs t j p y hy hp fun k q hk hq => ho.uniq k j q.1 p t hk (hox k q.1 q.2 hq) hj hp]
      exact h2 j p y t hy (hall j (List.getElem?_eq_some_iff.1 hj).1) hp
    · have hno : ∀ (k : Nat) (q : Oper), ops[k]? = some q → q.dst ≠ some t := fun k q hk hq => hw ⟨k, q, hk, hq⟩
      rw [lk_stps_other s xs t fun q hq => by
        obtain ⟨k, hk⟩ := List.getElem?_of_mem hq
        exact hno k q.1 (hox k q.1 q.2 hk)]
      exact h1 t fun k q hk _ => hno k q hk
  -- whoever is ready
  have hready : ∀ (L : Array Bool) i, i ∈ Region.ready .any ops.toArray L → L.size = ops.length → ∃ o, ops[i]? = some o ∧ L.getD i false = false ∧ ∀ e ∈ o.after, Region.binds .any e = true → L.getD e.on false = true := by
    intro L i hi hs
    unfold Region.ready at hi
    rw [List.mem_filter, List.mem_range] at hi
    obtain ⟨hlt, h⟩ := hi
    rw [List.size_toArray] at hlt
    rw [Bool.and_eq_true] at h
    obtain ⟨h1, h2⟩ := h
    have ho' : ops[i]? = some ops[i] := List.getElem?_eq_getElem hlt
    refine ⟨ops[i], ho', ?_, ?_⟩
    · rw [← getD_tf (by omega)]; simpa using h1
    · intro e he hbd
      rw [List.getElem?_toArray, ho'] at h2
      simp only [Option.map_some, Option.getD_some] at h2
      obtain ⟨k, hk, rfl⟩ := Array.getElem_of_mem he
      have := Array.all_eq_true.1 h2 k hk
      rw [hbd] at this
      simpa using this
  have hsome : ∀ (L : Array Bool) (a : Act) (w : World), Ords C s xs ops L a w → Region.ready .any ops.toArray L = [] → ∀ i, i < ops.length → L.getD i false = true := by
    intro L a w hO hr i
    induction i using Nat.strongRecOn with
    | _ i ih =>
      intro hi
      cases hL : L.getD i false with
      | true => rfl
      | false =>
        have ho' : ops[i]? = some ops[i] := List.getElem?_eq_getElem hi
        have hm : i ∈ Region.ready .any ops.toArray L := by
          unfold Region.ready
          rw [List.mem_filter, List.mem_range, List.size_toArray]
          refine ⟨hi, ?_⟩
          rw [getD_tf (by rw [hO.size]; exact hi), hL, List.getElem?_toArray, ho']
          simp only [Bool.not_false, Bool.true_and, Option.map_some, Option.getD_some]
          refine Array.all_eq_true.2 fun k hk => ?_
          cases hbd : Region.binds .any (ops[i]).after[k] with
          | false => simp
          | true =>
            have hb := ho.back i _ _ ho' (Array.getElem_mem hk) hbd
            rw [ih _ hb (by omega)]
            simp
        rw [hr] at hm
        cases hm
  intro fuel
  induction fuel with
  | zero =>
    intro L a w hu hO
    have hall : ∀ i, i < ops.length → L.getD i false = true := fun i hi => by
      rw [← getD_tf (by rw [hO.size]; exact hi)]
      exact unl_zero (by omega) i hi
    refine ⟨?_, hfin L a w hall hO⟩
    refine List.eq_nil_iff_forall_not_mem.2 fun i hi => ?_
    obtain ⟨o, h1, h2, _⟩ := hready L i hi hO.size
    rw [hall i (List.getElem?_eq_some_iff.1 h1).1] at h2
    cases h2
  | succ fuel ih =>
    intro L a w hu hO
    refine ⟨fun hr => hfin L a w (hsome L a w hO hr) hO, fun i hi => ?_⟩
    obtain ⟨o, hoi, hL, hed⟩ := hready L i hi hO.size
    have hlt : i < ops.length := (List.getElem?_eq_some_iff.1 hoi).1
    obtain ⟨x, hxi⟩ := hxo i o hoi
    obtain ⟨hd, hg, hvop⟩ := hv i o x hxi
    obtain ⟨F, σ, r1, r2, r3, hinv, r4, r5, h1, h2⟩ := hO.rel
    have hl := hlook i o x L a w F σ hxi hL hO.down hed h1 h2
    have hu' : unl ops.length (L.setIfInBounds i true) ≤ fuel := by
      have := unl_set (L := L) hO.size hlt (by rw [getD_tf (by rw [hO.size]; exact hlt)]; exact hL)
      omega
    have hwant : Region.wanted o (yielded ops.toArray a.tmps) = x.isSome := by
      refine hg.wanted (N := C.N) hdst r5 (w := w) (F := F) (σ := σ) fun j pol t hgj ht => hl t ?_
      unfold Oper.looksAt
      refine List.mem_append.2 (.inr ?_)
      rw [hgj]
      show t ∈ ((ops.toArray[j]?).bind (·.dst)).toList
      rw [ht]
      simp
    -- the step
    have hstep : ∀ v w' F', Ext w F w' F' → (o.dst ≠ none → RdX w' F' σ (x.getD .und) v) → Ords C s xs ops (L.setIfInBounds i true) (a.put o.dst v) w' := by
      intro v w' F' he hvv
      have hset : ∀ j, (L.setIfInBounds i true).getD j false = (L.getD j false || j == i) := fun j => getD_set_true (by rw [hO.size]; exact hlt)
      have hother : ∀ t, o.dst ≠ some t → (a.put o.dst v).tmps.getD t undef = a.tmps.getD t undef := by
        intro t ht
        cases hdd : o.dst with
        | none => rfl
        | some d =>
          simp only [Act.put, Array.getD_eq_getD_getElem?]
          rw [Array.getElem?_setIfInBounds_ne (fun e => ht (by rw [hdd, e]))]
      refine ⟨by simp [hO.size], fun j p e hj hjl hee hbd => ?_, F', σ, r1.trans (he.below.mono r1.size), fun b hb => he.more _ (r2 b hb), fun b hb => ?_, hinv.ext he, by rw [Act.put_def]; exact r4, by rw [Act.put_size]; exact r5, fun t ht => ?_, fun j p y t hj hjl hp => ?_⟩
      · rw [hset] at hjl ⊢
        rw [Bool.or_eq_true] at hjl ⊢
        rcases hjl with hjl | hjl
        · exact .inl (hO.down j p e hj hjl hee hbd)
        · obtain rfl : j = i := by simpa using hjl
          rw [hoi] at hj
          cases hj
          exact .inl (hed e hee hbd)
      · rcases he.new b hb with h | h
        · exact r3 b h
        · exact .inr (Nat.le_trans r1.size h)
      · have hit : o.dst ≠ some t := ht i o hoi (by rw [hset]; simp)
        rw [hother t hit]
        exact (h1 t fun j q hj hjl => ht j q hj (by rw [hset, hjl]; rfl)).ext he hinv.flt
      · rw [hset, Bool.or_eq_true] at hjl
        by_cases hji : j = i
        · subst hji
          rw [hxi] at hj
          cases hj
          have hlt' := dstOK_lt hd t hp
          rw [hp]
          simp only [Act.put]
          have : (a.tmps.setIfInBounds t v).getD t undef = v := by simp [r5, hlt']
          rw [this]
          exact hvv (by rw [hp]; simp)
        · have hjl' : L.getD j false = true := by
            rcases hjl with h | h
            · exact h
            · exact absurd (by simpa using h) hji
          rw [hother t (ho.uniq i j o p t (fun e => hji e.symm) hoi (hox j p y hj) hp)]
          exact (h2 j p y t hj hjl' hp).ext he hinv.flt
    unfold wpOp
    rw [List.getElem?_toArray, hoi]
    simp only
    cases hx' : x with
    | none =>
      rw [hx'] at hwant
      rw [if_neg (by rw [hwant]; simp)]
      refine ih _ _ _ hu' (hstep undef w F (Ext.refl hinv.flt) fun _ => ?_)
      rw [hx']; rfl
    | some y =>
      rw [hx'] at hwant
      rw [if_pos (by rw [hwant]; rfl)]
      refine .inl (hvop y hx' F σ w a _ Q (by rw [stps_ob]; exact hinv) (fun z hz => ?_) fun v w' F' he hvv => ih _ _ _ hu' (hstep v w' F' he fun _ => by rw [hx']; exact hvv))
      cases z with
      | tmp t =>
        refine hl t ?_
        unfold Oper.looksAt
        refine List.mem_append.2 (.inl ?_)
        rw [List.mem_filterMap]
        exact ⟨_, hz, rfl⟩
      | const v => exact ofConst_rd v
      | global g => exact findG_rd hinv.glob.1 g
      | func f => exact Rd.imm _ rfl

section
variable {C : Cx} {r : List It} {s : St} {Q : Exit → St → Prop}
theorem qC {id : Nat} {l : List Oper} (ho : ordOK l = true) (h : SGo C l.toArray true l s (fun s' => go C r s' Q)) : go C (.code (.region id l.toArray true) :: r) s Q := by
  intro a w hr
  obtain ⟨s', h1, h2⟩ := h
  obtain ⟨xs, hx, heq, hv⟩ := h1.data
  refine wp_region_any C.E.hM ?_
  obtain ⟨F, σ, r1, r2, r3, hi, r4, r5, hs⟩ := hr
  have hext : Ext w F { w with drawn := w.drawn + 1 } F := ⟨⟨rfl, rfl, rfl, Nat.le_refl _, fun _ _ => rfl⟩, fun _ h => h, fun _ h => .inl h, hi.flt⟩
  refine Ords.all hx (ordOK_spec ho) hv (fun a w hr => ⟨_, heq.rel hr, h2⟩) _ _ _ _ ?_ ⟨by simp, fun i o e ho' hL => ?_, F, σ, r1.trans (hext.below.mono r1.size), r2, r3, hi.ext hext, r4, r5, fun t _ => (hs t).ext hext hi.flt, fun j o x t hj hL => ?_⟩
  · refine Nat.le_trans (List.length_filter_le _ _) ?_
    simp
  · exfalso
    by_cases hlt : i < l.length <;> simp [hlt] at hL
  · exfalso
    by_cases hlt : j < l.length <;> simp [hlt] at hL
end
end Go.Abs
