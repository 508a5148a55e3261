/- What a checked graph and its statistics grant: rising ids, counts, greatest degrees; The law EstimateWalks answers true; From rows' readings to graphs. Conditions: each part's own, as it says. -/
import Derived.Test.YtkjebcnlmanhlaaGreatDoorGC
import Derived.Test.YtkjebcnlmanhlaaGreatDoorWB
import Derived.Test.YtkjebcnlmanhlaaGreatDoorLC
import Derived.Test.YtkjebcnlmanhlaaGreatDoorLE
set_option linter.unusedVariables false
set_option linter.unusedSimpArgs false
/- What a checked graph and its statistics grant: rising ids, counts, greatest degrees. Conditions: none. -/
namespace Go.Proofs.YtkjebcnlmanhlaaGreatDoor
open Go Go.Abs Go.Val Go.RowKit

theorem partF_8 {ls : List ByteArray} {ps : List Pr} (h : partF ls ps = 0) : ls.length ≤ 8 := by
  unfold partF at h
  rcases Nat.lt_or_ge 8 ls.length with hl | hl
  · have : decide (ls.length > 8) = true := decide_eq_true hl
    rw [this] at h
    simp at h
  · exact hl
theorem okNd_0 {p : Option Int} {nn : Int} {n : Nd} (h : okNd p nn n = 0) : (∀ q, p = some q → q < n.id) ∧ n.labels.length ≤ 8 := by
  have rest : (bif decide (n.id < 1) || decide (n.id ≥ nn) then (1 : Int) else partF n.labels n.props) = 0 → n.labels.length ≤ 8 := fun h => by
    cases hd : decide (n.id < 1) || decide (n.id ≥ nn) with
    | true => rw [hd] at h; simp at h
    | false => rw [hd, cond_false] at h; exact partF_8 h
  cases p with
  | none => exact ⟨fun q hq => (by cases hq), rest h⟩
  | some p =>
    have h' : (bif decide (n.id ≤ p) then (26 : Int) else bif decide (n.id < 1) || decide (n.id ≥ nn) then 1 else partF n.labels n.props) = 0 := h
    cases hc : decide (n.id ≤ p) with
    | true => rw [hc] at h'; simp at h'
    | false =>
      rw [hc, cond_false] at h'
      have := of_decide_eq_false hc
      exact ⟨fun q hq => (by cases hq; omega), rest h'⟩
theorem nodesC_0 {nn : Int} : ∀ {l : List Nd} {p : Option Int}, nodesC nn p l = 0 → (l.map Nd.id).Pairwise (· < ·) ∧ (∀ q, p = some q → ∀ n ∈ l, q < n.id) ∧ ∀ n ∈ l, n.labels.length ≤ 8
  | [], p, _ => by simp
  | n :: r, p, h => by
    rw [nodesC] at h
    cases hc : okNd p nn n != 0 with
    | true =>
      rw [hc, cond_true] at h
      rw [h] at hc
      simp at hc
    | false =>
      rw [hc, cond_false] at h
      have h0 : okNd p nn n = 0 := by simpa using hc
      obtain ⟨k1, k2⟩ := okNd_0 h0
      obtain ⟨i1, i2, i3⟩ := nodesC_0 (l := r) (p := some n.id) h
      refine ⟨?_, fun q hq m hm => ?_, fun m hm => ?_⟩
      · rw [List.map_cons, List.pairwise_cons]
        refine ⟨fun x hx => ?_, i1⟩
        obtain ⟨m, hm, rfl⟩ := List.mem_map.1 hx
        exact i2 _ rfl m hm
      · rcases List.mem_cons.1 hm with e | e
        · rw [e]; exact k1 q hq
        · have := i2 _ rfl m e
          have := k1 q hq
          omega
      · rcases List.mem_cons.1 hm with e | e
        · rw [e]; exact k2
        · exact i3 m e
theorem chkG_0 {g : Gr} (h : chkG g = 0) : g.nodes.length ≤ 2000 ∧ g.edges.length ≤ 4000 ∧ (g.nodes.map Nd.id).Pairwise (· < ·) ∧ ∀ n ∈ g.nodes, n.labels.length ≤ 8 := by
  unfold chkG at h
  cases c1 : decide (g.nodes.length > 2000) with
  | true => rw [c1] at h; simp at h
  | false =>
  cases c2 : decide (g.edges.length > 4000) with
  | true => rw [c1, c2] at h; simp at h
  | false =>
  rw [c1, c2] at h
  simp only [Bool.or_false, cond_false] at h
  have k1 := of_decide_eq_false c1
  have k2 := of_decide_eq_false c2
  cases c3 : decide (g.nn < 1) || decide (g.nn > 1000001) || (decide (g.ne < 1) || decide (g.ne > 1000001)) with
  | true => rw [c3] at h; simp at h
  | false =>
    rw [c3, cond_false] at h
    cases c4 : nodesC g.nn none g.nodes != 0 with
    | true =>
      rw [c4, cond_true] at h
      rw [h] at c4
      simp at c4
    | false =>
      have h0 : nodesC g.nn none g.nodes = 0 := by simpa using c4
      obtain ⟨i1, -, i3⟩ := nodesC_0 h0
      exact ⟨by omega, by omega, i1, i3⟩
theorem get_bangW {α : Type} [Inhabited α] (l : List α) {j : Nat} (h : j < l.length) : l.toArray[j]! = l[j] := by rw [getElem!_pos _ j (by simpa using h)]; simp
theorem compact_memW (l : List (List UInt8)) {z : List UInt8} (h : z ∈ l) : z ∈ Lib.compact l := by
  unfold Lib.compact Lib.compactUpTo
  have key : ∀ j, ∀ hj : j < l.length, l[j] = z → ∃ k, k < l.length ∧ Lib.keeps l.toArray k = true ∧ l.toArray[k]! = z := by
    intro j
    induction j with
    | zero => intro hj e; exact ⟨0, hj, by simp [Lib.keeps], by rw [get_bangW l hj]; exact e⟩
    | succ j ih =>
      intro hj e
      by_cases he : l[j]'(by omega) = z
      · exact ih (by omega) he
      · refine ⟨j + 1, hj, ?_, by rw [get_bangW l hj]; exact e⟩
        unfold Lib.keeps
        rw [decide_eq_true_eq]
        right
        rw [get_bangW l hj, Nat.add_sub_cancel, get_bangW l (by omega), e]
        exact fun h => he h.symm
  obtain ⟨j, hj, e⟩ := List.mem_iff_getElem.1 h
  obtain ⟨k, k1, k2, k3⟩ := key j hj e
  exact List.mem_map.2 ⟨k, List.mem_filter.2 ⟨by simpa using k1, k2⟩, k3⟩
theorem srtC_len (l : List ByteArray) : (srtC l).length ≤ l.length := by
  unfold srtC
  rw [List.length_map]
  refine Nat.le_trans (compact_len _) ?_
  rw [sortU_len, bytL, List.length_map]
  exact Nat.le_refl _
theorem srtC_mem {l : List ByteArray} {s : ByteArray} (h : s ∈ l) : ∃ u ∈ srtC l, u.toList = s.toList := by
  have h1 : s.data.toList ∈ Lib.compact (sortU (bytL l)) := compact_memW _ (sortU_mem.2 (List.mem_map.2 ⟨s, h, rfl⟩))
  refine ⟨⟨s.data.toList.toArray⟩, List.mem_map.2 ⟨_, h1, rfl⟩, ?_⟩
  congr 1
/-- The greatest of a sorted sequence. -/
theorem pdF_head {l : List Int} {x : Int} (h : x ∈ l) : x ≤ (pdF l).headD 0 := by
  obtain ⟨p1, p2, p3⟩ := pdF_ok l
  obtain ⟨j, hj, e⟩ := List.mem_iff_getElem.1 (p1.mem_iff.2 h)
  have h0 : (pdF l).headD 0 = (pdF l).getD 0 0 := by cases pdF l <;> rfl
  have hx : (pdF l).getD j 0 = x := by rw [List.getD_eq_getElem?_getD, List.getElem?_eq_getElem hj, e]; rfl
  rw [h0, ← hx]
  rcases Nat.eq_zero_or_pos j with rfl | hp
  · exact Int.le_refl _
  · exact p3 0 j hp (by omega)
theorem pdF_mem {l : List Int} {x : Int} : x ∈ pdF l ↔ x ∈ l := (pdF_ok l).1.mem_iff
theorem tyB_seB {t u : ByteArray} (h : u.toList = t.toList) {e : Ed} (hb : tyB t e = true) : seB u e = true := by
  unfold tyB at hb
  unfold seB
  rw [h, hb, Bool.or_true]
theorem outE_cntM {t u : ByteArray} (h : u.toList = t.toList) (id : Int) : ∀ (l : List Ed), outE t id l ≤ cntM u 1 id l
  | [] => Int.le_refl _
  | e :: r => by
    have ih := outE_cntM h id r
    simp only [outE, cntM]
    cases hb : tyB t e with
    | false =>
      simp only [Bool.false_and, cond_false]
      cases seB u e && nbI 1 e == id <;> simp <;> omega
    | true =>
      rw [tyB_seB h hb, show nbI 1 e = e.src from rfl]
      omega
theorem outE_none {t : ByteArray} {id : Int} : ∀ {l : List Ed}, (∀ e ∈ l, tyB t e = false) → outE t id l = 0
  | [], _ => rfl
  | e :: r, h => by
    rw [outE, h e (by simp), outE_none (l := r) fun x hx => h x (by simp [hx])]; rfl
theorem cntE_none {t : ByteArray} : ∀ {l : List Ed}, (∀ e ∈ l, tyB t e = false) → cntE t l = 0
  | [], _ => rfl
  | e :: r, h => by
    rw [cntE, h e (by simp), cntE_none (l := r) fun x hx => h x (by simp [hx])]; rfl
theorem cntE_same {t u : ByteArray} (h : u.toList = t.toList) : ∀ (l : List Ed), cntE u l = cntE t l
  | [] => rfl
  | e :: r => by
    have : tyB u e = tyB t e := by unfold tyB; rw [h]
    rw [cntE, cntE, this, cntE_same h r]
theorem sqF_mem {g : Gr} {u : ByteArray} {d x : Int} : x ∈ sqF g u d ↔ x ∈ degL g u d g.nodes := by
  unfold sqF
  cases h : degL g u d g.nodes with
  | nil => exact Iff.rfl
  | cons a r => exact pdF_mem
theorem sqF_head {g : Gr} {u : ByteArray} {d : Int} : 0 ≤ (sqF g u d).headD 0 ∧ (sqF g u d).headD 0 ≤ g.edges.length ∧ ∀ n ∈ g.nodes, cntM u d n.id g.edges ≤ (sqF g u d).headD 0 := by
  have hr : ∀ x ∈ sqF g u d, 0 < x ∧ x ≤ g.edges.length := fun x hx => by
    obtain ⟨h1, h2⟩ := List.mem_filter.1 (sqF_mem.1 hx)
    obtain ⟨n, -, rfl⟩ := List.mem_map.1 h1
    exact ⟨of_decide_eq_true h2, (cntM_rng _ _ _ _).2⟩
  have h0 : 0 ≤ (sqF g u d).headD 0 := by
    cases h : sqF g u d with
    | nil => exact Int.le_refl _
    | cons a r => exact Int.le_of_lt (hr a (by rw [h]; simp)).1
  have h1 : (sqF g u d).headD 0 ≤ g.edges.length := by
    cases h : sqF g u d with
    | nil => simp
    | cons a r => exact (hr a (by rw [h]; simp)).2
  refine ⟨h0, h1, fun n hn => ?_⟩
  rcases Int.lt_or_le 0 (cntM u d n.id g.edges) with hp | hp
  · have hm : cntM u d n.id g.edges ∈ degL g u d g.nodes := List.mem_filter.2 ⟨List.mem_map.2 ⟨n, hn, rfl⟩, decide_eq_true hp⟩
    unfold sqF
    cases h : degL g u d g.nodes with
    | nil => rw [h] at hm; simp at hm
    | cons a r => rw [h] at hm; exact pdF_head hm
  · omega
theorem addW_0 {x : Int} (h : inR .i64 x) : addW 0 x = x := by
  unfold addW
  rw [Int.zero_add]
  exact inR_wrap h
/-- The greatest number of edges of a type that leave a node. -/
theorem max_ok {g : Gr} (he : g.edges.length ≤ 4000) (t : ByteArray) : 0 ≤ maxF (stG g) [t] 1 ∧ maxF (stG g) [t] 1 ≤ g.edges.length ∧ ∀ n ∈ g.nodes, outE t n.id g.edges ≤ maxF (stG g) [t] 1 := by
  have hm : maxF (stG g) [t] 1 = match idxC (stG g).ty t with | some i => addW 0 (grtF (stG g).outs i) | none => 0 := rfl
  rw [hm]
  cases hi : idxC (stG g).ty t with
  | none =>
    dsimp only
    refine ⟨Int.le_refl _, by omega, fun n _ => ?_⟩
    rw [outE_none fun e hm => ?_]
    · exact Int.le_refl _
    · rw [← Bool.not_eq_true]
      intro hb
      obtain ⟨u, hu, hue⟩ := srtC_mem (l := tyL g.edges) (s := e.ty) (List.mem_map.2 ⟨e, hm, rfl⟩)
      unfold idxC at hi
      rw [List.findIdx?_eq_none_iff] at hi
      have := hi ⟨u, cntE u g.edges⟩ (List.mem_map.2 ⟨u, hu, rfl⟩)
      unfold tyB at hb
      rw [beq_iff_eq] at hb
      rw [show (⟨u, cntE u g.edges⟩ : CT).nm = u from rfl, hue, hb] at this
      simp at this
  | some i =>
    dsimp only
    unfold idxC at hi
    obtain ⟨hl, h1, -⟩ := List.findIdx?_eq_some_iff_getElem.1 hi
    have hlT : i < (srtC (tyL g.edges)).length := by simpa [stG, tyC] using hl
    obtain ⟨u, hu⟩ : ∃ u, (srtC (tyL g.edges))[i] = u := ⟨_, rfl⟩
    have hu2 : (srtC (tyL g.edges))[i]? = some u := by rw [List.getElem?_eq_getElem hlT, hu]
    have hue : u.toList = t.toList := by
      have h2 : (stG g).ty[i] = ⟨u, cntE u g.edges⟩ := by
        have : (stG g).ty[i]? = some ⟨u, cntE u g.edges⟩ := by
          show ((srtC (tyL g.edges)).map fun s => (⟨s, cntE s g.edges⟩ : CT))[i]? = _
          rw [List.getElem?_map, hu2]; rfl
        rw [List.getElem?_eq_getElem hl] at this
        exact Option.some.inj this
      rw [h2] at h1
      exact eq_of_beq h1
    have hg : grtF (stG g).outs i = (sqF g u 1).headD 0 := by
      refine grtF_at ?_
      show ((srtC (tyL g.edges)).map fun s => sqF g s 1)[i]? = _
      rw [List.getElem?_map, hu2]; rfl
    obtain ⟨q1, q2, q3⟩ := sqF_head (g := g) (u := u) (d := 1)
    rw [hg, addW_0 (by simp only [inR]; omega)]
    exact ⟨q1, q2, fun n hn => Int.le_trans (outE_cntM hue n.id g.edges) (q3 n hn)⟩
theorem edges_ok {g : Gr} (he : g.edges.length ≤ 4000) (t : ByteArray) : edgesF (stG g) [t] = cntE t g.edges := by
  obtain ⟨r1, r2⟩ := cntE_rng t g.edges
  have hm : edgesF (stG g) [t] = addW 0 (cntF (stG g).ty t) := rfl
  have hc : cntF (stG g).ty t = cntE t g.edges := by
    unfold cntF
    split
    · rename_i c hc
      have h1 := List.find?_some hc
      have h2 := List.mem_of_find?_eq_some hc
      obtain ⟨u, -, rfl⟩ := List.mem_map.1 h2
      exact cntE_same (eq_of_beq h1) g.edges
    · rename_i hc
      rw [List.find?_eq_none] at hc
      rw [cntE_none fun e hm => ?_]
      rw [← Bool.not_eq_true]
      intro hb
      obtain ⟨u, hu, hue⟩ := srtC_mem (l := tyL g.edges) (s := e.ty) (List.mem_map.2 ⟨e, hm, rfl⟩)
      unfold tyB at hb
      rw [beq_iff_eq] at hb
      refine hc ⟨u, cntE u g.edges⟩ (List.mem_map.2 ⟨u, hu, rfl⟩) ?_
      show (u.toList == t.toList) = true
      rw [hue, hb]
      exact beq_self_eq_true _
  rw [hm, hc, addW_0 (by simp only [inR]; omega)]
/-- The product along a sequence of types. -/
def prN (s : ST) : List ByteArray → Nat → Nat
  | [], p => p
  | t :: r, p => prN s r (p * (maxF s [t] 1).toNat)
theorem prN_snoc (s : ST) (t : ByteArray) : ∀ (r : List ByteArray) (p : Nat), prN s (r ++ [t]) p = prN s r p * (maxF s [t] 1).toNat
  | [], p => rfl
  | a :: r, p => by rw [List.cons_append, prN, prN, prN_snoc s t r]
theorem stpG_pr {g : Gr} (he : g.edges.length ≤ 30) : ∀ (r : List ByteArray) (p m : Nat), p ≤ 30 ^ m → m + r.length ≤ 5 → stpG (stG g) r p = some (prN (stG g) r p) ∧ prN (stG g) r p ≤ 30 ^ (m + r.length)
  | [], p, m, hp, hm => ⟨rfl, hp⟩
  | t :: r, p, m, hp, hm => by
    obtain ⟨h1, h2, -⟩ := max_ok (g := g) (by omega) t
    have h3 : (maxF (stG g) [t] 1).toNat ≤ 30 := by omega
    have h4 : p * (maxF (stG g) [t] 1).toNat ≤ 30 ^ (m + 1) := by rw [Nat.pow_succ]; exact Nat.mul_le_mul hp h3
    simp only [List.length_cons] at hm ⊢
    have h5 : (30 : Nat) ^ (m + 1) ≤ 30 ^ 5 := Nat.pow_le_pow_right (by decide) (by omega)
    have hf : fit64 (p * (maxF (stG g) [t] 1).toNat) = true := decide_eq_true (Nat.le_trans (lim_small (by omega)) (by decide))
    obtain ⟨i1, i2⟩ := stpG_pr he r _ (m + 1) h4 (by omega)
    rw [stpG_fit hf, prN]
    exact ⟨i1, by rw [show m + (r.length + 1) = m + 1 + r.length by omega]; exact i2⟩
theorem stpF_pr {g : Gr} (he : g.edges.length ≤ 30) (t : ByteArray) (r : List ByteArray) (hr : r.length ≤ 4) : stpF (stG g) (t :: r) = some (prN (stG g) r (cntE t g.edges).toNat) ∧ prN (stG g) r (cntE t g.edges).toNat ≤ 24300000 := by
  obtain ⟨r1, r2⟩ := cntE_rng t g.edges
  obtain ⟨h1, h2⟩ := stpG_pr he r (cntE t g.edges).toNat 1 (by omega) (by omega)
  rw [stpF, edges_ok (by omega)]
  refine ⟨h1, Nat.le_trans h2 ?_⟩
  exact Nat.le_trans (Nat.pow_le_pow_right (by decide) (show 1 + r.length ≤ 5 by omega)) (by decide)
end Go.Proofs.YtkjebcnlmanhlaaGreatDoor

/- The law EstimateWalks answers true. Conditions: none. -/
namespace Go.Proofs.YtkjebcnlmanhlaaGreatDoor
open Go Go.Abs Go.Val Go.RowKit
attribute [local irreducible] go SGo HasBody Ev ExtEv EvO EvS PGo RGo chkG stG stpN stpB

abbrev stO (s : ST) : AObj := .var 30 (.w (.d (encST s)))
abbrev rwI (l : List Int) : AObj := .row 3 1 (iL l)
def idL (g : Gr) : List Int := g.nodes.map Nd.id
theorem pkI_le (id : Int) : ∀ {is xs : List Int}, (∀ x ∈ xs, 0 ≤ x) → pkI id is xs ≤ smI xs
  | [], xs, h => by simpa [pkI] using smI_nn h
  | i :: is, [], _ => by simp [pkI, smI]
  | i :: is, x :: xs, h => by
    have h1 := h x (by simp)
    have h2 := pkI_le id (is := is) (xs := xs) fun y hy => h y (by simp [hy])
    simp only [pkI, smI]
    split <;> omega
theorem smI_take_le {l : List Int} (h : ∀ x ∈ l, 0 ≤ x) (i : Nat) : smI (l.take i) ≤ smI l := by
  induction l generalizing i with
  | nil => simp
  | cons a r ih =>
    have h1 := h a (by simp)
    cases i with
    | zero =>
      have := smI_nn h
      simpa [smI] using this
    | succ i =>
      have := ih (fun x hx => h x (by simp [hx])) i
      simp only [List.take_succ_cons, smI]; omega
theorem set_nn {l : List Int} {i : Nat} {y : Int} (h : ∀ x ∈ l, 0 ≤ x) (hy : 0 ≤ y) : ∀ x ∈ l.set i y, 0 ≤ x := by
  intro x hx
  rcases List.mem_or_eq_of_mem_set hx with e | e
  · exact h x e
  · rw [e]; exact hy
theorem outE_take (t : ByteArray) (id : Int) (l : List Ed) (m : Nat) (hm : m ≤ l.length) : outE t id (l.take m) ≤ m := by
  have := (outE_rng t id (l.take m)).2
  rw [List.length_take] at this
  omega
structure SwA (g : Gr) where
  i : Nat
  hi : i ≤ g.nodes.length
structure SwK (g : Gr) (ty : List ByteArray) where
  k : Nat
  a : List Int
  hk : k ≤ ty.length
  hl : a.length = g.nodes.length
  nn : ∀ x ∈ a, 0 ≤ x
  hb : smI a ≤ ((12 * 30 ^ k : Nat) : Int)
  hz : k = 0 → a = List.replicate g.nodes.length 1
  hp : ∀ t r, ty = t :: r → 0 < k → smI a ≤ ((prN (stG g) (r.take (k - 1)) (cntE t g.edges).toNat : Nat) : Int)
structure SwM (g : Gr) (t : ByteArray) (a : List Int) where
  m : Nat
  nx : List Int
  hm : m ≤ g.edges.length
  hl : nx.length = g.nodes.length
  nn : ∀ x ∈ nx, 0 ≤ x
  hs : smI nx ≤ egI t (idL g) a (g.edges.take m)
structure SwI (g : Gr) (a : List Int) (src B : Int) where
  i : Nat
  nx : List Int
  hi : i ≤ g.nodes.length
  hl : nx.length = g.nodes.length
  nn : ∀ x ∈ nx, 0 ≤ x
  hs : smI nx ≤ B + pkI src ((idL g).take i) (a.take i)
structure SwJ (g : Gr) (dst B x : Int) where
  j : Nat
  nx : List Int
  hj : j ≤ g.nodes.length
  hl : nx.length = g.nodes.length
  nn : ∀ x ∈ nx, 0 ≤ x
  hs : smI nx ≤ B + ctI dst ((idL g).take j) * x
structure SwF (a : List Int) where
  i : Nat
  s : Int
  hi : i ≤ a.length
  ok : s = smI (a.take i)
theorem idL_at {g : Gr} {i : Nat} {n : Nd} (h : g.nodes[i]? = some n) : (idL g)[i]? = some n.id := by unfold idL; rw [List.getElem?_map, h]; rfl
theorem pow30 {k : Nat} (h : k ≤ 5) : ((12 * 30 ^ k : Nat) : Int) ≤ 291600000 := by
  have : (30 : Nat) ^ k ≤ 30 ^ 5 := Nat.pow_le_pow_right (by decide) h
  have h2 : (30 : Nat) ^ 5 = 24300000 := by decide
  omega
set_option maxRecDepth 20000 in
set_option maxHeartbeats 16000000 in
theorem ew_ev (g : Gr) (ty : List ByteArray) : Ev E 3 [encGr g, .sl (ty.map .str)] (.d (.bool true)) := by
  have hnn : (g.nodes.map encNd).length = g.nodes.length := by simp
  have hen : (g.edges.map encEd).length = g.edges.length := by simp
  have htn : (ty.map D.str).length = ty.length := by simp
  have hC := gcheck_ev g
  cases hz : chkG g != 0 with
  | true =>
    have hO := of0_ev g (chkG g) hz hC
    refine enter2 Tryz.func3 Tryz.ntmps3 rfl rfl fun w0 F0 O => ?_
    repeat' (first | refine zS rfl ?_ | refine qA ?_ | refine qB rfl ?_ | refine qC (by kernel_rfl) ?_ | refine qD ?_ | refine qE ?_ | refine qF ?_ | refine qG ?_ | refine qH rfl ?_ | refine qP rfl rfl rfl rfl rfl rfl b4 (hO) ?_ | refine qP rfl rfl rfl rfl rfl rfl b5 (lives_ev) ?_ | refine zT rfl ?_ | refine zU rfl ?_ | refine qL rfl rfl ?_ | refine qM rfl rfl rfl ?_ | refine qO rfl rfl rfl ?_ | refine zX rfl rfl rfl rfl ?_ | refine zW rfl rfl rfl rfl ?_ | (refine qY rfl rfl rfl rfl ?_ ?_ <;> intro _) | exact zD | exact zL)
  | false =>
  have hc0 : chkG g = 0 := by simpa using hz
  obtain ⟨q1, q2, q3, q4⟩ := chkG_0 hc0
  rw [hc0] at hC
  have hO := of_ev g hC q1 q2 q4 (Nat.le_trans (srtC_len _) (Nat.le_trans (labL_len _ q4) (by omega))) (Nat.le_trans (srtC_len _) (by rw [tyL, List.length_map]; exact q2))
  have hS := steps_ev (stG g) ty
  clear hC hz hc0
  refine enter2 Tryz.func3 Tryz.ntmps3 rfl rfl fun w0 F0 O => ?_
  repeat' (first | refine zS rfl ?_ | refine qA ?_ | refine qB rfl ?_ | refine qC (by kernel_rfl) ?_ | refine qD ?_ | refine qE ?_ | refine qF ?_ | refine qG ?_ | refine qH rfl ?_ | refine qP rfl rfl rfl rfl rfl rfl b4 (hO) ?_ | refine zT rfl ?_ | refine zU rfl ?_ | refine qL rfl rfl ?_ | refine qM rfl rfl rfl ?_ | refine qO rfl rfl rfl ?_ | refine zX rfl rfl rfl rfl ?_ | refine zW rfl rfl rfl rfl ?_ | exact zD | exact zL)
  cases c1 : decide (((g.nodes.map encNd).length : Int) > 12) with
  | true =>
    repeat' (first | refine zS rfl ?_ | refine qA ?_ | refine qB rfl ?_ | refine qC (by kernel_rfl) ?_ | refine qD ?_ | refine qE ?_ | refine qF ?_ | refine qG ?_ | refine qH rfl ?_ | refine qP rfl rfl rfl rfl rfl rfl b5 (lives_ev) ?_ | refine zT rfl ?_ | refine zU rfl ?_ | refine qL rfl rfl ?_ | refine qM rfl rfl rfl ?_ | refine qO rfl rfl rfl ?_ | refine zX rfl rfl rfl rfl ?_ | refine zW rfl rfl rfl rfl ?_ | (refine qY rfl rfl rfl rfl ?_ ?_ <;> intro _) | exact zD | exact zL)
  | false =>
  repeat' (first | refine zS rfl ?_ | refine qA ?_ | refine qB rfl ?_ | refine qC (by kernel_rfl) ?_ | refine qD ?_ | refine qE ?_ | refine qF ?_ | refine qG ?_ | refine qH rfl ?_ | refine zT rfl ?_ | refine zU rfl ?_ | refine qL rfl rfl ?_ | refine qM rfl rfl rfl ?_ | refine qO rfl rfl rfl ?_ | refine zX rfl rfl rfl rfl ?_ | refine zW rfl rfl rfl rfl ?_ | exact zD | exact zL)
  cases c2 : decide (((g.edges.map encEd).length : Int) > 30) with
  | true =>
    repeat' (first | refine zS rfl ?_ | refine qA ?_ | refine qB rfl ?_ | refine qC (by kernel_rfl) ?_ | refine qD ?_ | refine qE ?_ | refine qF ?_ | refine qG ?_ | refine qH rfl ?_ | refine qP rfl rfl rfl rfl rfl rfl b5 (lives_ev) ?_ | refine zT rfl ?_ | refine zU rfl ?_ | refine qL rfl rfl ?_ | refine qM rfl rfl rfl ?_ | refine qO rfl rfl rfl ?_ | refine zX rfl rfl rfl rfl ?_ | refine zW rfl rfl rfl rfl ?_ | (refine qY rfl rfl rfl rfl ?_ ?_ <;> intro _) | exact zD | exact zL)
  | false =>
  repeat' (first | refine zS rfl ?_ | refine qA ?_ | refine qB rfl ?_ | refine qC (by kernel_rfl) ?_ | refine qD ?_ | refine qE ?_ | refine qF ?_ | refine qG ?_ | refine qH rfl ?_ | refine zT rfl ?_ | refine zU rfl ?_ | refine qL rfl rfl ?_ | refine qM rfl rfl rfl ?_ | refine qO rfl rfl rfl ?_ | refine zX rfl rfl rfl rfl ?_ | refine zW rfl rfl rfl rfl ?_ | exact zD | exact zL)
  cases c3 : decide (((ty.map D.str).length : Int) > 5) with
  | true =>
    repeat' (first | refine zS rfl ?_ | refine qA ?_ | refine qB rfl ?_ | refine qC (by kernel_rfl) ?_ | refine qD ?_ | refine qE ?_ | refine qF ?_ | refine qG ?_ | refine qH rfl ?_ | refine qP rfl rfl rfl rfl rfl rfl b5 (lives_ev) ?_ | refine zT rfl ?_ | refine zU rfl ?_ | refine qL rfl rfl ?_ | refine qM rfl rfl rfl ?_ | refine qO rfl rfl rfl ?_ | refine zX rfl rfl rfl rfl ?_ | refine zW rfl rfl rfl rfl ?_ | (refine qY rfl rfl rfl rfl ?_ ?_ <;> intro _) | exact zD | exact zL)
  | false =>
  have b1 : g.nodes.length ≤ 12 := by have := of_decide_eq_false c1; omega
  have b2 : g.edges.length ≤ 30 := by have := of_decide_eq_false c2; omega
  have b3 : ty.length ≤ 5 := by have := of_decide_eq_false c3; omega
  by_cases hty : ty = []
  · subst hty
    rw [show stpB (stG g) [] = false by unfold stpB; rfl] at hS
    have g0 : (((([] : List ByteArray).map D.str).length : Int) == 0) = true := rfl
    repeat' (first | refine zS rfl ?_ | refine qA ?_ | refine qB rfl ?_ | refine qC (by kernel_rfl) ?_ | refine qD ?_ | refine qE ?_ | refine qF ?_ | refine qG ?_ | refine qH rfl ?_ | refine qP rfl rfl rfl rfl rfl rfl b6 (hS) ?_ | refine qP rfl rfl rfl rfl rfl rfl b5 (lives_ev) ?_ | refine zT rfl ?_ | refine zU rfl ?_ | refine qL rfl rfl ?_ | refine qM rfl rfl rfl ?_ | refine qO rfl rfl rfl ?_ | refine zX rfl rfl rfl rfl ?_ | refine zW rfl rfl rfl rfl ?_ | (refine qY rfl rfl rfl rfl ?_ ?_ <;> intro _) | exact zD | exact zL)
  have hB : stpB (stG g) ty = true := by
    obtain ⟨t, r, rfl⟩ := List.exists_cons_of_ne_nil hty
    unfold stpB
    rw [(stpF_pr b2 t r (by simp at b3; omega)).1]
    rfl
  have hN : ∀ t r, ty = t :: r → stpN (stG g) ty = prN (stG g) r (cntE t g.edges).toNat ∧ stpN (stG g) ty ≤ 24300000 := by
    rintro t r rfl
    obtain ⟨h1, h2⟩ := stpF_pr b2 t r (by simp at b3; omega)
    have : stpN (stG g) (t :: r) = prN (stG g) r (cntE t g.edges).toNat := by unfold stpN; rw [h1]; rfl
    exact ⟨this, by rw [this]; exact h2⟩
  rw [hB] at hS
  generalize stpN (stG g) ty = P at hS hN
  have hids : (idL g).Pairwise (· < ·) := q3
  have hidl : (idL g).length = g.nodes.length := by simp [idL]
  repeat' (first | refine zS rfl ?_ | refine qA ?_ | refine qB rfl ?_ | refine qC (by kernel_rfl) ?_ | refine qD ?_ | refine qE ?_ | refine qF ?_ | refine qG ?_ | refine qH rfl ?_ | refine qP rfl rfl rfl rfl rfl rfl b6 (hS) ?_ | refine zT rfl ?_ | refine zU rfl ?_ | refine qL rfl rfl ?_ | refine qM rfl rfl rfl ?_ | refine qO rfl rfl rfl ?_ | refine zX rfl rfl rfl rfl ?_ | refine zW rfl rfl rfl rfl ?_ | (refine qY rfl rfl rfl rfl ?_ ?_ <;> intro _) | exact zD | exact zL)
  repeat' (first | refine zS rfl ?_ | refine qA ?_ | refine qB rfl ?_ | refine qC (by kernel_rfl) ?_ | refine qD ?_ | refine qE ?_ | refine qF ?_ | refine qG ?_ | refine qH rfl ?_ | (refine go_make0 (g.nodes.map encNd).length rfl rfl rfl rfl rfl rfl rfl rfl (by (show 8 * (g.nodes.map encNd).length ≤ 281474976710656; rw [hnn]; omega)) (by rw [hnn]; omega) ?_) | refine zT rfl ?_ | refine zU rfl ?_ | refine qL rfl rfl ?_ | refine qM rfl rfl rfl ?_ | refine qO rfl rfl rfl ?_ | refine zX rfl rfl rfl rfl ?_ | refine zW rfl rfl rfl rfl ?_ | (refine qY rfl rfl rfl rfl ?_ ?_ <;> intro _) | exact zD | exact zL)
  refine go_loop_ (α := SwA g) (fun p => ⟨[(1, .d (.sl (ty.map .str))), (2, .ptr 0 0), (7, .d (natD P)), (9, .own 2), (10, .d (.int p.i))], [oGr g, stO (stG g), rwI (List.replicate p.i 1)]⟩) (fun p => g.nodes.length - p.i) ⟨0, by omega⟩ ((zle 3)) ?_
  rintro ⟨i, hi⟩
  dsimp only
  rcases Nat.lt_or_ge i g.nodes.length with hlt | hge
  · have g1 : decide ((i : Int) < ((g.nodes.map encNd).length : Int)) = true := by rw [hnn]; simpa using hlt
    have hol : (iL (List.replicate i 1)).length = i := by simp [iL]
    have hnx : iL (List.replicate (i + 1) 1) = iL (List.replicate i 1) ++ [.int 1] := by rw [List.replicate_succ', iL_app]; rfl
    repeat' (first | refine zS rfl ?_ | refine qA ?_ | refine qB rfl ?_ | refine qC (by kernel_rfl) ?_ | refine qD ?_ | refine qE ?_ | refine qF ?_ | refine qG ?_ | refine qH rfl ?_ | (refine qS rfl ⟨by simp, fun d hd => by (obtain rfl := List.mem_singleton.1 hd; rfl), by (show ((iL (List.replicate i 1)).length + 1) * 8 ≤ 140737488355328; omega), by (show (iL (List.replicate i 1)).length + 1 ≤ 9223372036854775807; omega)⟩ ?_) | refine zT rfl ?_ | refine zU rfl ?_ | refine qL rfl rfl ?_ | refine qM rfl rfl rfl ?_ | refine qO rfl rfl rfl ?_ | refine zX rfl rfl rfl rfl ?_ | refine zW rfl rfl rfl rfl ?_ | (refine qY rfl rfl rfl rfl ?_ ?_ <;> intro _) | exact zD | exact zL)
    refine go_stop ?_
    refine ⟨⟨i + 1, by omega⟩, by dsimp only; omega, ?_⟩
    dsimp only
    rw [show rwI (List.replicate (i + 1) 1) = .row 3 1 (iL (List.replicate i 1) ++ [.int 1]) by rw [rwI, hnx]]
    exact (zren [0, 1, 3])
  have g1 : decide ((i : Int) < ((g.nodes.map encNd).length : Int)) = false := by rw [hnn]; simp; omega
  obtain rfl : i = g.nodes.length := by omega
  clear hi hge
  repeat' (first | refine zS rfl ?_ | refine qA ?_ | refine qB rfl ?_ | refine qC (by kernel_rfl) ?_ | refine qD ?_ | refine qE ?_ | refine qF ?_ | refine qG ?_ | refine qH rfl ?_ | refine zT rfl ?_ | refine zU rfl ?_ | refine qL rfl rfl ?_ | refine qM rfl rfl rfl ?_ | refine qO rfl rfl rfl ?_ | refine zX rfl rfl rfl rfl ?_ | refine zW rfl rfl rfl rfl ?_ | (refine qY rfl rfl rfl rfl ?_ ?_ <;> intro _) | exact zD | exact zL)
  refine go_loop_ (α := SwK g ty) (fun p => ⟨[(1, .d (.sl (ty.map .str))), (2, .ptr 0 0), (7, .d (natD P)), (9, .own 2), (11, .d (.int p.k))], [oGr g, stO (stG g), rwI p.a]⟩) (fun p => ty.length - p.k)
    ⟨0, List.replicate g.nodes.length 1, by omega, by simp, fun x hx => by rw [List.eq_of_mem_replicate hx]; omega, by rw [smI_rep]; omega, fun _ => rfl, fun t r _ h => absurd h (by omega)⟩ ((zle 3)) ?_
  rintro ⟨k, a, hk, hal, han, hab, haz, hap⟩
  dsimp only
  have hail := iL_len a
  rcases Nat.lt_or_ge k ty.length with hkl | hkg
  · have g2 : decide ((k : Int) < ((ty.map D.str).length : Int)) = true := by rw [htn]; simpa using hkl
    have ht0 := List.getElem?_eq_getElem hkl
    generalize htk : ty[k] = t at ht0
    have htx := map_at (f := D.str) ht0
    have hpw := pow30 (show k ≤ 5 by omega)
    have ha0 := smI_nn han
    have er := iL_rep (g.nodes.map encNd).length
    repeat' (first | refine zS rfl ?_ | refine qA ?_ | refine qB rfl ?_ | refine qC (by kernel_rfl) ?_ | refine qD ?_ | refine qE ?_ | refine qF ?_ | refine qG ?_ | refine qH rfl ?_ | (refine qS rfl ⟨rfl, by (show 8 * (g.nodes.map encNd).length ≤ 281474976710656; rw [hnn]; omega), by rw [hnn]; omega⟩ ?_) | refine zT rfl ?_ | refine zU rfl ?_ | refine qL rfl rfl ?_ | refine qM rfl rfl rfl ?_ | refine qO rfl rfl rfl ?_ | refine zX rfl rfl rfl rfl ?_ | refine zW rfl rfl rfl rfl ?_ | (refine qY rfl rfl rfl rfl ?_ ?_ <;> intro _) | exact zD | exact zL)
    refine go_loop_ (α := SwM g t a) (fun p => ⟨[(1, .d (.sl (ty.map .str))), (2, .ptr 0 0), (7, .d (natD P)), (9, .own 2), (11, .d (.int k)), (12, .own 3), (13, .d (.int p.m))], [oGr g, stO (stG g), rwI a, rwI p.nx]⟩) (fun p => g.edges.length - p.m)
      ⟨0, List.replicate (g.nodes.map encNd).length 0, by omega, by simp, fun x hx => by rw [List.eq_of_mem_replicate hx]; omega, by rw [smI_rep]; simp [egI]⟩ (by (dsimp only [rwI]; rw [← er]; exact (zle 4))) ?_
    rintro ⟨m, nx, hm, hxl, hxn, hxs⟩
    dsimp only
    rcases Nat.lt_or_ge m g.edges.length with hml | hmg
    · have g3 : decide ((m : Int) < ((g.edges.map encEd).length : Int)) = true := by rw [hen]; simpa using hml
      have he0 := List.getElem?_eq_getElem hml
      generalize g.edges[m] = e at he0
      have hex := map_at (f := encEd) he0
      have heg := egI_take (t := t) (is := idL g) (xs := a) he0
      repeat' (first | refine zS rfl ?_ | refine qA ?_ | refine qB rfl ?_ | refine qC (by kernel_rfl) ?_ | refine qD ?_ | refine qE ?_ | refine qF ?_ | refine qG ?_ | refine qH rfl ?_ | refine qI (encEd e) rfl (guardX_ok rfl) rfl rfl rfl rfl rfl rfl (by first | omega | decide) hex ?_ | refine qI (.str t) rfl (guardX_ok rfl) rfl rfl rfl rfl rfl rfl (by first | omega | decide) htx ?_ | refine zT rfl ?_ | refine zU rfl ?_ | refine qL rfl rfl ?_ | refine qM rfl rfl rfl ?_ | refine qO rfl rfl rfl ?_ | refine zX rfl rfl rfl rfl ?_ | refine zW rfl rfl rfl rfl ?_ | exact zD | exact zL)
      cases hb : e.ty.toList == t.toList with
      | false =>
        rw [show tyB t e = false from hb, cond_false, Int.add_zero] at heg
        repeat' (first | refine zS rfl ?_ | refine qA ?_ | refine qB rfl ?_ | refine qC (by kernel_rfl) ?_ | refine qD ?_ | refine qE ?_ | refine qF ?_ | refine qG ?_ | refine qH rfl ?_ | refine zT rfl ?_ | refine zU rfl ?_ | refine qL rfl rfl ?_ | refine qM rfl rfl rfl ?_ | refine qO rfl rfl rfl ?_ | refine zX rfl rfl rfl rfl ?_ | refine zW rfl rfl rfl rfl ?_ | (refine qY rfl rfl rfl rfl ?_ ?_ <;> intro _) | exact zD | exact zL)
        refine go_stop ?_
        exact ⟨⟨m + 1, nx, by omega, hxl, hxn, by rw [heg]; exact hxs⟩, by dsimp only; omega, (zle 4)⟩
      | true =>
        rw [show tyB t e = true from hb, cond_true] at heg
        have hB1 : egI t (idL g) a (g.edges.take m) ≤ 30 * smI a := by
          refine Int.le_trans (egI_le (M := (m : Int)) (fun i _ => outE_take t i g.edges m (by omega)) han (by omega)) ?_
          exact Int.mul_le_mul_of_nonneg_right (by omega) ha0
        generalize egI t (idL g) a (g.edges.take m) = B at hxs heg hB1
        repeat' (first | refine zS rfl ?_ | refine qA ?_ | refine qB rfl ?_ | refine qC (by kernel_rfl) ?_ | refine qD ?_ | refine qE ?_ | refine qF ?_ | refine qG ?_ | refine qH rfl ?_ | refine zT rfl ?_ | refine zU rfl ?_ | refine qL rfl rfl ?_ | refine qM rfl rfl rfl ?_ | refine qO rfl rfl rfl ?_ | refine zX rfl rfl rfl rfl ?_ | refine zW rfl rfl rfl rfl ?_ | (refine qY rfl rfl rfl rfl ?_ ?_ <;> intro _) | exact zD | exact zL)
        refine go_loop_ (α := SwI g a e.src B) (fun p => ⟨[(1, .d (.sl (ty.map .str))), (2, .ptr 0 0), (7, .d (natD P)), (9, .own 2), (11, .d (.int k)), (12, .own 3), (13, .d (.int m)), (14, .d (.int p.i))], [oGr g, stO (stG g), rwI a, rwI p.nx]⟩) (fun p => g.nodes.length - p.i)
          ⟨0, nx, by omega, hxl, hxn, by simpa [pkI] using hxs⟩ ((zle 4)) ?_
        clear hxs hxn hxl nx
        rintro ⟨i, nx, hi, hxl, hxn, hxs⟩
        dsimp only
        rcases Nat.lt_or_ge i g.nodes.length with hil | hig
        · have g4 : decide ((i : Int) < ((g.nodes.map encNd).length : Int)) = true := by rw [hnn]; simpa using hil
          have hn0 := List.getElem?_eq_getElem hil
          generalize g.nodes[i] = n1 at hn0
          have hnx1 := map_at (f := encNd) hn0
          have hx0 := List.getElem?_eq_getElem (show i < a.length by omega)
          generalize a[i] = x at hx0
          have hxa := iL_get hx0
          have hx1 : 0 ≤ x := han x (List.mem_of_getElem? hx0)
          have hx2 : x ≤ smI a := smI_mem han (List.mem_of_getElem? hx0)
          have hpk := pkI_take (id := e.src) (idL_at hn0) hx0
          have hpl : pkI e.src ((idL g).take i) (a.take i) ≤ smI a := Int.le_trans (pkI_le _ fun y hy => han y (List.mem_of_mem_take hy)) (smI_take_le han i)
          cases c4 : n1.id == e.src with
          | false =>
            rw [if_neg (by simpa using c4), Int.add_zero] at hpk
            repeat' (first | refine zS rfl ?_ | refine qA ?_ | refine qB rfl ?_ | refine qC (by kernel_rfl) ?_ | refine qD ?_ | refine qE ?_ | refine qF ?_ | refine qG ?_ | refine qH rfl ?_ | refine zT rfl ?_ | refine zU rfl ?_ | refine qL rfl rfl ?_ | refine qM rfl rfl rfl ?_ | refine qO rfl rfl rfl ?_ | refine zX rfl rfl rfl rfl ?_ | refine zW rfl rfl rfl rfl ?_ | (refine qY rfl rfl rfl rfl ?_ ?_ <;> intro _) | exact zD | exact zL)
            refine go_loop_ (α := SwA g) (fun p => ⟨[(1, .d (.sl (ty.map .str))), (2, .ptr 0 0), (7, .d (natD P)), (9, .own 2), (11, .d (.int k)), (12, .own 3), (13, .d (.int m)), (14, .d (.int i)), (15, .d (.int p.i))], [oGr g, stO (stG g), rwI a, rwI nx]⟩) (fun p => g.nodes.length - p.i) ⟨0, by omega⟩ ((zle 4)) ?_
            rintro ⟨j, hj⟩
            dsimp only
            rcases Nat.lt_or_ge j g.nodes.length with hjl | hjg
            · have g5 : decide ((j : Int) < ((g.nodes.map encNd).length : Int)) = true := by rw [hnn]; simpa using hjl
              repeat' (first | refine zS rfl ?_ | refine qA ?_ | refine qB rfl ?_ | refine qC (by kernel_rfl) ?_ | refine qD ?_ | refine qE ?_ | refine qF ?_ | refine qG ?_ | refine qH rfl ?_ | refine qI (encNd n1) rfl (guardX_ok rfl) rfl rfl rfl rfl rfl rfl (by first | omega | decide) hnx1 ?_ | refine qI (encEd e) rfl (guardX_ok rfl) rfl rfl rfl rfl rfl rfl (by first | omega | decide) hex ?_ | refine zT rfl ?_ | refine zU rfl ?_ | refine qL rfl rfl ?_ | refine qM rfl rfl rfl ?_ | refine qO rfl rfl rfl ?_ | refine zX rfl rfl rfl rfl ?_ | refine zW rfl rfl rfl rfl ?_ | (refine qY rfl rfl rfl rfl ?_ ?_ <;> intro _) | exact zD | exact zL)
              refine go_stop ?_
              exact ⟨⟨j + 1, by omega⟩, by dsimp only; omega, (zle 4)⟩
            · have g5 : decide ((j : Int) < ((g.nodes.map encNd).length : Int)) = false := by rw [hnn]; simp; omega
              repeat' (first | refine zS rfl ?_ | refine qA ?_ | refine qB rfl ?_ | refine qC (by kernel_rfl) ?_ | refine qD ?_ | refine qE ?_ | refine qF ?_ | refine qG ?_ | refine qH rfl ?_ | refine zT rfl ?_ | refine zU rfl ?_ | refine qL rfl rfl ?_ | refine qM rfl rfl rfl ?_ | refine qO rfl rfl rfl ?_ | refine zX rfl rfl rfl rfl ?_ | refine zW rfl rfl rfl rfl ?_ | (refine qY rfl rfl rfl rfl ?_ ?_ <;> intro _) | exact zD | exact zL)
              refine go_stop ?_
              exact ⟨⟨i + 1, nx, by omega, hxl, hxn, by rw [hpk]; exact hxs⟩, by dsimp only; omega, (zle 4)⟩
          | true =>
            rw [if_pos (by simpa using c4)] at hpk
            generalize pkI e.src ((idL g).take i) (a.take i) = Q at hxs hpk hpl
            repeat' (first | refine zS rfl ?_ | refine qA ?_ | refine qB rfl ?_ | refine qC (by kernel_rfl) ?_ | refine qD ?_ | refine qE ?_ | refine qF ?_ | refine qG ?_ | refine qH rfl ?_ | refine zT rfl ?_ | refine zU rfl ?_ | refine qL rfl rfl ?_ | refine qM rfl rfl rfl ?_ | refine qO rfl rfl rfl ?_ | refine zX rfl rfl rfl rfl ?_ | refine zW rfl rfl rfl rfl ?_ | (refine qY rfl rfl rfl rfl ?_ ?_ <;> intro _) | exact zD | exact zL)
            refine go_loop_ (α := SwJ g e.dst (B + Q) x) (fun p => ⟨[(1, .d (.sl (ty.map .str))), (2, .ptr 0 0), (7, .d (natD P)), (9, .own 2), (11, .d (.int k)), (12, .own 3), (13, .d (.int m)), (14, .d (.int i)), (15, .d (.int p.j))], [oGr g, stO (stG g), rwI a, rwI p.nx]⟩) (fun p => g.nodes.length - p.j)
              ⟨0, nx, by omega, hxl, hxn, by simpa [ctI] using hxs⟩ ((zle 4)) ?_
            clear hxs hxn hxl nx
            rintro ⟨j, nx, hj, hxl, hxn, hxs⟩
            dsimp only
            rcases Nat.lt_or_ge j g.nodes.length with hjl | hjg
            · have g5 : decide ((j : Int) < ((g.nodes.map encNd).length : Int)) = true := by rw [hnn]; simpa using hjl
              have hm0 := List.getElem?_eq_getElem hjl
              generalize g.nodes[j] = n2 at hm0
              have hnx2 := map_at (f := encNd) hm0
              have hct := ctI_take (id := e.dst) (idL_at hm0)
              cases c5 : n2.id == e.dst with
              | false =>
                rw [if_neg (by simpa using c5), Int.add_zero] at hct
                repeat' (first | refine zS rfl ?_ | refine qA ?_ | refine qB rfl ?_ | refine qC (by kernel_rfl) ?_ | refine qD ?_ | refine qE ?_ | refine qF ?_ | refine qG ?_ | refine qH rfl ?_ | refine qI (encNd n1) rfl (guardX_ok rfl) rfl rfl rfl rfl rfl rfl (by first | omega | decide) hnx1 ?_ | refine qI (encNd n2) rfl (guardX_ok rfl) rfl rfl rfl rfl rfl rfl (by first | omega | decide) hnx2 ?_ | refine qI (encEd e) rfl (guardX_ok rfl) rfl rfl rfl rfl rfl rfl (by first | omega | decide) hex ?_ | refine zT rfl ?_ | refine zU rfl ?_ | refine qL rfl rfl ?_ | refine qM rfl rfl rfl ?_ | refine qO rfl rfl rfl ?_ | refine zX rfl rfl rfl rfl ?_ | refine zW rfl rfl rfl rfl ?_ | (refine qY rfl rfl rfl rfl ?_ ?_ <;> intro _) | exact zD | exact zL)
                refine go_stop ?_
                exact ⟨⟨j + 1, nx, by omega, hxl, hxn, by rw [hct]; exact hxs⟩, by dsimp only; omega, (zle 4)⟩
              | true =>
                rw [if_pos (by simpa using c5)] at hct
                have hy0 := List.getElem?_eq_getElem (show j < nx.length by omega)
                generalize nx[j] = y at hy0
                have hya := iL_get hy0
                have hy1 : 0 ≤ y := hxn y (List.mem_of_getElem? hy0)
                have hy2 : y ≤ smI nx := smI_mem hxn (List.mem_of_getElem? hy0)
                have hc1 : ctI e.dst ((idL g).take j) ≤ 1 := ctI_one (hids.sublist (List.take_sublist _ _))
                have hc2 := ctI_nn e.dst ((idL g).take j)
                have hcx : ctI e.dst ((idL g).take j) * x ≤ 1 * x := Int.mul_le_mul_of_nonneg_right hc1 hx1
                have hxil := iL_len nx
                have hst : (iL nx).set ((j : Int)).toNat (subD (.int y) 0 (.int (y + x))) = iL (nx.set j (y + x)) := iL_set' rfl _ _
                repeat' (first | refine qW _ rfl rfl rfl rfl rfl rfl hya rfl ?_ | refine qW _ rfl rfl rfl rfl rfl rfl hxa rfl ?_ | refine qR0 (id := 27) [12] (by kernel_rfl) (by kernel_rfl) (by repeat (first | exact trivial | refine ⟨⟨rfl, rfl⟩, ?_⟩ | refine ⟨trivial, ?_⟩)) ?_ | refine rgF (id := 27) (i := 0) 12 (by kernel_rfl) rfl ?_ | refine rgStore (id := 27) (i := 12) rfl rfl rfl rfl rfl rfl rfl rfl rfl rfl rfl (by repeat (first | exact trivial | refine ⟨⟨rfl, rfl⟩, ?_⟩ | refine ⟨trivial, ?_⟩)) ?_ | refine rgAlloc (id := 27) (i := 12) rfl rfl rfl rfl rfl rfl rfl (by repeat (first | exact trivial | refine ⟨⟨rfl, rfl⟩, ?_⟩ | refine ⟨trivial, ?_⟩)) ?_ | refine rgBox (id := 27) (i := 12) rfl rfl rfl rfl rfl rfl rfl (by repeat (first | exact trivial | refine ⟨⟨rfl, rfl⟩, ?_⟩ | refine ⟨trivial, ?_⟩)) ?_ | refine rgBoxP (id := 27) (i := 12) rfl rfl rfl rfl rfl rfl rfl (by repeat (first | exact trivial | refine ⟨⟨rfl, rfl⟩, ?_⟩ | refine ⟨trivial, ?_⟩)) ?_ | refine rgStoreP _ (id := 27) (i := 12) rfl rfl rfl rfl rfl rfl rfl (by assumption) rfl rfl rfl (by repeat (first | exact trivial | refine ⟨⟨rfl, rfl⟩, ?_⟩ | refine ⟨trivial, ?_⟩)) ?_ | (refine rgS (id := 27) (i := 12) rfl rfl rfl rfl ?_ (by repeat (first | exact trivial | refine ⟨⟨rfl, rfl⟩, ?_⟩ | refine ⟨trivial, ?_⟩)) ?_; (first | exact True.intro | rfl | assumption | omega | (simp only [inR]; omega) | ((show _ ≤ (9223372036854775807 : Nat)); (try simp only [ByteArray.size_append]); omega) | exact tmod_ok (by omega) (by omega) | exact tdiv_ok (by omega) (by omega) | exact ⟨rfl, by decide, by decide⟩)) | refine rgN ?_ | (show TmB _ _ ∧ RGo _ _ _ _ _ _ _ _ _; refine ⟨(by repeat (first | exact trivial | refine ⟨rfl, ?_⟩)), ?_⟩) | refine zS rfl ?_ | refine qA ?_ | refine qB rfl ?_ | refine qC (by kernel_rfl) ?_ | refine qD ?_ | refine qE ?_ | refine qF ?_ | refine qG ?_ | refine qH rfl ?_ | refine qI (encNd n1) rfl (guardX_ok rfl) rfl rfl rfl rfl rfl rfl (by first | omega | decide) hnx1 ?_ | refine qI (encNd n2) rfl (guardX_ok rfl) rfl rfl rfl rfl rfl rfl (by first | omega | decide) hnx2 ?_ | refine qI (encEd e) rfl (guardX_ok rfl) rfl rfl rfl rfl rfl rfl (by first | omega | decide) hex ?_ | refine zT rfl ?_ | refine zU rfl ?_ | refine qL rfl rfl ?_ | refine qM rfl rfl rfl ?_ | refine qO rfl rfl rfl ?_ | refine zX rfl rfl rfl rfl ?_ | refine zW rfl rfl rfl rfl ?_ | (refine qY rfl rfl rfl rfl ?_ ?_ <;> intro _) | exact zD | exact zL)
                refine go_stop ?_
                refine ⟨⟨j + 1, nx.set j (y + x), by omega, by rw [List.length_set]; exact hxl, set_nn hxn (by omega), by rw [smI_set hy0, hct, Int.add_mul]; omega⟩, by dsimp only; omega, ?_⟩
                dsimp only [rwI]
                rw [← hst]
                exact (zle 4)
            · have g5 : decide ((j : Int) < ((g.nodes.map encNd).length : Int)) = false := by rw [hnn]; simp; omega
              obtain rfl : j = g.nodes.length := by omega
              rw [List.take_of_length_le (by omega)] at hxs
              have hc1 : ctI e.dst (idL g) ≤ 1 := ctI_one hids
              have hcx : ctI e.dst (idL g) * x ≤ 1 * x := Int.mul_le_mul_of_nonneg_right hc1 hx1
              repeat' (first | refine zS rfl ?_ | refine qA ?_ | refine qB rfl ?_ | refine qC (by kernel_rfl) ?_ | refine qD ?_ | refine qE ?_ | refine qF ?_ | refine qG ?_ | refine qH rfl ?_ | refine zT rfl ?_ | refine zU rfl ?_ | refine qL rfl rfl ?_ | refine qM rfl rfl rfl ?_ | refine qO rfl rfl rfl ?_ | refine zX rfl rfl rfl rfl ?_ | refine zW rfl rfl rfl rfl ?_ | (refine qY rfl rfl rfl rfl ?_ ?_ <;> intro _) | exact zD | exact zL)
              refine go_stop ?_
              exact ⟨⟨i + 1, nx, by omega, hxl, hxn, by rw [hpk]; omega⟩, by dsimp only; omega, (zle 4)⟩
        · have g4 : decide ((i : Int) < ((g.nodes.map encNd).length : Int)) = false := by rw [hnn]; simp; omega
          rw [List.take_of_length_le (by omega), List.take_of_length_le (by omega)] at hxs
          repeat' (first | refine zS rfl ?_ | refine qA ?_ | refine qB rfl ?_ | refine qC (by kernel_rfl) ?_ | refine qD ?_ | refine qE ?_ | refine qF ?_ | refine qG ?_ | refine qH rfl ?_ | refine zT rfl ?_ | refine zU rfl ?_ | refine qL rfl rfl ?_ | refine qM rfl rfl rfl ?_ | refine qO rfl rfl rfl ?_ | refine zX rfl rfl rfl rfl ?_ | refine zW rfl rfl rfl rfl ?_ | (refine qY rfl rfl rfl rfl ?_ ?_ <;> intro _) | exact zD | exact zL)
          refine go_stop ?_
          exact ⟨⟨m + 1, nx, by omega, hxl, hxn, by rw [heg]; exact hxs⟩, by dsimp only; omega, (zle 4)⟩
    · have g3 : decide ((m : Int) < ((g.edges.map encEd).length : Int)) = false := by rw [hen]; simp; omega
      rw [List.take_of_length_le hmg] at hxs
      have hT : egI t (idL g) a g.edges ≤ 30 * smI a := egI_le (M := 30) (fun i _ => Int.le_trans (outE_rng t i g.edges).2 (by omega)) han (by omega)
      obtain ⟨x1, x2, x3⟩ := max_ok (g := g) q2 t
      have hU : egI t (idL g) a g.edges ≤ maxF (stG g) [t] 1 * smI a := egI_le (fun i hi => by
        obtain ⟨n, hn, rfl⟩ := List.mem_map.1 hi
        exact x3 n hn) han x1
      repeat' (first | refine zS rfl ?_ | refine qA ?_ | refine qB rfl ?_ | refine qC (by kernel_rfl) ?_ | refine qD ?_ | refine qE ?_ | refine qF ?_ | refine qG ?_ | refine qH rfl ?_ | refine zT rfl ?_ | refine zU rfl ?_ | refine qL rfl rfl ?_ | refine qM rfl rfl rfl ?_ | refine qO rfl rfl rfl ?_ | refine zX rfl rfl rfl rfl ?_ | refine zW rfl rfl rfl rfl ?_ | (refine qY rfl rfl rfl rfl ?_ ?_ <;> intro _) | exact zD | exact zL)
      refine go_stop ?_
      refine ⟨⟨k + 1, nx, by omega, hxl, hxn, ?_, fun h => by omega, ?_⟩, by dsimp only; omega, (zren [0, 1, 3])⟩
      · rw [Nat.pow_succ]; omega
      · rintro t0 r rfl -
        cases k with
        | zero =>
          have ha1 := haz rfl
          have e0 : t = t0 := by rw [← htk]; rfl
          subst e0
          have hV : egI t (idL g) a g.edges ≤ cntE t g.edges := egI_cnt hids (by rw [ha1]; intro x hx; rw [List.eq_of_mem_replicate hx]; omega) g.edges
          have hr0 := (cntE_rng t g.edges).1
          show smI nx ≤ ((prN (stG g) (r.take 0) (cntE t g.edges).toNat : Nat) : Int)
          rw [List.take_zero, prN]
          omega
        | succ k =>
          have hk1 := hap t0 r rfl (by omega)
          rw [Nat.add_sub_cancel] at hk1
          have hrk : r[k]? = some t := by simpa using ht0
          show smI nx ≤ ((prN (stG g) (r.take (k + 1)) (cntE t0 g.edges).toNat : Nat) : Int)
          rw [List.take_add_one, hrk, Option.toList_some, prN_snoc, Int.natCast_mul, Int.toNat_of_nonneg x1]
          refine Int.le_trans hxs (Int.le_trans hU ?_)
          rw [Int.mul_comm]
          exact Int.mul_le_mul_of_nonneg_right hk1 x1
  · have g2 : decide ((k : Int) < ((ty.map D.str).length : Int)) = false := by rw [htn]; simp; omega
    obtain rfl : k = ty.length := by omega
    have hpw := pow30 b3
    have ha0 := smI_nn han
    have hle : (smI a).toNat ≤ P ∧ P ≤ 24300000 := by
      obtain ⟨t, r, rfl⟩ := List.exists_cons_of_ne_nil hty
      have h1 := hap t r rfl (by simp)
      obtain ⟨h2, h3⟩ := hN t r rfl
      rw [List.length_cons, Nat.add_sub_cancel, List.take_length, ← h2] at h1
      exact ⟨by omega, h3⟩
    have hNo := nof_ev (smI a)
    have hCm := ncmp_ev (smI a).toNat P (Nat.le_trans (lim_small (by omega)) (by decide)) (Nat.le_trans (lim_small (by omega)) (by decide))
    have hcm : decide (cmpN (smI a).toNat P ≤ 0) = true := by
      unfold cmpN
      split
      · rfl
      · rw [if_neg (by omega)]; rfl
    repeat' (first | refine zS rfl ?_ | refine qA ?_ | refine qB rfl ?_ | refine qC (by kernel_rfl) ?_ | refine qD ?_ | refine qE ?_ | refine qF ?_ | refine qG ?_ | refine qH rfl ?_ | refine zT rfl ?_ | refine zU rfl ?_ | refine qL rfl rfl ?_ | refine qM rfl rfl rfl ?_ | refine qO rfl rfl rfl ?_ | refine zX rfl rfl rfl rfl ?_ | refine zW rfl rfl rfl rfl ?_ | (refine qY rfl rfl rfl rfl ?_ ?_ <;> intro _) | exact zD | exact zL)
    refine go_loop_ (α := SwF a) (fun p => ⟨[(7, .d (natD P)), (9, .own 2), (16, .d (.int p.s)), (17, .d (.int p.i))], [oGr g, stO (stG g), rwI a]⟩) (fun p => a.length - p.i) ⟨0, 0, by omega, rfl⟩ ((zle 3)) ?_
    rintro ⟨i, s, hi, ok⟩
    dsimp only
    have hs1 := smI_take_le han i
    have hs2 := smI_nn (l := a.take i) fun x hx => han x (List.mem_of_mem_take hx)
    rw [← ok] at hs1 hs2
    rcases Nat.lt_or_ge i a.length with hil | hig
    · have g3 : decide ((i : Int) < ((iL a).length : Int)) = true := by rw [hail]; simpa using hil
      have hx0 := List.getElem?_eq_getElem hil
      generalize a[i] = x at hx0
      have hxa := iL_get hx0
      have hx1 : 0 ≤ x := han x (List.mem_of_getElem? hx0)
      have hx2 : x ≤ smI a := smI_mem han (List.mem_of_getElem? hx0)
      repeat' (first | refine qW _ rfl rfl rfl rfl rfl rfl hxa rfl ?_ | refine zS rfl ?_ | refine qA ?_ | refine qB rfl ?_ | refine qC (by kernel_rfl) ?_ | refine qD ?_ | refine qE ?_ | refine qF ?_ | refine qG ?_ | refine qH rfl ?_ | refine zT rfl ?_ | refine zU rfl ?_ | refine qL rfl rfl ?_ | refine qM rfl rfl rfl ?_ | refine qO rfl rfl rfl ?_ | refine zX rfl rfl rfl rfl ?_ | refine zW rfl rfl rfl rfl ?_ | (refine qY rfl rfl rfl rfl ?_ ?_ <;> intro _) | exact zD | exact zL)
      refine go_stop ?_
      exact ⟨⟨i + 1, s + x, by omega, by rw [smI_take hx0, ← ok]⟩, by dsimp only; omega, (zle 3)⟩
    · have g3 : decide ((i : Int) < ((iL a).length : Int)) = false := by rw [hail]; simp; omega
      rw [List.take_of_length_le hig] at ok
      subst ok
      repeat' (first | refine zS rfl ?_ | refine qA ?_ | refine qB rfl ?_ | refine qC (by kernel_rfl) ?_ | refine qD ?_ | refine qE ?_ | refine qF ?_ | refine qG ?_ | refine qH rfl ?_ | refine qP rfl rfl rfl rfl rfl rfl b8 (hNo) ?_ | refine qP rfl rfl rfl rfl rfl rfl b7 (hCm) ?_ | refine qP rfl rfl rfl rfl rfl rfl b5 (lives_ev) ?_ | refine zT rfl ?_ | refine zU rfl ?_ | refine qL rfl rfl ?_ | refine qM rfl rfl rfl ?_ | refine qO rfl rfl rfl ?_ | refine zX rfl rfl rfl rfl ?_ | refine zW rfl rfl rfl rfl ?_ | (refine qY rfl rfl rfl rfl ?_ ?_ <;> intro _) | exact zD | exact zL)
end Go.Proofs.YtkjebcnlmanhlaaGreatDoor

/- From rows' readings to graphs. Conditions: none. -/
namespace Go.Proofs.YtkjebcnlmanhlaaGreatDoor
open Go Go.Abs Go.Val Go.RowKit Go.ChangeShapes Go.WideShapes
theorem map_all {α : Type} {f : α → D} : ∀ {ys : List D}, (∀ y ∈ ys, ∃ v, y = f v) → ∃ l : List α, ys = l.map f
  | [], _ => ⟨[], rfl⟩
  | y :: r, h => by
    obtain ⟨v, hv⟩ := h y (by simp)
    obtain ⟨l, hl⟩ := map_all (ys := r) fun z hz => h z (by simp [hz])
    exact ⟨v :: l, by rw [hv, hl]; rfl⟩
theorem ty_pr {x : D} (h : HasTy Tryz.prog 98 x) : ∃ p, x = encPr p := by
  obtain ⟨parts, rfl, hl, hp⟩ := HasTy.struct_inv Tryz.underlying98 h
  match parts, hl with
  | [p0, p1], _ =>
    obtain ⟨k, rfl⟩ := HasTy.str_inv Tryz.underlying9 (hp 0 _ p0 rfl rfl)
    obtain ⟨v, rfl⟩ := ty_val (hp 1 _ p1 rfl rfl)
    exact ⟨⟨k, v⟩, rfl⟩
theorem ty_prs {x : D} (h : HasTy Tryz.prog 39 x) : ∃ l : List Pr, x = .sl (l.map encPr) := by
  obtain ⟨xs, rfl, hx⟩ := HasTy.sl_inv Tryz.underlying39 h
  obtain ⟨l, rfl⟩ := map_all (f := encPr) fun y hy => ty_pr (hx y hy)
  exact ⟨l, rfl⟩
theorem ty_node {x : D} (h : HasTy Tryz.prog 43 x) : ∃ p, x = encNd p := by
  obtain ⟨parts, rfl, hl, hp⟩ := HasTy.struct_inv Tryz.underlying43 h
  match parts, hl with
  | [p0, p1, p2], _ =>
    obtain ⟨k, rfl⟩ := HasTy.int_inv Tryz.underlying3 (hp 0 _ p0 rfl rfl)
    obtain ⟨l, rfl⟩ := ty_strs (hp 1 _ p1 rfl rfl)
    obtain ⟨v, rfl⟩ := ty_prs (hp 2 _ p2 rfl rfl)
    exact ⟨⟨k, l, v⟩, rfl⟩
theorem ty_edge {x : D} (h : HasTy Tryz.prog 41 x) : ∃ p, x = encEd p := by
  obtain ⟨parts, rfl, hl, hp⟩ := HasTy.struct_inv Tryz.underlying41 h
  match parts, hl with
  | [p0, p1, p2, p3, p4], _ =>
    obtain ⟨k, rfl⟩ := HasTy.int_inv Tryz.underlying3 (hp 0 _ p0 rfl rfl)
    obtain ⟨m, rfl⟩ := HasTy.int_inv Tryz.underlying3 (hp 1 _ p1 rfl rfl)
    obtain ⟨n, rfl⟩ := HasTy.int_inv Tryz.underlying3 (hp 2 _ p2 rfl rfl)
    obtain ⟨s, rfl⟩ := HasTy.str_inv Tryz.underlying9 (hp 3 _ p3 rfl rfl)
    obtain ⟨v, rfl⟩ := ty_prs (hp 4 _ p4 rfl rfl)
    exact ⟨⟨k, m, n, s, v⟩, rfl⟩
theorem ty_GR {x : D} (h : HasTy Tryz.prog 25 x) : ∃ p, x = encGr p := by
  obtain ⟨parts, rfl, hl, hp⟩ := HasTy.struct_inv Tryz.underlying25 h
  match parts, hl with
  | [p0, p1, p2, p3], _ =>
    obtain ⟨xs, rfl, hx⟩ := HasTy.sl_inv Tryz.underlying22 (hp 0 _ p0 rfl rfl)
    obtain ⟨l, rfl⟩ := map_all (f := encNd) fun y hy => ty_node (hx y hy)
    obtain ⟨ys, rfl, hy⟩ := HasTy.sl_inv Tryz.underlying23 (hp 1 _ p1 rfl rfl)
    obtain ⟨m, rfl⟩ := map_all (f := encEd) fun z hz => ty_edge (hy z hz)
    obtain ⟨k, rfl⟩ := HasTy.int_inv Tryz.underlying3 (hp 2 _ p2 rfl rfl)
    obtain ⟨n, rfl⟩ := HasTy.int_inv Tryz.underlying3 (hp 3 _ p3 rfl rfl)
    exact ⟨⟨l, m, k, n⟩, rfl⟩
/-- The types that the law's arguments and the listed variable are made of. -/
def tysW : List TypeId := [3, 9, 26, 53, 55, 98, 39, 43, 22, 41, 23, 25, 157]
theorem tysW_ok : closedB Tryz.prog tysW = true := by kernel_rfl
end Go.Proofs.YtkjebcnlmanhlaaGreatDoor
