/- How large the values of expressions can get; what the bound on the reading gives; The law's own small functions: Size, few, op, number; and when an evaluation is within bounds; From rows' readings to graphs, expressions and bindings; The worked examples of chapter 22; The worked examples of chapter 22: the law's own text; EvalAll: Eval and Test agree with the reference for every graph, expression and environment within the row's bound; and the chapter's examples hold. Conditions: each part's own, as it says. -/
import Derived.Test.YthieohigmpfknaaGreatDoorEA
import Derived.Test.YthieohigmpfknaaGreatDoorGC
import Derived.Test.YthieohigmpfknaaGreatDoorRows
import Derived.Test.YthieohigmpfknaaGreatDoorEB
import Derived.Test.YthieohigmpfknaaGreatDoorMC
import Derived.Test.YthieohigmpfknaaGreatDoorCards
set_option linter.unusedVariables false
set_option linter.unusedSimpArgs false
/- How large the values of expressions can get; what the bound on the reading gives. Conditions: see okE_of. -/
namespace Go.Proofs.YthieohigmpfknaaGreatDoor
open Go Go.Abs Go.Val Go.RowKit

/-! ## The reading's bulk and the engine's -/
theorem says_bulk {H : Type} {d : DataW H} {x : D} (h : Says d x) : bulkD x ≤ Rows.uptoBulk d := by
  induction h with
  | bool b => simp only [bulkD, Rows.uptoBulk]; omega
  | int k n => simp only [bulkD, Rows.uptoBulk]; omega
  | str s => simp only [bulkD, Rows.uptoBulk]; simp
  | nil => simp only [bulkD, bulkL, Rows.uptoBulk]; omega
  | sl es sp xs hl _ ih =>
    have key : ∀ (es : List (DataW H)) (xs : List D), es.length = xs.length → (∀ (i : Nat) e x, es[i]? = some e → xs[i]? = some x → bulkD x ≤ Rows.uptoBulk e) → bulkL xs ≤ Rows.uptoBulkAll es := by
      intro es
      induction es with
      | nil => intro xs hl _; cases xs with
        | nil => simp only [bulkL, Rows.uptoBulkAll]; omega
        | cons _ _ => simp at hl
      | cons e r ihr => intro xs hl hi; cases xs with
        | nil => simp at hl
        | cons y q =>
          have h1 := hi 0 e y rfl rfl
          have h2 := ihr q (by simpa using hl) fun i e x he hx => hi (i + 1) e x (by simpa using he) (by simpa using hx)
          simp only [bulkL, Rows.uptoBulkAll]
          omega
    have := key es xs hl ih
    simp only [bulkD, Rows.uptoBulk]
    omega
  | agg ds parts hl _ ih =>
    have key : ∀ (es : List (DataW H)) (xs : List D), es.length = xs.length → (∀ (i : Nat) e x, es[i]? = some e → xs[i]? = some x → bulkD x ≤ Rows.uptoBulk e) → bulkL xs ≤ Rows.uptoBulkAll es := by
      intro es
      induction es with
      | nil => intro xs hl _; cases xs with
        | nil => simp only [bulkL, Rows.uptoBulkAll]; omega
        | cons _ _ => simp at hl
      | cons e r ihr => intro xs hl hi; cases xs with
        | nil => simp at hl
        | cons y q =>
          have h1 := hi 0 e y rfl rfl
          have h2 := ihr q (by simpa using hl) fun i e x he hx => hi (i + 1) e x (by simpa using he) (by simpa using hx)
          simp only [bulkL, Rows.uptoBulkAll]
          omega
    have := key ds parts hl ih
    simp only [bulkD, bulk_parts, Rows.uptoBulk]
    omega
theorem says_all {H : Type} : ∀ (ds : List (DataW H)) (xs : List D), ds.length = xs.length → (∀ (i : Nat) d x, ds[i]? = some d → xs[i]? = some x → Says d x) → bulkL xs ≤ Rows.uptoBulkAll ds
  | [], [], _, _ => by simp only [bulkL, Rows.uptoBulkAll]; omega
  | d :: r, x :: q, hl, h => by
    have h1 := says_bulk (h 0 d x rfl rfl)
    have h2 := says_all r q (by simpa using hl) fun i d x hd hx => h (i + 1) d x (by simpa using hd) (by simpa using hx)
    simp only [bulkL, Rows.uptoBulkAll]
    omega
/-! ## Values -/
theorem bulk_enc (v : V) : bulkD (enc v) = 5 + v.s.size + bulkL (kids v) := by
  simp only [enc, bulkD, bulkL]
  omega
theorem cost_bulk (v : V) : 5 * cost v ≤ bulkD (enc v) := by
  refine vind (P := fun v => 5 * cost v ≤ bulkD (enc v)) (fun k n d s l ih => ?_) v
  rw [bulk_enc, cost_eq]
  have key : ∀ l : List V, (∀ x ∈ l, 5 * cost x ≤ bulkD (enc x)) → 5 * costL l ≤ bulkL (encL l) := by
    intro l
    induction l with
    | nil => intro _; simp [costL]
    | cons a r ihr =>
      intro h
      have h1 := h a (by simp)
      have h2 := ihr fun x hx => h x (by simp [hx])
      simp only [costL, encL]
      rw [bulkL]
      have e : bulkD (.agg [.int a.k, .int a.n, .int a.d, .str a.s, .sl (kids a)]) = bulkD (enc a) := rfl
      omega
  have := key l ih
  show 5 * (1 + s.size / 50 + costL l) ≤ 5 + s.size + bulkL (encL l)
  omega
theorem map_bulk {α : Type} {f : α → D} {l : List α} {x : α} (h : x ∈ l) : bulkD (f x) ≤ bulkL (l.map f) := bulkL_mem (List.mem_map_of_mem h)
theorem len_bulk : ∀ (l : List D), (∀ x ∈ l, 1 ≤ bulkD x) → l.length ≤ bulkL l
  | [], _ => by simp
  | a :: r, h => by
    have h1 := h a (by simp)
    have h2 := len_bulk r fun x hx => h x (by simp [hx])
    rw [bulkL, List.length_cons]
    omega
/-! ## Expressions -/
theorem bulk_encE (e : Ex) : bulkD (encE e) = 4 + bulkD (enc e.v) + e.nm.size + bulkL (kidsE e) := by
  rw [bulk_enc]
  simp only [encE, bulkD, bulkL]
  omega
theorem nd_bulk (e : Ex) : 9 * nd e ≤ bulkD (encE e) := by
  refine xind (P := fun e => 9 * nd e ≤ bulkD (encE e)) (fun op v nm ds ks ih => ?_) e
  rw [bulk_encE, bulk_enc, nd_eq]
  have key : ∀ l : List Ex, (∀ x ∈ l, 9 * nd x ≤ bulkD (encE x)) → 9 * ndL l ≤ bulkL (encEL l) := by
    intro l
    induction l with
    | nil => intro _; simp [ndL]
    | cons a r ihr =>
      intro h
      have h1 := h a (by simp)
      have h2 := ihr fun x hx => h x (by simp [hx])
      simp only [ndL, encEL]
      rw [bulkL]
      have e : bulkD (.agg [.int a.op, .int a.v.k, .int a.v.n, .int a.v.d, .str a.v.s, .sl (kids a.v), .str a.nm, .bool a.ds, .sl (kidsE a)]) = bulkD (encE a) := rfl
      omega
  have := key ks ih
  show 9 * (ndL ks + 1) ≤ 4 + (5 + v.s.size + bulkL (kids v)) + nm.size + bulkL (encEL ks)
  omega
theorem dp_nd (e : Ex) : dp e ≤ nd e := by
  refine xind (P := fun e => dp e ≤ nd e) (fun op v nm ds ks ih => ?_) e
  rw [dp_eq, nd_eq]
  show dpL ks + 1 ≤ ndL ks + 1
  have key : ∀ l : List Ex, (∀ x ∈ l, dp x ≤ nd x) → dpL l ≤ ndL l := by
    intro l
    induction l with
    | nil => intro _; simp [dpL]
    | cons a r ihr =>
      intro h
      have h1 := h a (by simp)
      have h2 := ihr fun x hx => h x (by simp [hx])
      simp only [dpL, ndL]
      omega
  have := key ks ih
  omega
theorem nd_pos (e : Ex) : 1 ≤ nd e := by rw [nd_eq]; omega
mutual
/-- Every constant in an expression costs at most so much. -/
def cE (C : Nat) : Ex → Prop
  | .mk _ v _ _ ks => cost v ≤ C ∧ cEL C ks
def cEL (C : Nat) : List Ex → Prop
  | [] => True
  | x :: r => cE C x ∧ cEL C r
end
theorem cE_bulk (e : Ex) : ∀ C, bulkD (encE e) ≤ C → cE C e := by
  refine xind (P := fun e => ∀ C, bulkD (encE e) ≤ C → cE C e) (fun op v nm ds ks ih C h => ?_) e
  rw [bulk_encE] at h
  have hv := cost_bulk v
  simp only [cE]
  refine ⟨by have : 5 * cost v ≤ bulkD (enc v) := hv
             have h' : 4 + bulkD (enc v) + nm.size + bulkL (encEL ks) ≤ C := h
             omega, ?_⟩
  have h2 : bulkL (encEL ks) ≤ C := by
    have h' : 4 + bulkD (enc v) + nm.size + bulkL (encEL ks) ≤ C := h
    omega
  have key : ∀ l : List Ex, (∀ x ∈ l, ∀ C, bulkD (encE x) ≤ C → cE C x) → bulkL (encEL l) ≤ C → cEL C l := by
    intro l
    induction l with
    | nil => intro _ _; simp only [cEL]
    | cons a r ihr =>
      intro hx hb
      simp only [encEL] at hb
      rw [bulkL] at hb
      have e : bulkD (.agg [.int a.op, .int a.v.k, .int a.v.n, .int a.v.d, .str a.v.s, .sl (kids a.v), .str a.nm, .bool a.ds, .sl (kidsE a)]) = bulkD (encE a) := rfl
      simp only [cEL]
      exact ⟨hx a (by simp) C (by omega), ihr (fun x h => hx x (by simp [h])) (by omega)⟩
  exact key ks ih h2
theorem cEL_mem {C : Nat} : ∀ {l : List Ex}, cEL C l → ∀ x ∈ l, cE C x
  | a :: r, h, x, hx => by
    simp only [cEL] at h
    rcases List.mem_cons.1 hx with rfl | hx
    · exact h.1
    · exact cEL_mem h.2 x hx
/-! ## What valid values cost -/
theorem s0_size {s : ByteArray} (h : s0 s = true) : s.size = 0 := by
  unfold s0 at h
  have h1 : s.toList = (⟨#[]⟩ : ByteArray).toList := beq_iff_eq.1 h
  rw [ByteArray.toList_eq, ByteArray.toList_eq] at h1
  have h2 := congrArg List.length h1
  rw [Array.length_toList] at h2
  exact h2
theorem flat_s {v : V} (h : okFlat v = true) : v.s.size ≤ 100 ∧ v.l = [] := by
  have l0 : v.l.length = 0 → v.l = [] := List.eq_nil_of_length_eq_zero
  unfold okFlat at h
  simp only [Bool.or_eq_true, Bool.and_eq_true, beq_iff_eq] at h
  rcases h with ((((h | h) | h) | h) | h) | h
  · exact ⟨by have := s0_size h.1.2.1.2; omega, l0 h.1.2.2⟩
  · exact ⟨by have := s0_size h.1.2.1.2; omega, l0 h.1.2.2⟩
  · exact ⟨by have := s0_size h.1.2.1.2; omega, l0 h.1.2.2⟩
  · exact ⟨by have := s0_size h.1.2.1; omega, l0 h.1.2.2⟩
  · refine ⟨?_, l0 h.1.2.2⟩
    have h5 := h.2.2
    unfold strOK at h5
    rw [Bool.and_eq_true] at h5
    exact of_decide_eq_true h5.2
  · exact ⟨by have := s0_size h.1.2.1.2; omega, l0 h.1.2.2⟩
theorem okN_s : ∀ (m : Nat) (v : V), okN m v = true → v.s.size ≤ 100 := by
  intro m v h
  cases m with
  | zero =>
    simp only [okN, Bool.or_eq_true, Bool.and_eq_true] at h
    rcases h with h | h
    · exact (flat_s h).1
    · have := s0_size h.1.2.2; omega
  | succ m =>
    simp only [okN, Bool.or_eq_true, Bool.and_eq_true] at h
    rcases h with (h | h) | h
    · exact (flat_s h).1
    · have := s0_size h.1.2.2; omega
    · have := s0_size h.1.2.2; omega
/-- What a value costs once it is checked. -/
def sm (B : Nat) (w : V) : Prop := cost (giv w) ≤ B
theorem cost_null : cost vNull = 1 := by decide +kernel
theorem sm_if {B : Nat} {b : Bool} {x y : V} (hx : sm B x) (hy : sm B y) : sm B (bif b then x else y) := by cases b; exact hy; exact hx
theorem sm_of {B : Nat} {w : V} (h1 : 1 ≤ B) (h : cost w ≤ B) : sm B w := by
  unfold sm giv
  cases Val.okV w with
  | true => exact h
  | false => rw [cond_false, cost_null]; exact h1
theorem sm_flat {B : Nat} {w : V} (h3 : 3 ≤ B) (h : w.l = []) : sm B w := by
  unfold sm giv
  cases hv : Val.okV w with
  | true =>
    have := okN_s 8 w hv
    rw [cond_true, cost_eq, h]
    simp only [costL]
    omega
  | false => rw [cond_false, cost_null]; omega
theorem sm_rat {B : Nat} {n d : Int} (h3 : 3 ≤ B) : sm B (vRat n d) := by
  refine sm_flat h3 ?_
  unfold vRat
  cases d == 1 <;> rfl
theorem costL_app : ∀ (a b : List V), costL (a ++ b) = costL a + costL b
  | [], b => by simp [costL]
  | x :: r, b => by simp only [List.cons_append, costL, costL_app r b]; omega
theorem costL_drop (l : List V) (n : Nat) : costL (l.drop n) ≤ costL l := by
  have h := costL_app (l.take n) (l.drop n)
  rw [List.take_append_drop] at h
  omega
theorem costL_evens : ∀ l : List V, costL (evens l) ≤ costL l
  | [] => Nat.le_refl _
  | [_] => Nat.le_refl _
  | x :: y :: r => by have := costL_evens r; simp only [evens, costL]; omega
theorem labels_cost : ∀ l : List ByteArray, ((l.map vStr).all (okN 7)) = true → costL (l.map vStr) ≤ 3 * l.length := by
  intro l
  induction l with
  | nil => intro _; simp [costL]
  | cons s r ih =>
    intro h
    rw [List.map_cons, List.all_cons, Bool.and_eq_true] at h
    have h1 := okN_s 7 _ h.1
    have h2 := ih h.2
    have h4 : cost (vStr s) = 1 + s.size / 50 + 0 := by rw [cost_eq]; rfl
    have h5 : s.size ≤ 100 := h1
    rw [List.map_cons, costL, h4, List.length_cons]
    omega
theorem ok_vList {l : List V} (h : Val.okV (vList l) = true) : l.length ≤ 64 ∧ l.all (okN 7) = true := by
  have h' : okN 8 (.mk 8 0 0 ⟨#[]⟩ l) = true := h
  rw [okN_8] at h'
  simp only [Bool.and_eq_true, decide_eq_true_eq] at h'
  exact ⟨h'.2.1.2, h'.2.2⟩
theorem sm_labels {B : Nat} (hB : 300 ≤ B) (l : List ByteArray) : sm B (vList (l.map vStr)) := by
  unfold sm giv
  cases hv : Val.okV (vList (l.map vStr)) with
  | false => rw [cond_false, cost_null]; omega
  | true =>
    rw [cond_true, cost_eq]
    obtain ⟨h2, h3⟩ := ok_vList hv
    have h9 := labels_cost l h3
    rw [List.length_map] at h2
    have e1 : (vList (l.map vStr)).s.size = 0 := rfl
    have e2 : (vList (l.map vStr)).l = l.map vStr := rfl
    rw [e1, e2]
    omega
/-! ## What an evaluation gives costs no more than what went in -/
structure Bnd (C : Nat) (g : Gr) (env : List Bd) : Prop where
  hC : 300 ≤ C
  env : ∀ b ∈ env, cost b.v ≤ C
  nod : ∀ n ∈ g.nodes, ∀ p ∈ n.props, cost p.v ≤ C
  edg : ∀ e ∈ g.edges, ∀ p ∈ e.props, cost p.v ≤ C
theorem find_cost {C : Nat} (h1 : 1 ≤ C) {l : List Pr} (h : ∀ p ∈ l, cost p.v ≤ C) (key : ByteArray) : cost (findP l key) ≤ C := by
  unfold findP
  cases hf : l.find? fun p => p.key.toList == key.toList with
  | none => show cost vNull ≤ C; rw [cost_null]; exact h1
  | some p => exact h p (List.mem_of_find?_eq_some hf)
theorem prop_cost {C : Nat} {g : Gr} {env : List Bd} (h : Bnd C g env) (a : V) (key : ByteArray) : cost (propF g a key) ≤ C := by
  have hC := h.hC
  unfold propF
  cases hb : nodB g a with
  | true =>
    rw [cond_true]
    refine find_cost (by omega) ?_ key
    unfold nodF
    cases a.k == 5 with
    | false => intro p hp; simp [nd0] at hp
    | true =>
      rw [cond_true]
      cases hf : findN g.nodes a.n with
      | none => intro p hp; simp [nd0] at hp
      | some n => exact h.nod n (List.mem_of_find?_eq_some hf)
  | false =>
    rw [cond_false]
    cases hb2 : edgB g a with
    | true =>
      rw [cond_true]
      refine find_cost (by omega) ?_ key
      unfold edgF
      cases a.k == 6 with
      | false => intro p hp; simp [ed0] at hp
      | true =>
        rw [cond_true]
        cases hf : findE g.edges a.n with
        | none => intro p hp; simp [ed0] at hp
        | some n => exact h.edg n (List.mem_of_find?_eq_some hf)
    | false => rw [cond_false, cost_null]; omega
theorem sm_ratF {B : Nat} {b : Bool} {n d : Int} (h3 : 3 ≤ B) : sm B (ratF b n d) := sm_if (sm_rat h3) (sm_flat h3 rfl)
theorem sm_truth {B : Nat} {t : Int} (h3 : 3 ≤ B) : sm B (vTruth t) := by
  refine sm_flat h3 ?_
  unfold vTruth
  cases kn t == 1 <;> rfl
theorem sm_ar {B : Nat} (op : Int) (a b : V) (h3 : 3 ≤ B) : sm B (arF op a b) := by
  have nl : sm B vNull := sm_flat h3 rfl
  unfold arF
  exact sm_if (sm_flat h3 rfl) (sm_if nl (sm_if (sm_ratF h3) (sm_if (sm_ratF h3) (sm_if (sm_ratF h3) (sm_if (sm_ratF h3) (sm_if (sm_flat h3 rfl) nl))))))
theorem a0_cost (l : List V) : cost (a0 l) ≤ 1 + costL l := by
  cases l with
  | nil => show cost vNull ≤ _; rw [cost_null]; omega
  | cons a r => show cost a ≤ _; simp only [costL]; omega
theorem a0_costL (l : List V) : costL (a0 l).l ≤ costL l := by
  cases l with
  | nil => show costL vNull.l ≤ _; decide +kernel
  | cons a r =>
    have := cost_eq a
    show costL a.l ≤ costL (a :: r)
    simp only [costL]
    omega
theorem getLast_mem {l : List V} (h : l ≠ []) : l.getLastD vNull ∈ l := by
  cases l with
  | nil => exact absurd rfl h
  | cons a r => rw [List.getLastD_cons]; exact List.getLastD_mem_cons ..
theorem sm_part {B : Nat} (nm : ByteArray) (a : V) (hB : 3 ≤ B) (h : 1 + costL a.l ≤ B) : sm B (pthF nm a.l) := by
  unfold pthF
  refine sm_if (sm_flat hB rfl) (sm_of (by omega) ?_)
  have h1 := costL_drop a.l (bif eqS nm nmEdges then 1 else 0)
  have h2 := costL_evens (a.l.drop (bif eqS nm nmEdges then 1 else 0))
  rw [cost_eq]
  show 1 + (⟨#[]⟩ : ByteArray).size / 50 + costL (evens (a.l.drop (bif eqS nm nmEdges then 1 else 0))) ≤ B
  have : (⟨#[]⟩ : ByteArray).size = 0 := rfl
  omega
theorem sm_fn {B : Nat} (g : Gr) (nm : ByteArray) (l : List V) (hB : 300 ≤ B) (h : 1 + costL l ≤ B) : sm B (fnF g nm l) := by
  have h3 : 3 ≤ B := by omega
  have hl := a0_costL l
  have nl : sm B vNull := sm_flat h3 rfl
  have hi : ∀ n, sm B (vInt n) := fun n => sm_flat h3 rfl
  have hst : ∀ s, sm B (vStr s) := fun s => sm_flat h3 rfl
  have hn : ∀ n, sm B (vNode n) := fun n => sm_flat h3 rfl
  have p1 : sm B (firstNN l) := by
    unfold firstNN
    cases hf : l.find? fun v => v.k != 0 with
    | none => exact nl
    | some v => exact sm_of (by omega) (by have := costL_mem (List.mem_of_find?_eq_some hf); show cost v ≤ B; omega)
  have p3 : sm B (absV (a0 l)) := sm_if (sm_rat h3) nl
  have p5 : sm B (ofE nm (edgF g (a0 l))) := sm_if (hst _) (sm_if (hn _) (hn _))
  have p7 : sm B (szF (a0 l)) := sm_if (hi _) (sm_if (hi _) nl)
  have p9 : sm B ((a0 l).l.headD vNull) := by
    refine sm_of (by omega) ?_
    cases hh : (a0 l).l with
    | nil => show cost vNull ≤ B; rw [cost_null]; omega
    | cons b q =>
      have : cost b ≤ costL (a0 l).l := costL_mem (by rw [hh]; simp)
      show cost b ≤ B
      omega
  have p10 : sm B ((a0 l).l.getLastD vNull) := by
    refine sm_of (by omega) ?_
    by_cases hh : (a0 l).l = []
    · rw [hh]; show cost vNull ≤ B; rw [cost_null]; omega
    · have := costL_mem (getLast_mem hh); omega
  unfold fnF
  exact sm_if p1 (sm_if (sm_if (hi _) nl) (sm_if p3 (sm_if (sm_if (hst _) nl) (sm_if (sm_if p5 nl) (sm_if (sm_if (sm_labels hB _) nl) (sm_if p7 (sm_if (sm_if (sm_part nm (a0 l) h3 (by omega)) nl) (sm_if (sm_if (sm_if p9 p10) nl) nl))))))))
theorem sm_ap {C B : Nat} {g : Gr} {env : List Bd} (hb : Bnd C g env) (op : Int) (v : V) (nm : ByteArray) (l : List V) (hv : cost v ≤ C) (hC : C ≤ B) (hl : 1 + costL l ≤ B) : sm B (apF g env op v nm l) := by
  have h300 := hb.hC
  have h3 : 3 ≤ B := by omega
  have nl : sm B vNull := sm_flat h3 rfl
  have hbo : ∀ b, sm B (vBool b) := fun b => sm_flat h3 rfl
  have pv : sm B (varF env nm) := by
    refine sm_of (by omega) ?_
    unfold varF
    cases hf : env.find? fun b => b.name.toList == nm.toList with
    | none => show cost vNull ≤ B; rw [cost_null]; omega
    | some b => have := hb.env b (List.mem_of_find?_eq_some hf); show cost b.v ≤ B; omega
  have pp : sm B (propF g (a0 l) nm) := sm_of (by omega) (by have := prop_cost hb (a0 l) nm; omega)
  have pl : sm B (vList l) := by
    refine sm_of (by omega) ?_
    rw [cost_eq]
    have e1 : (vList l).s.size = 0 := rfl
    have e2 : (vList l).l = l := rfl
    rw [e1, e2]
    omega
  unfold apF
  exact sm_if (sm_of (by omega) (by omega)) (sm_if pv (sm_if pp (sm_if (sm_if (hbo _) nl) (sm_if (sm_truth h3) (sm_if (sm_truth h3) (sm_if (sm_truth h3) (sm_if (sm_if (sm_rat h3) nl) (sm_if (sm_ar _ _ _ h3) (sm_if (hbo _) (sm_if pl (sm_if (sm_fn g nm l (by omega) hl) (sm_if nl (sm_truth h3)))))))))))))
theorem ev_cost {C : Nat} {g : Gr} {env : List Bd} (hb : Bnd C g env) (e : Ex) : cE C e → cost (evF g env e) ≤ nd e * C := by
  refine xind (P := fun e => cE C e → cost (evF g env e) ≤ nd e * C) (fun op v nm ds ks ih hc => ?_) e
  simp only [cE] at hc
  have h300 := hb.hC
  have key : ∀ l : List Ex, (∀ x ∈ l, cE C x → cost (evF g env x) ≤ nd x * C) → cEL C l → costL (evL g env l) ≤ ndL l * C := by
    intro l
    induction l with
    | nil => intro _ _; simp [evL, costL]
    | cons a r ihr =>
      intro hx h
      simp only [cEL] at h
      have h1 := hx a (by simp) h.1
      have h2 := ihr (fun x hm => hx x (by simp [hm])) h.2
      simp only [evL, costL, ndL, Nat.add_mul]
      omega
  have h1 := key ks ih hc.2
  rw [nd_eq]
  show cost (evF g env (.mk op v nm ds ks)) ≤ (ndL ks + 1) * C
  simp only [evF]
  refine sm_ap (B := (ndL ks + 1) * C) hb op v nm (evL g env ks) hc.1 ?_ ?_
  · rw [Nat.add_mul]; omega
  · rw [Nat.add_mul]; omega
/-! ## What the check gives -/
theorem visM_zero {w : Bool} : ∀ {l : List Ex}, visM l w = 0 → ∀ x ∈ l, visF x w = 0
  | a :: r, h, x, hx => by
    rw [visM] at h
    cases hc : visF a w != 0 with
    | true => rw [hc, cond_true] at h; rw [h] at hc; cases hc
    | false =>
      rw [hc, cond_false] at h
      rcases List.mem_cons.1 hx with rfl | hx
      · simpa using hc
      · exact visM_zero h x hx
theorem vis_self {e : Ex} {w : Bool} (h : visF e w = 0) : selfF e w = 0 := by
  cases hc : selfF e w != 0 with
  | true => have := visF_bad rfl hc; rw [h] at this; rw [this] at hc; cases hc
  | false => simpa using hc
theorem self_shp {e : Ex} {w : Bool} (h : selfF e w = 0) : shp e.op e.ks.length := by
  have hk : kn0 e = (e.ks.length : Int) := by unfold kn0; rw [kidsE_len]
  unfold selfF at h
  cases c1 : (decide (e.op < 1) || decide (e.op > 24)) || (!opdF e || !spareF e) with
  | true => rw [c1] at h; simp at h
  | false =>
    rw [c1, cond_false] at h
    simp only [Bool.or_eq_false_iff, decide_eq_false_iff_not, Bool.not_eq_false'] at c1
    obtain ⟨⟨o1, o2⟩, hop, -⟩ := c1
    cases c2 : (e.op == 1 && !constF e.v) with
    | true => rw [c2] at h; simp at h
    | false =>
      rw [c2, cond_false] at h
      cases c3 : nlF e with
      | true => rw [c3] at h; simp at h
      | false =>
        unfold opdF at hop
        rw [hk] at hop
        refine ⟨⟨by omega, by omega⟩, fun ho => ?_, fun ho => ?_, fun ho => ?_⟩
        · rcases ho with ho | ho | ho | ho | ho <;> rw [ho] at hop <;> simp at hop <;> omega
        · have : e.op = 7 ∨ e.op = 8 ∨ e.op = 9 ∨ e.op = 10 ∨ e.op = 11 ∨ e.op = 12 ∨ e.op = 13 ∨ e.op = 14 ∨ e.op = 15 ∨ e.op = 16 ∨ e.op = 17 ∨ e.op = 18 ∨ e.op = 19 ∨ e.op = 20 := by omega
          rcases this with ho | ho | ho | ho | ho | ho | ho | ho | ho | ho | ho | ho | ho | ho <;> rw [ho] at hop <;> simp at hop <;> omega
        · rw [ho] at hop
          unfold nlF at c3
          rw [ho] at c3
          simp at hop c3
          have hlo : ariLo e.nm = 1 ∨ ariLo e.nm = 2 ∨ ariLo e.nm = 0 := by
            unfold ariLo
            cases fun1 e.nm <;> cases fun2 e.nm <;> simp
          rcases hop with hop | hop
          · exact absurd hop c3
          · omega
theorem okE_of {C : Nat} {g : Gr} {env : List Bd} (hb : Bnd C g env) (hC : C ≤ 1048576) (e : Ex) : ∀ w, visF e w = 0 → nd e ≤ 1000 → cE C e → okE g env e := by
  refine xind (P := fun e => ∀ w, visF e w = 0 → nd e ≤ 1000 → cE C e → okE g env e) (fun op v nm ds ks ih w hv hn hc => ?_) e
  have hs := vis_self hv
  have hsh := self_shp hs
  have hk := visF_ok hs
  rw [hv] at hk
  have hz := visM_zero hk.symm
  rw [nd_eq] at hn
  have hn' : ndL ks + 1 ≤ 1000 := hn
  have hkc : cEL C ks := by simp only [cE] at hc; exact hc.2
  have hlen : ks.length ≤ ndL ks := by
    have : ∀ l : List Ex, l.length ≤ ndL l := by
      intro l
      induction l with
      | nil => simp
      | cons a r ihr => have := nd_pos a; simp only [List.length_cons, ndL]; omega
    exact this ks
  simp only [okE]
  refine ⟨hsh, by omega, fun _ _ => ?_, ?_⟩
  · have h1 : cost (a0 (evL g env ks)) ≤ 1 + ndL ks * C := by
      have h2 := a0_cost (evL g env ks)
      have key : ∀ l : List Ex, cEL C l → costL (evL g env l) ≤ ndL l * C := by
        intro l
        induction l with
        | nil => intro _; simp [evL, costL]
        | cons a r ihr =>
          intro h
          simp only [cEL] at h
          have h1 := ev_cost hb a h.1
          have h2 := ihr h.2
          simp only [evL, costL, ndL, Nat.add_mul]
          omega
      have := key ks hkc
      omega
    have h2 := txt_len (a0 (evL g env ks))
    have h3 : ndL ks * C ≤ 1000 * 1048576 := Nat.mul_le_mul (by omega) hC
    omega
  · have key : ∀ l : List Ex, (∀ x ∈ l, x ∈ ks) → ndL l ≤ 999 → okEL g env l := by
      intro l
      induction l with
      | nil => intro _ _; simp only [okEL]
      | cons a r ihr =>
        intro hm hnl
        simp only [ndL] at hnl
        simp only [okEL]
        exact ⟨ih a (hm a (by simp)) _ (hz a (hm a (by simp))) (by omega) (cEL_mem hkc a (hm a (by simp))), ihr (fun x hx => hm x (by simp [hx])) (by omega)⟩
    exact key ks (fun _ h => h) (by omega)
end Go.Proofs.YthieohigmpfknaaGreatDoor

/- The law's own small functions: Size, few, op, number; and when an evaluation is within bounds. Conditions: each contract's own. -/
namespace Go.Proofs.YthieohigmpfknaaGreatDoor
open Go Go.Abs Go.Val Go.RowKit
attribute [local irreducible] go SGo HasBody Ev ExtEv EvO EvS binOp RGo

def numE (n : Int) : Ex := .mk 1 (vInt n) ⟨#[]⟩ false []
def opE (k : Int) (a b : Ex) : Ex := .mk k vNull ⟨#[]⟩ false [a, b]
theorem number_ev (n : Int) : Ev E 30 [.int n] (.d (encE (numE n))) := by
  refine enter1 Tryz.func30 Tryz.ntmps30 rfl rfl fun w0 F0 O => ?_
  repeat' (first | refine zS rfl ?_ | refine qA ?_ | refine qB rfl ?_ | refine qD ?_ | refine qL rfl rfl ?_ | exact zD)
theorem op_ev (k : Int) (a b : Ex) : Ev E 20 [.int k, encE a, encE b] (.d (encE (opE k a b))) := by
  refine enter3 Tryz.func20 Tryz.ntmps20 rfl rfl fun w0 F0 O => ?_
  repeat' (first | refine zS rfl ?_ | refine qA ?_ | refine qB rfl ?_ | refine qD ?_ | refine qL rfl rfl ?_ | exact zD)
mutual
def szE : Ex → Int
  | .mk _ _ _ _ ks => szL ks 1
def szL : List Ex → Int → Int
  | [], n => n
  | x :: r, n => bif decide (n ≤ 1000) then szL r (n + szE x) else n
end
theorem szL_le : ∀ (l : List Ex), (∀ x ∈ l, 1 ≤ szE x ∧ szE x ≤ nd x) → ∀ n, n ≤ szL l n ∧ szL l n ≤ n + ndL l
  | [], _, n => by simp [szL, ndL]
  | x :: r, h, n => by
    have h1 := h x (by simp)
    have h2 := szL_le r (fun y hy => h y (by simp [hy])) (n + szE x)
    rw [szL, ndL]
    cases decide (n ≤ 1000) with
    | true => rw [cond_true]; omega
    | false => rw [cond_false]; omega
theorem szE_le (e : Ex) : 1 ≤ szE e ∧ szE e ≤ nd e := by
  refine xind (P := fun e => 1 ≤ szE e ∧ szE e ≤ nd e) (fun op v nm ds ks ih => ?_) e
  have := szL_le ks ih 1
  rw [szE, nd_eq]
  show _ ∧ szL ks 1 ≤ ((ndL ks + 1 : Nat) : Int)
  omega
theorem szL_eq : ∀ (l : List Ex), (∀ x ∈ l, szE x ≤ 1000 → szE x = nd x) → ∀ n, 0 ≤ n → szL l n ≤ 1000 → szL l n = n + ndL l
  | [], _, n, _, _ => by simp [szL, ndL]
  | x :: r, h, n, hn, hle => by
    have h0 := szE_le x
    rw [szL] at hle ⊢
    rw [ndL]
    cases hd : decide (n ≤ 1000) with
    | true =>
      rw [hd, cond_true] at hle
      rw [cond_true]
      have h2 := (szL_le r (fun y _ => szE_le y) (n + szE x)).1
      have h1 := h x (by simp) (by omega)
      rw [szL_eq r (fun y hy => h y (by simp [hy])) (n + szE x) (by omega) hle]
      omega
    | false =>
      rw [hd, cond_false] at hle
      have := of_decide_eq_false hd
      omega
theorem szE_eq (e : Ex) : szE e ≤ 1000 → szE e = nd e := by
  refine xind (P := fun e => szE e ≤ 1000 → szE e = nd e) (fun op v nm ds ks ih h => ?_) e
  rw [szE] at h ⊢
  rw [szL_eq ks ih 1 (by omega) h, nd_eq]
  show _ = ((ndL ks + 1 : Nat) : Int)
  omega
structure SSz (l : List Ex) (m : Int) where
  i : Nat
  n : Int
  hi : i ≤ l.length
  h1 : 1 ≤ n
  h2 : n + ndL (l.drop i) ≤ m
  ok : szL l 1 = szL (l.drop i) n
theorem szL_at {l : List Ex} {i : Nat} {x : Ex} {n : Int} (h : l[i]? = some x) : szL (l.drop i) n = bif decide (n ≤ 1000) then szL (l.drop (i + 1)) (n + szE x) else n := by
  rw [drop_at h, szL]
theorem size_evE (e : Ex) : nd e ≤ 2000000 → Ev E 19 [encE e] (.d (.int (szE e))) := by
  refine xind (P := fun e => nd e ≤ 2000000 → Ev E 19 [encE e] (.d (.int (szE e)))) (fun op v nm ds ks ih hn => ?_) e
  have hlen : (kidsE (.mk op v nm ds ks)).length = ks.length := kidsE_len _
  have hkg : ∀ (i : Nat) (x : Ex), ks[i]? = some x → (kidsE (.mk op v nm ds ks))[(i : Int).toNat]? = some (encE x) := fun i x h => kidsE_get (e := .mk op v nm ds ks) (by rw [Int.toNat_natCast]; exact h)
  rw [nd_eq] at hn
  have hn' : ndL ks + 1 ≤ 2000000 := hn
  have hkl : ks.length ≤ ndL ks := by
    have : ∀ l : List Ex, l.length ≤ ndL l := by
      intro l
      induction l with
      | nil => simp
      | cons a r ihr => have := nd_pos a; simp only [List.length_cons, ndL]; omega
    exact this ks
  rw [szE]
  generalize Ex.mk op v nm ds ks = e at *
  refine enter1 Tryz.func19 Tryz.ntmps19 rfl rfl fun w0 F0 O => ?_
  repeat' (first | refine zS rfl ?_ | refine qA ?_ | refine qB rfl ?_ | refine qD ?_ | refine qF ?_)
  refine go_loop_ (α := SSz ks (1 + ndL ks)) (fun p => ⟨[(1, .ptr 0 0), (3, .d (.int p.n)), (4, .d (.int p.i))], [.var 31 (.w (.d (encE e)))]⟩) (fun p => ks.length - p.i) ⟨0, 1, by omega, by omega, by rw [List.drop_zero]; omega, rfl⟩ ((zle 1)) ?_
  rintro ⟨i, n, hi, h1, h2, ok⟩
  dsimp only
  rcases Nat.lt_or_ge i ks.length with hlt | hge
  · have g1 : decide ((i : Int) < ((kidsE e).length : Int)) = true := by rw [hlen]; simpa using hlt
    have hx0 := List.getElem?_eq_getElem hlt
    generalize ks[i] = x at hx0
    have hx := hkg i x hx0
    have hnd : ndL (ks.drop i) = nd x + ndL (ks.drop (i + 1)) := ndL_drop hx0
    have hcx := ih x (List.mem_of_getElem? hx0) (by omega)
    have hs := szE_le x
    rw [szL_at hx0] at ok
    cases hd : decide (n ≤ 1000) with
    | true =>
      rw [hd, cond_true] at ok
      repeat' (first | refine zS rfl ?_ | refine qA ?_ | refine qB rfl ?_ | refine qD ?_ | refine qE ?_ | refine qF ?_ | refine qG ?_ | refine qI (encE x) rfl (guardX_ok rfl) rfl rfl rfl rfl rfl rfl (by first | omega | decide) hx ?_ | refine qP rfl rfl rfl rfl rfl rfl b19 (hcx) ?_ | refine zT rfl ?_ | refine zX rfl rfl rfl rfl ?_)
      refine go_stop ?_
      exact ⟨⟨i + 1, n + szE x, by omega, by omega, by omega, ok⟩, by dsimp only; omega, (zle 1)⟩
    | false =>
      rw [hd, cond_false] at ok
      rw [ok]
      repeat' (first | refine zS rfl ?_ | refine qA ?_ | refine qB rfl ?_ | refine qD ?_ | refine qH rfl ?_ | refine zU rfl ?_ | refine qL rfl rfl ?_ | refine zX rfl rfl rfl rfl ?_ | exact zD)
  · have g1 : decide ((i : Int) < ((kidsE e).length : Int)) = false := by rw [hlen]; simp; omega
    rw [List.drop_eq_nil_of_le hge, szL] at ok
    rw [ok]
    repeat' (first | refine zS rfl ?_ | refine qA ?_ | refine qB rfl ?_ | refine qD ?_ | refine qH rfl ?_ | refine zU rfl ?_ | refine qL rfl rfl ?_ | refine zW rfl rfl rfl rfl ?_ | exact zD)
def fewF (g : Gr) (e : Ex) (env : List Bd) : Bool := decide (g.nodes.length ≤ 100) && (decide (g.edges.length ≤ 100) && (decide (env.length ≤ 60) && decide (szE e ≤ 400)))
theorem few_ev (g : Gr) (e : Ex) (env : List Bd) (hn : nd e ≤ 2000000) : Ev E 9 [encGr g, encE e, .sl (env.map encBd)] (.d (.bool (fewF g e env))) := by
  have hs := size_evE e hn
  have e1 : decide ((((g.nodes.map encNd).length : Nat) : Int) ≤ 100) = decide (g.nodes.length ≤ 100) := by rw [List.length_map, decide_eq_decide]; omega
  have e2 : decide ((((g.edges.map encEd).length : Nat) : Int) ≤ 100) = decide (g.edges.length ≤ 100) := by rw [List.length_map, decide_eq_decide]; omega
  have e3 : decide ((((env.map encBd).length : Nat) : Int) ≤ 60) = decide (env.length ≤ 60) := by rw [List.length_map, decide_eq_decide]; omega
  unfold fewF
  rw [← e1, ← e2, ← e3]
  cases c1 : decide ((((g.nodes.map encNd).length : Nat) : Int) ≤ 100) <;> cases c2 : decide ((((g.edges.map encEd).length : Nat) : Int) ≤ 100) <;> cases c3 : decide ((((env.map encBd).length : Nat) : Int) ≤ 60)
  all_goals
    refine enter3 Tryz.func9 Tryz.ntmps9 rfl rfl fun w0 F0 O => ?_
    repeat' (first | refine zS rfl ?_ | refine qA ?_ | refine qB rfl ?_ | refine qD ?_ | refine qP rfl rfl rfl rfl rfl rfl b19 (hs) ?_ | refine qL rfl rfl ?_ | refine zX rfl rfl rfl rfl ?_ | refine zW rfl rfl rfl rfl ?_ | exact zD)
theorem few_inv {g : Gr} {e : Ex} {env : List Bd} (h : fewF g e env = true) : nd e ≤ 400 ∧ g.nodes.length ≤ 100 ∧ g.edges.length ≤ 100 ∧ env.length ≤ 60 := by
  unfold fewF at h
  simp only [Bool.and_eq_true, decide_eq_true_eq] at h
  have := szE_eq e (by omega)
  omega
/-! ## Within bounds -/
theorem bulk_bd (b : Bd) : bulkD (encBd b) = 1 + b.name.size + bulkD (enc b.v) := by
  rw [bulk_enc]
  simp only [encBd, bulkD, bulkL]
  omega
theorem bulk_pr (p : Pr) : bulkD (encPr p) = 1 + p.key.size + bulkD (enc p.v) := by
  rw [bulk_enc]
  simp only [encPr, bulkD, bulkL]
  omega
theorem bulk_nd (n : Nd) : bulkD (encNd n) = 3 + bulkL (n.labels.map .str) + bulkL (n.props.map encPr) := by
  simp only [encNd, bulkD, bulkL]
  omega
theorem bulk_ed (e : Ed) : bulkD (encEd e) = 5 + e.ty.size + bulkL (e.props.map encPr) := by
  simp only [encEd, bulkD, bulkL]
  omega
theorem bulk_gr (g : Gr) : bulkD (encGr g) = 4 + bulkL (g.nodes.map encNd) + bulkL (g.edges.map encEd) := by
  simp only [encGr, bulkD, bulkL]
  omega
theorem map_len {α : Type} {f : α → D} (l : List α) (h : ∀ x, 1 ≤ bulkD (f x)) : l.length ≤ bulkL (l.map f) := by
  have := len_bulk (l.map f) fun x hx => by obtain ⟨y, -, rfl⟩ := List.mem_map.1 hx; exact h y
  rwa [List.length_map] at this
theorem prs_nar {l : List Pr} {B : Nat} (hB : B ≤ 1048576) (h : bulkL (l.map encPr) ≤ B) : narP l ∧ ∀ p ∈ l, cost p.v ≤ B := by
  have h1 := map_len (f := encPr) l fun p => by rw [bulk_pr]; omega
  have h2 : ∀ p ∈ l, 5 * cost p.v ≤ B := fun p hp => by
    have h3 := map_bulk (f := encPr) hp
    have h4 := cost_bulk p.v
    rw [bulk_pr] at h3
    omega
  exact ⟨⟨by omega, fun p hp => nar_cost p.v (by have := h2 p hp; omega)⟩, fun p hp => by have := h2 p hp; omega⟩
theorem gr_nar {g : Gr} (h : bulkD (encGr g) ≤ 1048576) : narG g ∧ (∀ n ∈ g.nodes, ∀ p ∈ n.props, cost p.v ≤ 1048576) ∧ ∀ e ∈ g.edges, ∀ p ∈ e.props, cost p.v ≤ 1048576 := by
  rw [bulk_gr] at h
  have hn : ∀ n ∈ g.nodes, bulkD (encNd n) ≤ 1048576 := fun n hm => by have := map_bulk (f := encNd) hm; omega
  have he : ∀ e ∈ g.edges, bulkD (encEd e) ≤ 1048576 := fun n hm => by have := map_bulk (f := encEd) hm; omega
  have hnp : ∀ n ∈ g.nodes, bulkL (n.props.map encPr) ≤ 1048576 := fun n hm => by have := hn n hm; rw [bulk_nd] at this; omega
  have hep : ∀ e ∈ g.edges, bulkL (e.props.map encPr) ≤ 1048576 := fun n hm => by have := he n hm; rw [bulk_ed] at this; omega
  refine ⟨⟨fun n hm => ⟨?_, (prs_nar (Nat.le_refl _) (hnp n hm)).1⟩, fun e hm => (prs_nar (Nat.le_refl _) (hep e hm)).1⟩, fun n hm => (prs_nar (Nat.le_refl _) (hnp n hm)).2, fun e hm => (prs_nar (Nat.le_refl _) (hep e hm)).2⟩
  have h1 := map_len (f := D.str) n.labels fun s => by simp only [bulkD]; omega
  have h2 := hn n hm
  rw [bulk_nd] at h2
  omega
theorem env_bnd {env : List Bd} (h : bulkL (env.map encBd) ≤ 1048576) : env.length ≤ 1048576 ∧ ∀ b ∈ env, cost b.v ≤ 1048576 := by
  have h1 := map_len (f := encBd) env fun b => by rw [bulk_bd]; omega
  refine ⟨by omega, fun b hb => ?_⟩
  have h3 := map_bulk (f := encBd) hb
  have h4 := cost_bulk b.v
  rw [bulk_bd] at h3
  omega
theorem chk_vis {e : Ex} (h : chkF e = 0) : visF e false = 0 := by
  unfold chkF at h
  cases h1 : decide (dp e > 24) with
  | true => rw [h1] at h; simp at h
  | false =>
    rw [h1, cond_false] at h
    cases h2 : decide (nd e > 300) with
    | true => rw [h2] at h; simp at h
    | false => rw [h2, cond_false] at h; exact h
theorem evOK_of {g : Gr} {env : List Bd} {e : Ex} (h1 : bulkD (encGr g) ≤ 1048576) (h2 : env.length ≤ 2000000) (h3 : ∀ b ∈ env, cost b.v ≤ 1048576) (h4 : cE 1048576 e) (hn : nd e ≤ 1000) : EvOK g env e := by
  obtain ⟨g1, g2, g3⟩ := gr_nar h1
  have := dp_nd e
  exact ⟨g1, h2, by omega, by omega, fun hc => okE_of (C := 1048576) ⟨by omega, h3, g2, g3⟩ (Nat.le_refl _) e false (chk_vis hc) hn h4⟩
theorem evOK_bulk {g : Gr} {env : List Bd} {e : Ex} (h : bulkD (encGr g) + bulkD (encE e) + bulkL (env.map encBd) ≤ 1048576) (hn : nd e ≤ 1000) : EvOK g env e := by
  obtain ⟨e1, e2⟩ := env_bnd (env := env) (by omega)
  exact evOK_of (by omega) (by omega) e2 (cE_bulk e _ (by omega)) hn
end Go.Proofs.YthieohigmpfknaaGreatDoor

/- From rows' readings to graphs, expressions and bindings. Conditions: none. -/
namespace Go.Proofs.YthieohigmpfknaaGreatDoor
open Go Go.Abs Go.Val Go.RowKit Go.ChangeShapes Go.WideShapes

theorem ty_E : ∀ {t : TypeId} {x : D}, HasTy Tryz.prog t x → (t = 31 → ∃ v, x = encE v) ∧ (t = 29 → ∃ l, x = .sl (encEL l)) := by
  intro t x h
  induction h with
  | bool b h => exact ⟨fun e => (by subst e; rw [Tryz.underlying31] at h; cases h), fun e => (by subst e; rw [Tryz.underlying29] at h; cases h)⟩
  | int n h => exact ⟨fun e => (by subst e; rw [Tryz.underlying31] at h; cases h), fun e => (by subst e; rw [Tryz.underlying29] at h; cases h)⟩
  | str s h => exact ⟨fun e => (by subst e; rw [Tryz.underlying31] at h; cases h), fun e => (by subst e; rw [Tryz.underlying29] at h; cases h)⟩
  | arr ps h _ _ => exact ⟨fun e => (by subst e; rw [Tryz.underlying31] at h; cases h), fun e => (by subst e; rw [Tryz.underlying29] at h; cases h)⟩
  | sl xs h hx ih =>
    refine ⟨fun e => (by subst e; rw [Tryz.underlying31] at h; cases h), fun e => ?_⟩
    subst e
    rw [Tryz.underlying29] at h
    cases h
    have : ∀ ys : List D, (∀ y ∈ ys, ∃ v, y = encE v) → ∃ l, ys = encEL l := by
      intro ys
      induction ys with
      | nil => exact fun _ => ⟨[], by simp [encEL]⟩
      | cons y r ihr =>
        intro hy
        obtain ⟨v, rfl⟩ := hy y (by simp)
        obtain ⟨l, rfl⟩ := ihr fun z hz => hy z (by simp [hz])
        exact ⟨v :: l, by simp [encEL, encE]⟩
    obtain ⟨l, rfl⟩ := this xs fun y hy => (ih y hy).1 rfl
    exact ⟨l, rfl⟩
  | struct parts h hl hp ih =>
    refine ⟨fun e => ?_, fun e => (by subst e; rw [Tryz.underlying29] at h; cases h)⟩
    subst e
    rw [Tryz.underlying31] at h
    cases h
    match parts, hl with
    | [p0, p1, p2, p3, p4], _ =>
      obtain ⟨k, rfl⟩ := HasTy.int_inv Tryz.underlying3 (hp 0 _ p0 rfl rfl)
      obtain ⟨v, rfl⟩ := ty_val (hp 1 _ p1 rfl rfl)
      obtain ⟨s, rfl⟩ := HasTy.str_inv Tryz.underlying9 (hp 2 _ p2 rfl rfl)
      obtain ⟨b, rfl⟩ := HasTy.bool_inv Tryz.underlying4 (hp 3 _ p3 rfl rfl)
      obtain ⟨l, rfl⟩ := (ih 4 _ p4 rfl rfl).2 rfl
      exact ⟨.mk k v s b l, rfl⟩
theorem ty_expr {x : D} (h : HasTy Tryz.prog 31 x) : ∃ v, x = encE v := (ty_E h).1 rfl
theorem map_all {α : Type} {f : α → D} : ∀ {ys : List D}, (∀ y ∈ ys, ∃ v, y = f v) → ∃ l : List α, ys = l.map f
  | [], _ => ⟨[], rfl⟩
  | y :: r, h => by
    obtain ⟨v, hv⟩ := h y (by simp)
    obtain ⟨l, hl⟩ := map_all (ys := r) fun z hz => h z (by simp [hz])
    exact ⟨v :: l, by rw [hv, hl]; rfl⟩
theorem ty_strs {x : D} (h : HasTy Tryz.prog 85 x) : ∃ l : List ByteArray, x = .sl (l.map .str) := by
  obtain ⟨xs, rfl, hx⟩ := HasTy.sl_inv Tryz.underlying85 h
  obtain ⟨l, rfl⟩ := map_all (f := D.str) fun y hy => HasTy.str_inv Tryz.underlying9 (hx y hy)
  exact ⟨l, rfl⟩
theorem ty_pr {x : D} (h : HasTy Tryz.prog 140 x) : ∃ p, x = encPr p := by
  obtain ⟨parts, rfl, hl, hp⟩ := HasTy.struct_inv Tryz.underlying140 h
  match parts, hl with
  | [p0, p1], _ =>
    obtain ⟨k, rfl⟩ := HasTy.str_inv Tryz.underlying9 (hp 0 _ p0 rfl rfl)
    obtain ⟨v, rfl⟩ := ty_val (hp 1 _ p1 rfl rfl)
    exact ⟨⟨k, v⟩, rfl⟩
theorem ty_prs {x : D} (h : HasTy Tryz.prog 79 x) : ∃ l : List Pr, x = .sl (l.map encPr) := by
  obtain ⟨xs, rfl, hx⟩ := HasTy.sl_inv Tryz.underlying79 h
  obtain ⟨l, rfl⟩ := map_all (f := encPr) fun y hy => ty_pr (hx y hy)
  exact ⟨l, rfl⟩
theorem ty_bind {x : D} (h : HasTy Tryz.prog 47 x) : ∃ p, x = encBd p := by
  obtain ⟨parts, rfl, hl, hp⟩ := HasTy.struct_inv Tryz.underlying47 h
  match parts, hl with
  | [p0, p1], _ =>
    obtain ⟨k, rfl⟩ := HasTy.str_inv Tryz.underlying9 (hp 0 _ p0 rfl rfl)
    obtain ⟨v, rfl⟩ := ty_val (hp 1 _ p1 rfl rfl)
    exact ⟨⟨k, v⟩, rfl⟩
theorem ty_env {x : D} (h : HasTy Tryz.prog 32 x) : ∃ l : List Bd, x = .sl (l.map encBd) := by
  obtain ⟨xs, rfl, hx⟩ := HasTy.sl_inv Tryz.underlying32 h
  obtain ⟨l, rfl⟩ := map_all (f := encBd) fun y hy => ty_bind (hx y hy)
  exact ⟨l, rfl⟩
theorem ty_node {x : D} (h : HasTy Tryz.prog 87 x) : ∃ p, x = encNd p := by
  obtain ⟨parts, rfl, hl, hp⟩ := HasTy.struct_inv Tryz.underlying87 h
  match parts, hl with
  | [p0, p1, p2], _ =>
    obtain ⟨k, rfl⟩ := HasTy.int_inv Tryz.underlying3 (hp 0 _ p0 rfl rfl)
    obtain ⟨l, rfl⟩ := ty_strs (hp 1 _ p1 rfl rfl)
    obtain ⟨v, rfl⟩ := ty_prs (hp 2 _ p2 rfl rfl)
    exact ⟨⟨k, l, v⟩, rfl⟩
theorem ty_edge {x : D} (h : HasTy Tryz.prog 81 x) : ∃ p, x = encEd p := by
  obtain ⟨parts, rfl, hl, hp⟩ := HasTy.struct_inv Tryz.underlying81 h
  match parts, hl with
  | [p0, p1, p2, p3, p4], _ =>
    obtain ⟨k, rfl⟩ := HasTy.int_inv Tryz.underlying3 (hp 0 _ p0 rfl rfl)
    obtain ⟨m, rfl⟩ := HasTy.int_inv Tryz.underlying3 (hp 1 _ p1 rfl rfl)
    obtain ⟨n, rfl⟩ := HasTy.int_inv Tryz.underlying3 (hp 2 _ p2 rfl rfl)
    obtain ⟨s, rfl⟩ := HasTy.str_inv Tryz.underlying9 (hp 3 _ p3 rfl rfl)
    obtain ⟨v, rfl⟩ := ty_prs (hp 4 _ p4 rfl rfl)
    exact ⟨⟨k, m, n, s, v⟩, rfl⟩
theorem ty_graph {x : D} (h : HasTy Tryz.prog 25 x) : ∃ p, x = encGr p := by
  obtain ⟨parts, rfl, hl, hp⟩ := HasTy.struct_inv Tryz.underlying25 h
  match parts, hl with
  | [p0, p1, p2, p3], _ =>
    obtain ⟨xs, rfl, hx⟩ := HasTy.sl_inv Tryz.underlying22 (hp 0 _ p0 rfl rfl)
    obtain ⟨l, rfl⟩ := map_all (f := encNd) fun y hy => ty_node (hx y hy)
    obtain ⟨ys, rfl, hy⟩ := HasTy.sl_inv Tryz.underlying23 (hp 1 _ p1 rfl rfl)
    obtain ⟨m, rfl⟩ := map_all (f := encEd) fun z hz => ty_edge (hy z hz)
    obtain ⟨k, rfl⟩ := HasTy.int_inv Tryz.underlying3 (hp 2 _ p2 rfl rfl)
    obtain ⟨n, rfl⟩ := HasTy.int_inv Tryz.underlying3 (hp 3 _ p3 rfl rfl)
    exact ⟨⟨l, m, k, n⟩, rfl⟩
/-- The types that the laws' arguments are made of. -/
def tys2 : List TypeId := [3, 9, 4, 85, 26, 28, 29, 31, 140, 79, 47, 32, 87, 22, 81, 23, 25]
theorem tys2_ok : closedB Tryz.prog tys2 = true := by kernel_rfl
end Go.Proofs.YthieohigmpfknaaGreatDoor

/- The worked examples of chapter 22. Conditions: none. -/
namespace Go.Proofs.YthieohigmpfknaaGreatDoor
open Go Go.Abs Go.Val Go.RowKit
attribute [local irreducible] go SGo HasBody Ev ExtEv EvO EvS binOp RGo

def g0 : Gr := ⟨[], [], 0, 0⟩
def nullE : Ex := .mk 1 vNull ⟨#[]⟩ false []
def strA : Ex := .mk 1 (vStr ⟨#[97]⟩) ⟨#[]⟩ false []
def listA : Ex := .mk 22 vNull ⟨#[]⟩ false [numE 1, nullE]
theorem ok0 (e : Ex) (h : decide (bulkD (encGr g0) + bulkD (encE e) + bulkL (([] : List Bd).map encBd) ≤ 1048576) = true) (hn : decide (nd e ≤ 1000) = true) : EvOK g0 [] e := evOK_bulk (of_decide_eq_true h) (of_decide_eq_true hn)
theorem w1 : valF g0 [] (opE 10 (numE 7) (numE 2)) = .mk 3 7 2 ⟨#[]⟩ [] := by kernel_rfl
theorem w1_ev : Ev E 11 [encGr g0, encE (opE 10 (numE 7) (numE 2)), .sl (([] : List Bd).map encBd)] (.d (enc (.mk 3 7 2 ⟨#[]⟩ []))) := by
  have h := Eval_ev g0 [] (opE 10 (numE 7) (numE 2)) (ok0 _ (by decide +kernel) (by decide +kernel))
  rw [w1] at h
  exact h
theorem w2 : valF g0 [] (opE 10 (numE 6) (numE 2)) = .mk 2 3 0 ⟨#[]⟩ [] := by kernel_rfl
theorem w2_ev : Ev E 11 [encGr g0, encE (opE 10 (numE 6) (numE 2)), .sl (([] : List Bd).map encBd)] (.d (enc (.mk 2 3 0 ⟨#[]⟩ []))) := by
  have h := Eval_ev g0 [] (opE 10 (numE 6) (numE 2)) (ok0 _ (by decide +kernel) (by decide +kernel))
  rw [w2] at h
  exact h
theorem w3 : valF g0 [] (opE 7 strA strA) = .mk 4 0 0 ⟨#[97, 97]⟩ [] := by kernel_rfl
theorem w3_ev : Ev E 11 [encGr g0, encE (opE 7 strA strA), .sl (([] : List Bd).map encBd)] (.d (enc (.mk 4 0 0 ⟨#[97, 97]⟩ []))) := by
  have h := Eval_ev g0 [] (opE 7 strA strA) (ok0 _ (by decide +kernel) (by decide +kernel))
  rw [w3] at h
  exact h
theorem w4 : valF g0 [] (opE 20 (numE 1) listA) = .mk 1 1 0 ⟨#[]⟩ [] := by kernel_rfl
theorem w4_ev : Ev E 11 [encGr g0, encE (opE 20 (numE 1) listA), .sl (([] : List Bd).map encBd)] (.d (enc (.mk 1 1 0 ⟨#[]⟩ []))) := by
  have h := Eval_ev g0 [] (opE 20 (numE 1) listA) (ok0 _ (by decide +kernel) (by decide +kernel))
  rw [w4] at h
  exact h
theorem w5 : valF g0 [] (opE 10 (numE 1) (numE 0)) = .mk 0 0 0 ⟨#[]⟩ [] := by kernel_rfl
theorem w5_ev : Ev E 11 [encGr g0, encE (opE 10 (numE 1) (numE 0)), .sl (([] : List Bd).map encBd)] (.d (enc (.mk 0 0 0 ⟨#[]⟩ []))) := by
  have h := Eval_ev g0 [] (opE 10 (numE 1) (numE 0)) (ok0 _ (by decide +kernel) (by decide +kernel))
  rw [w5] at h
  exact h
theorem x1 : truthF (valF g0 [] (opE 20 (numE 2) listA)) = 1 := by kernel_rfl
theorem x1_ev : Ev E 14 [encGr g0, encE (opE 20 (numE 2) listA), .sl (([] : List Bd).map encBd)] (.d (.int 1)) := by
  have h := Test_ev g0 [] (opE 20 (numE 2) listA) (ok0 _ (by decide +kernel) (by decide +kernel))
  rw [x1] at h
  exact h
theorem x2 : truthF (valF g0 [] (opE 14 (numE 1) strA)) = 1 := by kernel_rfl
theorem x2_ev : Ev E 14 [encGr g0, encE (opE 14 (numE 1) strA), .sl (([] : List Bd).map encBd)] (.d (.int 1)) := by
  have h := Test_ev g0 [] (opE 14 (numE 1) strA) (ok0 _ (by decide +kernel) (by decide +kernel))
  rw [x2] at h
  exact h
theorem x3 : truthF (valF g0 [] (opE 12 (numE 1) strA)) = 0 := by kernel_rfl
theorem x3_ev : Ev E 14 [encGr g0, encE (opE 12 (numE 1) strA), .sl (([] : List Bd).map encBd)] (.d (.int 0)) := by
  have h := Test_ev g0 [] (opE 12 (numE 1) strA) (ok0 _ (by decide +kernel) (by decide +kernel))
  rw [x3] at h
  exact h
end Go.Proofs.YthieohigmpfknaaGreatDoor

/- The worked examples of chapter 22: the law's own text. Conditions: none. -/
namespace Go.Proofs.YthieohigmpfknaaGreatDoor
open Go Go.Abs Go.Val Go.RowKit
attribute [local irreducible] go SGo HasBody Ev ExtEv EvO EvS binOp RGo

set_option maxHeartbeats 4000000 in
theorem alive_ev : Ev E 10 [] (.d (.bool true)) := by
  have s1 : ((⟨#[97, 97]⟩ : ByteArray).toList == (⟨#[97, 97]⟩ : ByteArray).toList) = true := beq_self_eq_true _
  refine enter0 Tryz.func10 Tryz.ntmps10 rfl rfl fun w0 F0 O => ?_
  repeat' (first | refine zS rfl ?_ | refine go_cutR 4 (fun _ : Unit => ⟨[(1, .ptr 0 0), (2, .ptr 1 0), (3, .ptr 2 0), (4, .ptr 3 0)], [.var 25 (.cs [.nilS, .nilS, .d (.int 0), .d (.int 0)]), .var 31 (.w (.d (encE nullE))), .var 31 (.w (.d (encE strA))), .var 31 (.w (.d (encE listA)))]⟩) (()) ?_ ?_ | refine qRT (id := 4) [4,5] [] (by kernel_rfl) (by kernel_rfl) rfl (by repeat (first | exact trivial | refine ⟨⟨rfl, rfl⟩, ?_⟩ | refine ⟨trivial, ?_⟩)) ?_ | refine rgW (id := 4) (i := 0) 4 (by kernel_rfl) rfl (by kernel_rfl) (by repeat (first | exact trivial | refine ⟨rfl, ?_⟩)) ?_ | refine rgAlloc (id := 4) (i := 4) rfl rfl rfl rfl rfl rfl rfl (by repeat (first | exact trivial | refine ⟨⟨rfl, rfl⟩, ?_⟩ | refine ⟨trivial, ?_⟩)) ?_ | refine rgStore (id := 4) (i := 5) rfl rfl rfl rfl rfl rfl rfl rfl rfl rfl rfl (by repeat (first | exact trivial | refine ⟨⟨rfl, rfl⟩, ?_⟩ | refine ⟨trivial, ?_⟩)) ?_ | refine rgN ?_ | (show TmB _ _ ∧ RGo _ _ _ _ _ _ _ _ _; refine ⟨(by repeat (first | exact trivial | refine ⟨rfl, ?_⟩)), ?_⟩) | (refine go_stop ⟨(), rfl, (zle 4)⟩) | refine go_cutR 5 (fun _ : Unit => ⟨[(1, .ptr 0 0), (2, .ptr 1 0), (3, .ptr 2 0), (4, .ptr 3 0), (5, .ptr 4 0)], [.var 25 (.cs [.nilS, .nilS, .d (.int 0), .d (.int 0)]), .var 31 (.w (.d (encE nullE))), .var 31 (.w (.d (encE strA))), .var 31 (.w (.d (encE listA))), .var 28 (.w (.d (enc (.mk 3 7 2 ⟨#[]⟩ []))))]⟩) (()) ?_ ?_ | refine qRT (id := 5) [5,6] [] (by kernel_rfl) (by kernel_rfl) rfl (by repeat (first | exact trivial | refine ⟨⟨rfl, rfl⟩, ?_⟩ | refine ⟨trivial, ?_⟩)) ?_ | refine rgW (id := 5) (i := 0) 5 (by kernel_rfl) rfl (by kernel_rfl) (by repeat (first | exact trivial | refine ⟨rfl, ?_⟩)) ?_ | refine rgAlloc (id := 5) (i := 5) rfl rfl rfl rfl rfl rfl rfl (by repeat (first | exact trivial | refine ⟨⟨rfl, rfl⟩, ?_⟩ | refine ⟨trivial, ?_⟩)) ?_ | refine rgStore (id := 5) (i := 6) rfl rfl rfl rfl rfl rfl rfl rfl rfl rfl rfl (by repeat (first | exact trivial | refine ⟨⟨rfl, rfl⟩, ?_⟩ | refine ⟨trivial, ?_⟩)) ?_ | (refine go_stop ⟨(), rfl, (zle 5)⟩) | refine go_cutR 6 (fun _ : Unit => ⟨[(1, .ptr 0 0), (2, .ptr 1 0), (3, .ptr 2 0), (4, .ptr 3 0), (5, .ptr 4 0), (6, .ptr 5 0)], [.var 25 (.cs [.nilS, .nilS, .d (.int 0), .d (.int 0)]), .var 31 (.w (.d (encE nullE))), .var 31 (.w (.d (encE strA))), .var 31 (.w (.d (encE listA))), .var 28 (.w (.d (enc (.mk 3 7 2 ⟨#[]⟩ [])))), .var 28 (.w (.d (enc (.mk 2 3 0 ⟨#[]⟩ []))))]⟩) (()) ?_ ?_ | refine qRT (id := 6) [5,6] [] (by kernel_rfl) (by kernel_rfl) rfl (by repeat (first | exact trivial | refine ⟨⟨rfl, rfl⟩, ?_⟩ | refine ⟨trivial, ?_⟩)) ?_ | refine rgW (id := 6) (i := 0) 5 (by kernel_rfl) rfl (by kernel_rfl) (by repeat (first | exact trivial | refine ⟨rfl, ?_⟩)) ?_ | refine rgAlloc (id := 6) (i := 5) rfl rfl rfl rfl rfl rfl rfl (by repeat (first | exact trivial | refine ⟨⟨rfl, rfl⟩, ?_⟩ | refine ⟨trivial, ?_⟩)) ?_ | refine rgStore (id := 6) (i := 6) rfl rfl rfl rfl rfl rfl rfl rfl rfl rfl rfl (by repeat (first | exact trivial | refine ⟨⟨rfl, rfl⟩, ?_⟩ | refine ⟨trivial, ?_⟩)) ?_ | (refine go_stop ⟨(), rfl, (zle 6)⟩) | refine go_cutR 7 (fun _ : Unit => ⟨[(1, .ptr 0 0), (2, .ptr 1 0), (3, .ptr 2 0), (4, .ptr 3 0), (5, .ptr 4 0), (6, .ptr 5 0), (7, .ptr 6 0)], [.var 25 (.cs [.nilS, .nilS, .d (.int 0), .d (.int 0)]), .var 31 (.w (.d (encE nullE))), .var 31 (.w (.d (encE strA))), .var 31 (.w (.d (encE listA))), .var 28 (.w (.d (enc (.mk 3 7 2 ⟨#[]⟩ [])))), .var 28 (.w (.d (enc (.mk 2 3 0 ⟨#[]⟩ [])))), .var 28 (.w (.d (enc (.mk 4 0 0 ⟨#[97, 97]⟩ []))))]⟩) (()) ?_ ?_ | refine qRT (id := 7) [5,6] [] (by kernel_rfl) (by kernel_rfl) rfl (by repeat (first | exact trivial | refine ⟨⟨rfl, rfl⟩, ?_⟩ | refine ⟨trivial, ?_⟩)) ?_ | refine rgW (id := 7) (i := 0) 5 (by kernel_rfl) rfl (by kernel_rfl) (by repeat (first | exact trivial | refine ⟨rfl, ?_⟩)) ?_ | refine rgAlloc (id := 7) (i := 5) rfl rfl rfl rfl rfl rfl rfl (by repeat (first | exact trivial | refine ⟨⟨rfl, rfl⟩, ?_⟩ | refine ⟨trivial, ?_⟩)) ?_ | refine rgStore (id := 7) (i := 6) rfl rfl rfl rfl rfl rfl rfl rfl rfl rfl rfl (by repeat (first | exact trivial | refine ⟨⟨rfl, rfl⟩, ?_⟩ | refine ⟨trivial, ?_⟩)) ?_ | (refine go_stop ⟨(), rfl, (zle 7)⟩) | refine go_cutR 8 (fun _ : Unit => ⟨[(1, .ptr 0 0), (2, .ptr 1 0), (3, .ptr 2 0), (4, .ptr 3 0), (5, .ptr 4 0), (6, .ptr 5 0), (7, .ptr 6 0), (8, .ptr 7 0)], [.var 25 (.cs [.nilS, .nilS, .d (.int 0), .d (.int 0)]), .var 31 (.w (.d (encE nullE))), .var 31 (.w (.d (encE strA))), .var 31 (.w (.d (encE listA))), .var 28 (.w (.d (enc (.mk 3 7 2 ⟨#[]⟩ [])))), .var 28 (.w (.d (enc (.mk 2 3 0 ⟨#[]⟩ [])))), .var 28 (.w (.d (enc (.mk 4 0 0 ⟨#[97, 97]⟩ [])))), .var 28 (.w (.d (enc (.mk 1 1 0 ⟨#[]⟩ []))))]⟩) (()) ?_ ?_ | refine qRT (id := 8) [5,6] [] (by kernel_rfl) (by kernel_rfl) rfl (by repeat (first | exact trivial | refine ⟨⟨rfl, rfl⟩, ?_⟩ | refine ⟨trivial, ?_⟩)) ?_ | refine rgW (id := 8) (i := 0) 5 (by kernel_rfl) rfl (by kernel_rfl) (by repeat (first | exact trivial | refine ⟨rfl, ?_⟩)) ?_ | refine rgAlloc (id := 8) (i := 5) rfl rfl rfl rfl rfl rfl rfl (by repeat (first | exact trivial | refine ⟨⟨rfl, rfl⟩, ?_⟩ | refine ⟨trivial, ?_⟩)) ?_ | refine rgStore (id := 8) (i := 6) rfl rfl rfl rfl rfl rfl rfl rfl rfl rfl rfl (by repeat (first | exact trivial | refine ⟨⟨rfl, rfl⟩, ?_⟩ | refine ⟨trivial, ?_⟩)) ?_ | (refine go_stop ⟨(), rfl, (zle 8)⟩) | refine go_cutR 9 (fun _ : Unit => ⟨[(1, .ptr 0 0), (2, .ptr 1 0), (3, .ptr 2 0), (4, .ptr 3 0), (5, .ptr 4 0), (6, .ptr 5 0), (7, .ptr 6 0), (8, .ptr 7 0), (9, .ptr 8 0)], [.var 25 (.cs [.nilS, .nilS, .d (.int 0), .d (.int 0)]), .var 31 (.w (.d (encE nullE))), .var 31 (.w (.d (encE strA))), .var 31 (.w (.d (encE listA))), .var 28 (.w (.d (enc (.mk 3 7 2 ⟨#[]⟩ [])))), .var 28 (.w (.d (enc (.mk 2 3 0 ⟨#[]⟩ [])))), .var 28 (.w (.d (enc (.mk 4 0 0 ⟨#[97, 97]⟩ [])))), .var 28 (.w (.d (enc (.mk 1 1 0 ⟨#[]⟩ [])))), .var 28 (.w (.d (enc (.mk 0 0 0 ⟨#[]⟩ []))))]⟩) (()) ?_ ?_ | refine qRT (id := 9) [5,6] [] (by kernel_rfl) (by kernel_rfl) rfl (by repeat (first | exact trivial | refine ⟨⟨rfl, rfl⟩, ?_⟩ | refine ⟨trivial, ?_⟩)) ?_ | refine rgW (id := 9) (i := 0) 5 (by kernel_rfl) rfl (by kernel_rfl) (by repeat (first | exact trivial | refine ⟨rfl, ?_⟩)) ?_ | refine rgAlloc (id := 9) (i := 5) rfl rfl rfl rfl rfl rfl rfl (by repeat (first | exact trivial | refine ⟨⟨rfl, rfl⟩, ?_⟩ | refine ⟨trivial, ?_⟩)) ?_ | refine rgStore (id := 9) (i := 6) rfl rfl rfl rfl rfl rfl rfl rfl rfl rfl rfl (by repeat (first | exact trivial | refine ⟨⟨rfl, rfl⟩, ?_⟩ | refine ⟨trivial, ?_⟩)) ?_ | (refine go_stop ⟨(), rfl, (zle 9)⟩) | refine qA ?_ | refine qB rfl ?_ | refine qC (by kernel_rfl) ?_ | refine qD ?_ | refine qP (d := 13) rfl rfl rfl rfl rfl rfl b30 (number_ev 1) ?_ | refine qP (d := 18) rfl rfl rfl rfl rfl rfl b30 (number_ev 7) ?_ | refine qP (d := 19) rfl rfl rfl rfl rfl rfl b30 (number_ev 2) ?_ | refine qP (d := 23) rfl rfl rfl rfl rfl rfl b30 (number_ev 6) ?_ | refine qP (d := 24) rfl rfl rfl rfl rfl rfl b30 (number_ev 2) ?_ | refine qP (d := 33) rfl rfl rfl rfl rfl rfl b30 (number_ev 1) ?_ | refine qP (d := 38) rfl rfl rfl rfl rfl rfl b30 (number_ev 1) ?_ | refine qP (d := 39) rfl rfl rfl rfl rfl rfl b30 (number_ev 0) ?_ | refine qP (d := 92) rfl rfl rfl rfl rfl rfl b30 (number_ev 2) ?_ | refine qP (d := 100) rfl rfl rfl rfl rfl rfl b30 (number_ev 1) ?_ | refine qP (d := 108) rfl rfl rfl rfl rfl rfl b30 (number_ev 1) ?_ | refine qP (d := 20) rfl rfl rfl rfl rfl rfl b20 (op_ev 10 (numE 7) (numE 2)) ?_ | refine qP (d := 25) rfl rfl rfl rfl rfl rfl b20 (op_ev 10 (numE 6) (numE 2)) ?_ | refine qP (d := 30) rfl rfl rfl rfl rfl rfl b20 (op_ev 7 strA strA) ?_ | refine qP (d := 35) rfl rfl rfl rfl rfl rfl b20 (op_ev 20 (numE 1) listA) ?_ | refine qP (d := 40) rfl rfl rfl rfl rfl rfl b20 (op_ev 10 (numE 1) (numE 0)) ?_ | refine qP (d := 21) rfl rfl rfl rfl rfl rfl b11 (w1_ev) ?_ | refine qP (d := 26) rfl rfl rfl rfl rfl rfl b11 (w2_ev) ?_ | refine qP (d := 31) rfl rfl rfl rfl rfl rfl b11 (w3_ev) ?_ | refine qP (d := 36) rfl rfl rfl rfl rfl rfl b11 (w4_ev) ?_ | refine qP (d := 41) rfl rfl rfl rfl rfl rfl b11 (w5_ev) ?_ | refine qP (d := 94) rfl rfl rfl rfl rfl rfl b20 (op_ev 20 (numE 2) listA) ?_ | refine qP (d := 102) rfl rfl rfl rfl rfl rfl b20 (op_ev 14 (numE 1) strA) ?_ | refine qP (d := 110) rfl rfl rfl rfl rfl rfl b20 (op_ev 12 (numE 1) strA) ?_ | refine qP (d := 95) rfl rfl rfl rfl rfl rfl b14 (x1_ev) ?_ | refine qP (d := 103) rfl rfl rfl rfl rfl rfl b14 (x2_ev) ?_ | refine qP (d := 111) rfl rfl rfl rfl rfl rfl b14 (x3_ev) ?_ | refine qL rfl rfl ?_ | refine zX rfl rfl rfl rfl ?_ | exact zD)
end Go.Proofs.YthieohigmpfknaaGreatDoor

/- EvalAll: Eval and Test agree with the reference for every graph, expression and environment within the row's bound; and the chapter's examples hold. The tied card of the second form. Conditions: none beyond the card's own. -/
namespace Go.Proofs.YthieohigmpfknaaGreatDoor
open Go Go.Abs Go.Val Go.RowKit Go.ChangeShapes Go.WideShapes
attribute [local irreducible] go SGo HasBody Ev ExtEv EvO EvS

theorem ord_self (a : V) : ordF a a = 0 := by have := ordF_anti a a; omega
theorem bulk3 {g : Gr} {e : Ex} {env : List Bd} (h : bulkL [encGr g, encE e, .sl (env.map encBd)] ≤ 1048576) : bulkD (encGr g) + bulkD (encE e) + bulkL (env.map encBd) ≤ 1048576 ∧ nd e ≤ 2000000 := by
  have hn := nd_bulk e
  rw [bulkL, bulkL, bulkL, bulkD] at h
  omega

end Go.Proofs.YthieohigmpfknaaGreatDoor
