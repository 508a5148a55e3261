/- Expressions as plain trees, how they are written as data, and the weighing of expressions by the law's own text; Names of the language: letters, names, by both texts; A word between blanks in a text of words between blanks: it is one of them; The functions' numbers of operands and the aggregates' names, by both texts; Blank constants, numbers of operands, unused fields, by both texts; The size of an expression, by both texts; The depth of an expression, by both texts; Upper case and the reserved words, by both texts; The reserved words, by both texts. Conditions: each part's own, as it says. -/
import Derived.Test.YtmfjfclpdmpncaaGreatDoorGC
import Derived.Test.YtmfjfclpdmpncaaGreatDoorMA
import Derived.Lib.IndexMore
import Derived.Test.YtmfjfclpdmpncaaGreatDoorGB
set_option linter.unusedVariables false
set_option linter.unusedSimpArgs false
/- Expressions as plain trees, how they are written as data, and the weighing of expressions by the law's own text. Conditions: none; the budget is at most 2^40. -/
namespace Go.Proofs.YtmfjfclpdmpncaaGreatDoor
set_option maxRecDepth 4000
open Go Go.Abs Go.Val
attribute [local irreducible] go SGo HasBody Ev ExtEv EvO EvS

/-- An expression: its operator, its constant, its name, its mark DISTINCT, its operands. -/
inductive Ex where
  | mk (op : Int) (v : V) (nm : ByteArray) (ds : Bool) (ks : List Ex)
  deriving Inhabited
def Ex.op : Ex → Int | .mk op _ _ _ _ => op
def Ex.v : Ex → V | .mk _ v _ _ _ => v
def Ex.nm : Ex → ByteArray | .mk _ _ nm _ _ => nm
def Ex.ds : Ex → Bool | .mk _ _ _ ds _ => ds
def Ex.ks : Ex → List Ex | .mk _ _ _ _ ks => ks
theorem Ex.eta (e : Ex) : Ex.mk e.op e.v e.nm e.ds e.ks = e := by cases e; rfl
mutual
def kidsE : Ex → List D
  | .mk _ _ _ _ l => encEL l
def encEL : List Ex → List D
  | [] => []
  | e :: r => .agg [.int e.op, .int e.v.k, .int e.v.n, .int e.v.d, .str e.v.s, .sl (kids e.v), .str e.nm, .bool e.ds, .sl (kidsE e)] :: encEL r
end
def encE (e : Ex) : D := .agg [.int e.op, .int e.v.k, .int e.v.n, .int e.v.d, .str e.v.s, .sl (kids e.v), .str e.nm, .bool e.ds, .sl (kidsE e)]
theorem encEL_map (l : List Ex) : encEL l = l.map encE := by
  induction l with
  | nil => simp [encEL]
  | cons v r ih => simp [encEL, ih, encE]
theorem kidsE_eq (e : Ex) : kidsE e = e.ks.map encE := by
  cases e
  simp [kidsE, encEL_map, Ex.ks]
theorem kidsE_get {e : Ex} {i : Nat} {x : Ex} (h : e.ks[i]? = some x) : (kidsE e)[i]? = some (encE x) := by
  rw [kidsE_eq, List.getElem?_map, h]; rfl
theorem encEL_get {l : List Ex} {i : Nat} {x : Ex} (h : l[i]? = some x) : (encEL l)[i]? = some (encE x) := by
  rw [encEL_map, List.getElem?_map, h]; rfl
theorem kidsE_len (e : Ex) : (kidsE e).length = e.ks.length := by rw [kidsE_eq]; simp
theorem encEL_len (l : List Ex) : (encEL l).length = l.length := by rw [encEL_map]; simp
theorem fit_encE {e : Ex} (h : Fit (encE e)) : inR .i64 e.op ∧ Fit (enc e.v) ∧ e.nm.size ≤ 9223372036854775807 ∧ e.ks.length ≤ 9223372036854775807 ∧ ∀ x ∈ e.ks, Fit (encE x) := by
  have hc := h.aggs
  have h5 := (hc (.sl (kidsE e)) (by simp)).sls
  rw [kidsE_len] at h5
  refine ⟨(hc (.int e.op) (by simp)).int, ?_, (hc (.str e.nm) (by simp)).str, h5.1, fun x hx => h5.2 _ ?_⟩
  · refine Fit.agg _ fun c hm => hc c ?_
    simp only [List.mem_cons, List.not_mem_nil, or_false] at hm ⊢
    rcases hm with rfl | rfl | rfl | rfl | rfl <;> simp
  · rw [kidsE_eq]
    exact List.mem_map_of_mem hx
theorem fit_encEL {l : List Ex} (h : Fit (.sl (encEL l))) : l.length ≤ 9223372036854775807 ∧ ∀ x ∈ l, Fit (encE x) := by
  have h5 := h.sls
  rw [encEL_len] at h5
  refine ⟨h5.1, fun x hx => h5.2 _ ?_⟩
  rw [encEL_map]
  exact List.mem_map_of_mem hx
/-- Induction over expressions. -/
theorem xind {P : Ex → Prop} (h : ∀ op v nm ds ks, (∀ x ∈ ks, P x) → P (.mk op v nm ds ks)) : ∀ e, P e := by
  intro e
  refine Ex.rec (motive_1 := P) (motive_2 := fun l => ∀ x ∈ l, P x) (fun op v nm ds ks ih => h op v nm ds ks ih) (fun x hx => by simp at hx) (fun a r ha hr x hx => ?_) e
  rcases List.mem_cons.1 hx with rfl | hx
  · exact ha
  · exact hr x hx

/-! ## The law's weighing -/
def wtL (f : Ex → Int → Int) : List Ex → Int → Int
  | [], left => left
  | x :: r, left => bif decide (f x left < 0) then -1 else wtL f r (f x left)
def wtH (e : Ex) (left : Int) : Bool := decide (left < 0) || (decide ((e.ks.length : Int) > left) || (decide ((e.nm.size : Int) > 200) || (decide ((e.v.s.size : Int) > 300) || decide ((e.v.l.length : Int) > 100))))
def wtE : Nat → Ex → Int → Int
  | 0, _, _ => -1
  | m + 1, e, left => bif wtH e (left - 1) then -1 else wtL (wtE m) e.ks (left - 1)
structure SWt (f : Ex → Int → Int) (l : List Ex) (left0 : Int) where
  i : Nat
  left : Int
  hi : i ≤ l.length
  hl : 0 ≤ left
  hu : left ≤ 1099511627776
  ok : wtL f l left0 = wtL f (l.drop i) left
theorem wtL_le (f : Ex → Int → Int) (h : ∀ x left, 0 ≤ left → f x left ≤ left) : ∀ (l : List Ex) (left : Int), 0 ≤ left → wtL f l left ≤ left
  | [], left, _ => Int.le_refl _
  | x :: r, left, h0 => by
    simp only [wtL]
    cases hd : decide (f x left < 0) with
    | true => simp only [cond_true]; omega
    | false =>
      have h1 := of_decide_eq_false hd
      exact Int.le_trans (wtL_le f h r _ (by omega)) (h x left h0)
theorem wtE_le : ∀ (m : Nat) (e : Ex) (left : Int), 0 ≤ left → wtE m e left ≤ left
  | 0, e, left, h => by simp only [wtE]; omega
  | m + 1, e, left, h => by
    simp only [wtE]
    cases hh : wtH e (left - 1) with
    | true => simp only [cond_true]; omega
    | false =>
      have h0 : ¬ left - 1 < 0 := by
        unfold wtH at hh
        simp only [Bool.or_eq_false_iff, decide_eq_false_iff_not] at hh
        exact hh.1
      have := wtL_le (wtE m) (fun x l h => wtE_le m x l h) e.ks (left - 1) (by omega)
      simp only [cond_false]
      omega
theorem weight_ev (m : Nat) : ∀ (e : Ex) (left : Int), m ≤ 1000 → 0 ≤ left → left ≤ 1099511627776 → Ev E 107 [encE e, .int left, .int (m : Int)] (.d (.int (wtE m e left))) := by
  induction m with
  | zero =>
    intro e left _ h0 hu
    refine enter3 Tryz.func107 Tryz.ntmps107 rfl rfl fun w0 F0 O => ?_
    repeat' (first | refine zS rfl ?_ | refine qA ?_ | refine qB rfl ?_ | refine qC (by kernel_rfl) ?_ | refine qD ?_ | refine qE ?_ | refine qF ?_ | refine qG ?_ | refine qH rfl ?_ | refine zT rfl ?_ | refine zU rfl ?_ | refine qL rfl rfl ?_ | refine qM rfl rfl rfl ?_ | refine qO rfl rfl rfl ?_ | refine zX rfl rfl rfl rfl ?_ | refine zW rfl rfl rfl rfl ?_ | (refine qY rfl rfl rfl rfl ?_ ?_ <;> intro _) | (refine qV rfl ?_ ?_ <;> intro _) | exact zD | exact zL)
  | succ m ih =>
    intro e left hm h0 hu
    refine Ev.fit fun hfit => ?_
    obtain ⟨-, -, hs, hmax, hk⟩ := fit_encE (hfit (encE e) (by simp))
    have hlen : (kidsE e).length = e.ks.length := kidsE_len e
    have hm1 : decide (((m + 1 : Nat) : Int) < 1) = false := by simp; omega
    have hm2 : ((m + 1 : Nat) : Int) - 1 = (m : Int) := by omega
    have hkl : (kids e.v).length = e.v.l.length := kids_len e.v
    simp only [wtE]
    have bad : wtH e (left - 1) = true → Ev E 107 [encE e, .int left, .int ((m + 1 : Nat) : Int)] (.d (.int (-1))) := by
      intro hh
      unfold wtH at hh
      rw [← hlen, ← hkl] at hh
      cases g1 : decide (left - 1 < 0) with
      | true =>
        refine enter3 Tryz.func107 Tryz.ntmps107 rfl rfl fun w0 F0 O => ?_
        repeat' (first | refine zS rfl ?_ | refine qA ?_ | refine qB rfl ?_ | refine qC (by kernel_rfl) ?_ | refine qD ?_ | refine qE ?_ | refine qF ?_ | refine qG ?_ | refine qH rfl ?_ | refine zT rfl ?_ | refine zU rfl ?_ | refine qL rfl rfl ?_ | refine qM rfl rfl rfl ?_ | refine qO rfl rfl rfl ?_ | refine zX rfl rfl rfl rfl ?_ | refine zW rfl rfl rfl rfl ?_ | (refine qY rfl rfl rfl rfl ?_ ?_ <;> intro _) | exact zD | exact zL)
      | false =>
        cases g2 : decide (((kidsE e).length : Int) > left - 1) with
        | true =>
          refine enter3 Tryz.func107 Tryz.ntmps107 rfl rfl fun w0 F0 O => ?_
          repeat' (first | refine zS rfl ?_ | refine qA ?_ | refine qB rfl ?_ | refine qC (by kernel_rfl) ?_ | refine qD ?_ | refine qE ?_ | refine qF ?_ | refine qG ?_ | refine qH rfl ?_ | refine zT rfl ?_ | refine zU rfl ?_ | refine qL rfl rfl ?_ | refine qM rfl rfl rfl ?_ | refine qO rfl rfl rfl ?_ | refine zX rfl rfl rfl rfl ?_ | refine zW rfl rfl rfl rfl ?_ | (refine qY rfl rfl rfl rfl ?_ ?_ <;> intro _) | exact zD | exact zL)
        | false =>
          cases g3 : decide ((e.nm.size : Int) > 200) with
          | true =>
            refine enter3 Tryz.func107 Tryz.ntmps107 rfl rfl fun w0 F0 O => ?_
            repeat' (first | refine zS rfl ?_ | refine qA ?_ | refine qB rfl ?_ | refine qC (by kernel_rfl) ?_ | refine qD ?_ | refine qE ?_ | refine qF ?_ | refine qG ?_ | refine qH rfl ?_ | refine zT rfl ?_ | refine zU rfl ?_ | refine qL rfl rfl ?_ | refine qM rfl rfl rfl ?_ | refine qO rfl rfl rfl ?_ | refine zX rfl rfl rfl rfl ?_ | refine zW rfl rfl rfl rfl ?_ | (refine qY rfl rfl rfl rfl ?_ ?_ <;> intro _) | exact zD | exact zL)
          | false =>
            cases g4 : decide ((e.v.s.size : Int) > 300) with
            | true =>
              refine enter3 Tryz.func107 Tryz.ntmps107 rfl rfl fun w0 F0 O => ?_
              repeat' (first | refine zS rfl ?_ | refine qA ?_ | refine qB rfl ?_ | refine qC (by kernel_rfl) ?_ | refine qD ?_ | refine qE ?_ | refine qF ?_ | refine qG ?_ | refine qH rfl ?_ | refine zT rfl ?_ | refine zU rfl ?_ | refine qL rfl rfl ?_ | refine qM rfl rfl rfl ?_ | refine qO rfl rfl rfl ?_ | refine zX rfl rfl rfl rfl ?_ | refine zW rfl rfl rfl rfl ?_ | (refine qY rfl rfl rfl rfl ?_ ?_ <;> intro _) | exact zD | exact zL)
            | false =>
              cases g5 : decide (((kids e.v).length : Int) > 100) with
              | true =>
                refine enter3 Tryz.func107 Tryz.ntmps107 rfl rfl fun w0 F0 O => ?_
                repeat' (first | refine zS rfl ?_ | refine qA ?_ | refine qB rfl ?_ | refine qC (by kernel_rfl) ?_ | refine qD ?_ | refine qE ?_ | refine qF ?_ | refine qG ?_ | refine qH rfl ?_ | refine zT rfl ?_ | refine zU rfl ?_ | refine qL rfl rfl ?_ | refine qM rfl rfl rfl ?_ | refine qO rfl rfl rfl ?_ | refine zX rfl rfl rfl rfl ?_ | refine zW rfl rfl rfl rfl ?_ | (refine qY rfl rfl rfl rfl ?_ ?_ <;> intro _) | exact zD | exact zL)
              | false => rw [g1, g2, g3, g4, g5] at hh; cases hh
    cases hh : wtH e (left - 1) with
    | true => exact bad hh
    | false =>
      unfold wtH at hh
      rw [← hlen, ← hkl] at hh
      simp only [Bool.or_eq_false_iff] at hh
      obtain ⟨g1, g2, g3, g4, g5⟩ := hh
      have h1 := of_decide_eq_false g1
      simp only [cond_false]
      refine enter3 Tryz.func107 Tryz.ntmps107 rfl rfl fun w0 F0 O => ?_
      repeat' (first | refine zS rfl ?_ | refine qA ?_ | refine qB rfl ?_ | refine qC (by kernel_rfl) ?_ | refine qD ?_ | refine qE ?_ | refine qF ?_ | refine qG ?_ | refine qH rfl ?_ | refine zT rfl ?_ | refine zU rfl ?_ | refine qL rfl rfl ?_ | refine qM rfl rfl rfl ?_ | refine qO rfl rfl rfl ?_ | refine zX rfl rfl rfl rfl ?_ | refine zW rfl rfl rfl rfl ?_ | (refine qY rfl rfl rfl rfl ?_ ?_ <;> intro _) | exact zD | exact zL)
      refine go_loop_ (α := SWt (wtE m) e.ks (left - 1)) (fun p => ⟨[(3, .ptr 0 0), (1, .d (.int p.left)), (2, .d (.int ((m + 1 : Nat) : Int))), (45, .d (.sl (kidsE e))), (46, .d (.int (kidsE e).length)), (47, .d (.int p.i))], [.var 40 (.w (.d (encE e)))]⟩) (fun p => e.ks.length - p.i) ⟨0, _, by omega, by omega, by omega, rfl⟩ ((zle 1)) ?_
      rintro ⟨i, le, hi, hl, hu, ok⟩
      dsimp only
      rcases Nat.lt_or_ge i e.ks.length with hlt | hge
      · have hd1 : decide ((i : Int) < ((kidsE e).length : Int)) = true := by rw [hlen]; simpa using hlt
        have hx0 := List.getElem?_eq_getElem hlt
        generalize e.ks[i] = x at hx0
        have hx : (kidsE e)[(i : Int).toNat]? = some (encE x) := kidsE_get (by rw [Int.toNat_natCast]; exact hx0)
        rw [ok, drop_at hx0]
        simp only [wtL]
        have hw := ih x le (by omega) hl hu
        have hg2 := wtE_le m x le hl
        rw [← hm2] at hw
        cases hneg : decide (wtE m x le < 0) with
        | true =>
          repeat' (first | refine zS rfl ?_ | refine qA ?_ | refine qB rfl ?_ | refine qC (by kernel_rfl) ?_ | refine qD ?_ | refine qE ?_ | refine qF ?_ | refine qG ?_ | refine qH rfl ?_ | refine qI (encE x) rfl (guardX_ok rfl) rfl rfl rfl rfl rfl rfl (by first | omega | decide) hx ?_ | refine qP rfl rfl rfl rfl rfl rfl b107 (hw) ?_ | refine zT rfl ?_ | refine zU rfl ?_ | refine qL rfl rfl ?_ | refine qM rfl rfl rfl ?_ | refine qO rfl rfl rfl ?_ | refine zX rfl rfl rfl rfl ?_ | refine zW rfl rfl rfl rfl ?_ | (refine qY rfl rfl rfl rfl ?_ ?_ <;> intro _) | exact zD | exact zL)
        | false =>
          have hneg' := of_decide_eq_false hneg
          repeat' (first | refine zS rfl ?_ | refine qA ?_ | refine qB rfl ?_ | refine qC (by kernel_rfl) ?_ | refine qD ?_ | refine qE ?_ | refine qF ?_ | refine qG ?_ | refine qH rfl ?_ | refine qI (encE x) rfl (guardX_ok rfl) rfl rfl rfl rfl rfl rfl (by first | omega | decide) hx ?_ | refine qP rfl rfl rfl rfl rfl rfl b107 (hw) ?_ | refine zT rfl ?_ | refine zU rfl ?_ | refine qL rfl rfl ?_ | refine qM rfl rfl rfl ?_ | refine qO rfl rfl rfl ?_ | refine zX rfl rfl rfl rfl ?_ | refine zW rfl rfl rfl rfl ?_ | (refine qY rfl rfl rfl rfl ?_ ?_ <;> intro _) | exact zD | exact zL)
          refine go_stop ?_
          refine ⟨⟨i + 1, wtE m x le, by omega, by omega, by omega, by rw [ok, drop_at hx0]; simp only [wtL]; rw [hneg]; rfl⟩, by dsimp only; omega, (zle 1)⟩
      · have hd1 : decide ((i : Int) < ((kidsE e).length : Int)) = false := by rw [hlen]; simp; omega
        have : e.ks.drop i = [] := List.drop_eq_nil_of_le hge
        rw [ok, this]
        repeat' (first | refine zS rfl ?_ | refine qA ?_ | refine qB rfl ?_ | refine qC (by kernel_rfl) ?_ | refine qD ?_ | refine qE ?_ | refine qF ?_ | refine qG ?_ | refine qH rfl ?_ | refine zT rfl ?_ | refine zU rfl ?_ | refine qL rfl rfl ?_ | refine qM rfl rfl rfl ?_ | refine qO rfl rfl rfl ?_ | refine zX rfl rfl rfl rfl ?_ | refine zW rfl rfl rfl rfl ?_ | (refine qY rfl rfl rfl rfl ?_ ?_ <;> intro _) | exact zD | exact zL)
theorem lightEx_ev (e : Ex) : Ev E 49 [encE e] (.d (.bool (decide (wtE 40 e 400 ≥ 0)))) := by
  have h := weight_ev 40 e 400 (by omega) (by omega) (by omega)
  refine enter1 Tryz.func49 Tryz.ntmps49 rfl rfl fun w0 F0 O => ?_
  repeat' (first | refine zS rfl ?_ | refine qA ?_ | refine qB rfl ?_ | refine qC (by kernel_rfl) ?_ | refine qD ?_ | refine qE ?_ | refine qF ?_ | refine qG ?_ | refine qH rfl ?_ | refine qP rfl rfl rfl rfl rfl rfl b107 (h) ?_ | refine zT rfl ?_ | refine zU rfl ?_ | refine qL rfl rfl ?_ | refine qM rfl rfl rfl ?_ | refine qO rfl rfl rfl ?_ | refine zX rfl rfl rfl rfl ?_ | refine zW rfl rfl rfl rfl ?_ | (refine qY rfl rfl rfl rfl ?_ ?_ <;> intro _) | exact zD | exact zL)
end Go.Proofs.YtmfjfclpdmpncaaGreatDoor

/- Names of the language: letters, names, by both texts. Conditions: none. -/
namespace Go.Proofs.YtmfjfclpdmpncaaGreatDoor
set_option maxRecDepth 4000
open Go Go.Abs Go.Val
attribute [local irreducible] go SGo HasBody Ev ExtEv EvO EvS

def letF (n : Int) : Bool := (decide (n ≥ 97) && decide (n ≤ 122)) || (decide (n ≥ 65) && decide (n ≤ 90))
def wcF (n : Int) : Bool := letF n || ((decide (n ≥ 48) && decide (n ≤ 57)) || n == 95)
def nameF (s : ByteArray) : Bool := decide (1 ≤ s.size) && (decide (s.size ≤ 20) && (letF (byteAt s 0) && (List.range s.size).all fun j => wcF (byteAt s j)))
theorem letter_ev (n : Int) : Ev E 264 [.imm (.int .u8 n)] (.d (.bool (letF n))) := by
  refine enter1 Tryz.func264 Tryz.ntmps264 rfl rfl fun w0 F0 O => ?_
  repeat' (first | refine zS rfl ?_ | refine qA ?_ | refine qB rfl ?_ | refine qD ?_ | refine qL rfl rfl ?_ | (refine qY rfl rfl rfl rfl ?_ ?_ <;> intro _))
  all_goals (refine congrArg D.bool ?_; simp_all [letF] <;> omega)
theorem rletter_ev (n : Int) : Ev E 266 [.imm (.int .u8 n)] (.d (.bool (letF n))) := by
  refine enter1 Tryz.func266 Tryz.ntmps266 rfl rfl fun w0 F0 O => ?_
  repeat' (first | refine zS rfl ?_ | refine qA ?_ | refine qB rfl ?_ | refine qD ?_ | refine qL rfl rfl ?_ | (refine qY rfl rfl rfl rfl ?_ ?_ <;> intro _))
  all_goals (refine congrArg D.bool ?_; simp_all [letF] <;> omega)
structure SNm (s : ByteArray) where
  i : Nat
  hi : i ≤ s.size
  ok : ((List.range s.size).all fun j => wcF (byteAt s j)) = ((List.range s.size).drop i).all fun j => wcF (byteAt s j)
theorem range_at {n i : Nat} (h : i < n) : (List.range n)[i]? = some i := by rw [List.getElem?_range h]
theorem byteAt_rng (s : ByteArray) (i : Nat) (h : i < s.size) : 0 ≤ byteAt s i ∧ byteAt s i ≤ 255 := by
  obtain ⟨b, -, hb2⟩ := cOK_at h
  rw [hb2]
  have := b.toNat_lt
  omega
set_option maxHeartbeats 2000000 in
theorem name_ev (s : ByteArray) : Ev E 171 [.str s] (.d (.bool (nameF s))) := Ev.fit fun hfit => by
  have hs := (hfit (.str s) (by simp)).str
  by_cases h0 : s.size = 0
  · have hse : s = ByteArray.empty := by simpa using h0
    have gs : (s.toList == (⟨#[]⟩ : ByteArray).toList) = true := by rw [hse]; exact beq_self_eq_true ByteArray.empty.toList
    have e : nameF s = false := by unfold nameF; rw [h0]; rfl
    rw [e]
    refine enter1 Tryz.func171 Tryz.ntmps171 rfl rfl fun w0 F0 O => ?_
    repeat' (first | refine zS rfl ?_ | refine qA ?_ | refine qB rfl ?_ | refine qD ?_ | refine zT rfl ?_ | refine qL rfl rfl ?_ | refine zX rfl rfl rfl rfl ?_ | exact zD)
  have g0 : (s.toList == (⟨#[]⟩ : ByteArray).toList) = false := by
    rw [beq_eq_false_iff_ne]
    intro e
    rw [ByteArray.toList_eq, ByteArray.toList_eq] at e
    have := congrArg List.length e
    simp at this
    exact h0 (by rw [this]; rfl)
  cases h20 : decide (s.size ≤ 20) with
  | false =>
    have g1 : decide ((s.size : Int) > 20) = true := by simp at h20 ⊢; omega
    have e : nameF s = false := by unfold nameF; rw [h20]; simp
    rw [e]
    refine enter1 Tryz.func171 Tryz.ntmps171 rfl rfl fun w0 F0 O => ?_
    repeat' (first | refine zS rfl ?_ | refine qA ?_ | refine qB rfl ?_ | refine qD ?_ | refine zT rfl ?_ | refine qL rfl rfl ?_ | refine zX rfl rfl rfl rfl ?_ | refine zW rfl rfl rfl rfl ?_ | exact zD)
  | true =>
    have g1 : decide ((s.size : Int) > 20) = false := by simp at h20 ⊢; omega
    have hb0 := byteAt_rng s 0 (by omega)
    have hl := letter_ev (byteAt s 0)
    cases hl0 : letF (byteAt s 0) with
    | false =>
      rw [hl0] at hl
      have e : nameF s = false := by unfold nameF; rw [hl0]; simp
      rw [e]
      refine enter1 Tryz.func171 Tryz.ntmps171 rfl rfl fun w0 F0 O => ?_
      repeat' (first | refine zS rfl ?_ | refine qA ?_ | refine qB rfl ?_ | refine qD ?_ | refine qP rfl rfl rfl rfl rfl rfl b264 (hl) ?_ | refine zT rfl ?_ | refine qL rfl rfl ?_ | refine zW rfl rfl rfl rfl ?_ | exact zD)
    | true =>
      rw [hl0] at hl
      have e : nameF s = (List.range s.size).all fun j => wcF (byteAt s j) := by
        unfold nameF; rw [hl0, h20, show decide (1 ≤ s.size) = true by simp; omega]; rfl
      rw [e]
      refine enter1 Tryz.func171 Tryz.ntmps171 rfl rfl fun w0 F0 O => ?_
      repeat' (first | refine zS rfl ?_ | refine qA ?_ | refine qB rfl ?_ | refine qD ?_ | refine qE ?_ | refine qF ?_ | refine qP rfl rfl rfl rfl rfl rfl b264 (hl) ?_ | refine zU rfl ?_ | refine zW rfl rfl rfl rfl ?_)
      refine go_loop_ (α := SNm s) (fun p => ⟨[(0, .d (.str s)), (18, .d (.int s.size)), (19, .d (.int p.i))], []⟩) (fun p => s.size - p.i) ⟨0, by omega, rfl⟩ ((zle 0)) ?_
      rintro ⟨i, hi, ok⟩
      dsimp only
      rcases Nat.lt_or_ge i s.size with hlt | hge
      · have hd : decide ((i : Int) < (s.size : Int)) = true := by simpa using hlt
        have hb := byteAt_rng s i hlt
        rw [ok, drop_at (range_at hlt), List.all_cons]
        have hli := letter_ev (byteAt s i)
        have hti : (i : Int).toNat = i := Int.toNat_natCast i
        rw [← hti] at hli hb
        cases hl1 : letF (byteAt s (i : Int).toNat) with
        | true =>
          rw [hl1] at hli
          rw [hti] at hl1
          have hw : wcF (byteAt s i) = true := by unfold wcF; rw [hl1]; rfl
          repeat' (first | refine zS rfl ?_ | refine qA ?_ | refine qB rfl ?_ | refine qD ?_ | refine qE ?_ | refine qF ?_ | refine qG ?_ | refine qP rfl rfl rfl rfl rfl rfl b264 (hli) ?_ | refine zT rfl ?_ | refine zU rfl ?_)
          refine go_stop ?_
          exact ⟨⟨i + 1, by omega, by rw [ok, drop_at (range_at hlt), List.all_cons, hw, Bool.true_and]⟩, by dsimp only; omega, (zle 0)⟩
        | false =>
          rw [hl1] at hli
          have key : ∀ b, ((decide (byteAt s i ≥ 48) && decide (byteAt s i ≤ 57)) || byteAt s i == 95) = b → wcF (byteAt s i) = b := by
            intro b hb
            unfold wcF
            rw [← hti, hl1, hti, hb, Bool.false_or]
          cases h48 : decide (byteAt s (i : Int).toNat < 48) with
          | true =>
            cases h95 : byteAt s (i : Int).toNat != 95 with
            | true =>
              have hw : wcF (byteAt s i) = false := key _ (by rw [hti] at h48 h95; simp at h48 h95 ⊢; exact ⟨fun h => by omega, h95⟩)
              repeat' (first | refine zS rfl ?_ | refine qA ?_ | refine qB rfl ?_ | refine qD ?_ | refine qE ?_ | refine qF ?_ | refine qP rfl rfl rfl rfl rfl rfl b264 (hli) ?_ | refine zT rfl ?_ | refine qL rfl rfl ?_ | refine zX rfl rfl rfl rfl ?_)
              rw [hw]; rfl
            | false =>
              have hw : wcF (byteAt s i) = true := key _ (by rw [hti] at h48 h95; simp at h48 h95 ⊢; exact .inr h95)
              repeat' (first | refine zS rfl ?_ | refine qA ?_ | refine qB rfl ?_ | refine qD ?_ | refine qE ?_ | refine qF ?_ | refine qG ?_ | refine qP rfl rfl rfl rfl rfl rfl b264 (hli) ?_ | refine zT rfl ?_ | refine zU rfl ?_ | refine zX rfl rfl rfl rfl ?_)
              refine go_stop ?_
              exact ⟨⟨i + 1, by omega, by rw [ok, drop_at (range_at hlt), List.all_cons, hw, Bool.true_and]⟩, by dsimp only; omega, (zle 0)⟩
          | false =>
            cases h57 : decide (byteAt s (i : Int).toNat > 57) with
            | false =>
              have hw : wcF (byteAt s i) = true := key _ (by rw [hti] at h48 h57; simp at h48 h57 ⊢; exact .inl ⟨h48, h57⟩)
              repeat' (first | refine zS rfl ?_ | refine qA ?_ | refine qB rfl ?_ | refine qD ?_ | refine qE ?_ | refine qF ?_ | refine qG ?_ | refine qP rfl rfl rfl rfl rfl rfl b264 (hli) ?_ | refine zT rfl ?_ | refine zU rfl ?_ | refine zW rfl rfl rfl rfl ?_)
              refine go_stop ?_
              exact ⟨⟨i + 1, by omega, by rw [ok, drop_at (range_at hlt), List.all_cons, hw, Bool.true_and]⟩, by dsimp only; omega, (zle 0)⟩
            | true =>
              cases h95 : byteAt s (i : Int).toNat != 95 with
              | true =>
                have hw : wcF (byteAt s i) = false := key _ (by rw [hti] at h48 h57 h95; simp at h48 h57 h95 ⊢; exact ⟨fun h => by omega, h95⟩)
                repeat' (first | refine zS rfl ?_ | refine qA ?_ | refine qB rfl ?_ | refine qD ?_ | refine qE ?_ | refine qF ?_ | refine qP rfl rfl rfl rfl rfl rfl b264 (hli) ?_ | refine zT rfl ?_ | refine qL rfl rfl ?_ | refine zX rfl rfl rfl rfl ?_ | refine zW rfl rfl rfl rfl ?_)
                rw [hw]; rfl
              | false =>
                have hw : wcF (byteAt s i) = true := key _ (by rw [hti] at h95; simp at h95 ⊢; exact .inr h95)
                repeat' (first | refine zS rfl ?_ | refine qA ?_ | refine qB rfl ?_ | refine qD ?_ | refine qE ?_ | refine qF ?_ | refine qG ?_ | refine qP rfl rfl rfl rfl rfl rfl b264 (hli) ?_ | refine zT rfl ?_ | refine zU rfl ?_ | refine zX rfl rfl rfl rfl ?_ | refine zW rfl rfl rfl rfl ?_)
                refine go_stop ?_
                exact ⟨⟨i + 1, by omega, by rw [ok, drop_at (range_at hlt), List.all_cons, hw, Bool.true_and]⟩, by dsimp only; omega, (zle 0)⟩
      · have hd : decide ((i : Int) < (s.size : Int)) = false := by simp; omega
        have : (List.range s.size).drop i = [] := List.drop_eq_nil_of_le (by simpa using hge)
        rw [ok, this]
        repeat' (first | refine zS rfl ?_ | refine qA ?_ | refine qB rfl ?_ | refine qD ?_ | refine qH rfl ?_ | refine zU rfl ?_ | refine qL rfl rfl ?_ | exact zD)
set_option maxHeartbeats 2000000 in
theorem rname_ev (s : ByteArray) : Ev E 179 [.str s] (.d (.bool (nameF s))) := Ev.fit fun hfit => by
  have hs := (hfit (.str s) (by simp)).str
  cases h0 : decide (1 ≤ s.size) with
  | false =>
    have g0 : decide ((s.size : Int) < 1) = true := decide_eq_true (by have := of_decide_eq_false h0; omega)
    have e : nameF s = false := by unfold nameF; rw [h0]; simp
    rw [e]
    refine enter1 Tryz.func179 Tryz.ntmps179 rfl rfl fun w0 F0 O => ?_
    repeat' (first | refine zS rfl ?_ | refine qA ?_ | refine qB rfl ?_ | refine qD ?_ | refine zT rfl ?_ | refine qL rfl rfl ?_ | refine zX rfl rfl rfl rfl ?_ | exact zD)
  | true =>
  have hs1 := of_decide_eq_true h0
  have g0 : decide ((s.size : Int) < 1) = false := by simp; omega
  cases h20 : decide (s.size ≤ 20) with
  | false =>
    have g1 : decide ((s.size : Int) > 20) = true := by simp at h20 ⊢; omega
    have e : nameF s = false := by unfold nameF; rw [h20]; simp
    rw [e]
    refine enter1 Tryz.func179 Tryz.ntmps179 rfl rfl fun w0 F0 O => ?_
    repeat' (first | refine zS rfl ?_ | refine qA ?_ | refine qB rfl ?_ | refine qD ?_ | refine zT rfl ?_ | refine qL rfl rfl ?_ | refine zX rfl rfl rfl rfl ?_ | refine zW rfl rfl rfl rfl ?_ | exact zD)
  | true =>
    have g1 : decide ((s.size : Int) > 20) = false := by simp at h20 ⊢; omega
    have hb0 := byteAt_rng s 0 (by omega)
    have hl := rletter_ev (byteAt s 0)
    cases hl0 : letF (byteAt s 0) with
    | false =>
      rw [hl0] at hl
      have e : nameF s = false := by unfold nameF; rw [hl0]; simp
      rw [e]
      refine enter1 Tryz.func179 Tryz.ntmps179 rfl rfl fun w0 F0 O => ?_
      repeat' (first | refine zS rfl ?_ | refine qA ?_ | refine qB rfl ?_ | refine qD ?_ | refine qP rfl rfl rfl rfl rfl rfl b266 (hl) ?_ | refine zT rfl ?_ | refine qL rfl rfl ?_ | refine zW rfl rfl rfl rfl ?_ | exact zD)
    | true =>
      rw [hl0] at hl
      have e : nameF s = (List.range s.size).all fun j => wcF (byteAt s j) := by
        unfold nameF; rw [hl0, h20, h0]; rfl
      have hw0 : wcF (byteAt s 0) = true := by unfold wcF; rw [hl0]; rfl
      have hst1 : ((List.range s.size).all fun j => wcF (byteAt s j)) = ((List.range s.size).drop 1).all fun j => wcF (byteAt s j) := by
        have := drop_at (range_at (show 0 < s.size by omega))
        rw [List.drop_zero] at this
        conv => lhs; rw [this]
        rw [List.all_cons, hw0, Bool.true_and]
      rw [e]
      refine enter1 Tryz.func179 Tryz.ntmps179 rfl rfl fun w0 F0 O => ?_
      repeat' (first | refine zS rfl ?_ | refine qA ?_ | refine qB rfl ?_ | refine qD ?_ | refine qE ?_ | refine qF ?_ | refine qP rfl rfl rfl rfl rfl rfl b266 (hl) ?_ | refine zU rfl ?_ | refine zW rfl rfl rfl rfl ?_)
      refine go_loop_ (α := SNm s) (fun p => ⟨[(0, .d (.str s)), (3, .d (.int p.i))], []⟩) (fun p => s.size - p.i) ⟨1, by omega, hst1⟩ ((zle 0)) ?_
      rintro ⟨i, hi, ok⟩
      dsimp only
      rcases Nat.lt_or_ge i s.size with hlt | hge
      · have hd : decide ((i : Int) < (s.size : Int)) = true := by simpa using hlt
        have hb := byteAt_rng s i hlt
        rw [ok, drop_at (range_at hlt), List.all_cons]
        have hli := rletter_ev (byteAt s i)
        have hti : (i : Int).toNat = i := Int.toNat_natCast i
        rw [← hti] at hli hb
        cases hl1 : letF (byteAt s (i : Int).toNat) with
        | true =>
          rw [hl1] at hli
          rw [hti] at hl1
          have hw : wcF (byteAt s i) = true := by unfold wcF; rw [hl1]; rfl
          repeat' (first | refine zS rfl ?_ | refine qA ?_ | refine qB rfl ?_ | refine qD ?_ | refine qE ?_ | refine qF ?_ | refine qG ?_ | refine qP rfl rfl rfl rfl rfl rfl b266 (hli) ?_ | refine zT rfl ?_ | refine zU rfl ?_)
          refine go_stop ?_
          exact ⟨⟨i + 1, by omega, by rw [ok, drop_at (range_at hlt), List.all_cons, hw, Bool.true_and]⟩, by dsimp only; omega, (zle 0)⟩
        | false =>
          rw [hl1] at hli
          have key : ∀ b, ((decide (byteAt s i ≥ 48) && decide (byteAt s i ≤ 57)) || byteAt s i == 95) = b → wcF (byteAt s i) = b := by
            intro b hb
            unfold wcF
            rw [← hti, hl1, hti, hb, Bool.false_or]
          cases h95 : byteAt s (i : Int).toNat != 95 with
          | false =>
            have hw : wcF (byteAt s i) = true := key _ (by rw [hti] at h95; simp at h95 ⊢; exact .inr h95)
            repeat' (first | refine zS rfl ?_ | refine qA ?_ | refine qB rfl ?_ | refine qD ?_ | refine qE ?_ | refine qF ?_ | refine qG ?_ | refine qP rfl rfl rfl rfl rfl rfl b266 (hli) ?_ | refine zT rfl ?_ | refine zU rfl ?_ | refine zW rfl rfl rfl rfl ?_)
            refine go_stop ?_
            exact ⟨⟨i + 1, by omega, by rw [ok, drop_at (range_at hlt), List.all_cons, hw, Bool.true_and]⟩, by dsimp only; omega, (zle 0)⟩
          | true =>
            cases h48 : decide (byteAt s (i : Int).toNat < 48) with
            | true =>
              have hw : wcF (byteAt s i) = false := key _ (by rw [hti] at h48 h95; simp at h48 h95 ⊢; exact ⟨fun h => by omega, h95⟩)
              repeat' (first | refine zS rfl ?_ | refine qA ?_ | refine qB rfl ?_ | refine qD ?_ | refine qE ?_ | refine qF ?_ | refine qP rfl rfl rfl rfl rfl rfl b266 (hli) ?_ | refine zT rfl ?_ | refine qL rfl rfl ?_ | refine zX rfl rfl rfl rfl ?_)
              rw [hw]; rfl
            | false =>
              cases h57 : decide (byteAt s (i : Int).toNat > 57) with
              | false =>
                have hw : wcF (byteAt s i) = true := key _ (by rw [hti] at h48 h57; simp at h48 h57 ⊢; exact .inl ⟨h48, h57⟩)
                repeat' (first | refine zS rfl ?_ | refine qA ?_ | refine qB rfl ?_ | refine qD ?_ | refine qE ?_ | refine qF ?_ | refine qG ?_ | refine qP rfl rfl rfl rfl rfl rfl b266 (hli) ?_ | refine zT rfl ?_ | refine zU rfl ?_ | refine zX rfl rfl rfl rfl ?_ | refine zW rfl rfl rfl rfl ?_)
                refine go_stop ?_
                exact ⟨⟨i + 1, by omega, by rw [ok, drop_at (range_at hlt), List.all_cons, hw, Bool.true_and]⟩, by dsimp only; omega, (zle 0)⟩
              | true =>
                have hw : wcF (byteAt s i) = false := key _ (by rw [hti] at h48 h57 h95; simp at h48 h57 h95 ⊢; exact ⟨fun h => by omega, h95⟩)
                repeat' (first | refine zS rfl ?_ | refine qA ?_ | refine qB rfl ?_ | refine qD ?_ | refine qE ?_ | refine qF ?_ | refine qP rfl rfl rfl rfl rfl rfl b266 (hli) ?_ | refine zT rfl ?_ | refine qL rfl rfl ?_ | refine zX rfl rfl rfl rfl ?_ | refine zW rfl rfl rfl rfl ?_)
                rw [hw]; rfl
      · have hd : decide ((i : Int) < (s.size : Int)) = false := by simp; omega
        have : (List.range s.size).drop i = [] := List.drop_eq_nil_of_le (by simpa using hge)
        rw [ok, this]
        repeat' (first | refine zS rfl ?_ | refine qA ?_ | refine qB rfl ?_ | refine qD ?_ | refine qH rfl ?_ | refine zU rfl ?_ | refine qL rfl rfl ?_ | exact zD)
end Go.Proofs.YtmfjfclpdmpncaaGreatDoor

/- A word between blanks in a text of words between blanks: it is one of them. Conditions: no word has a blank. -/
namespace Go.Proofs.YtmfjfclpdmpncaaGreatDoor
set_option maxRecDepth 4000
open Go Go.Abs Go.Val

def joinW : List (List UInt8) → List UInt8
  | [] => [32]
  | w :: r => 32 :: (w ++ joinW r)
theorem joinW_head : ∀ r, ∃ t, joinW r = 32 :: t
  | [] => ⟨[], rfl⟩
  | w :: r => ⟨w ++ joinW r, rfl⟩
theorem contains_step (b : UInt8) (l sub : List UInt8) : Lib.contains (b :: l) sub = (sub.isPrefixOf (b :: l) || Lib.contains l sub) := by
  unfold Lib.contains
  have hg := Lib.index_ge l sub
  rw [show Lib.index (b :: l) sub = if sub.isPrefixOf (b :: l) then 0 else if Lib.index l sub == -1 then -1 else Lib.index l sub + 1 from rfl]
  cases hp : sub.isPrefixOf (b :: l) with
  | true => simp
  | false =>
    simp only [Bool.false_eq_true, if_false, Bool.false_or]
    by_cases h : Lib.index l sub = -1
    · simp [h]
    · have hb : (Lib.index l sub == -1) = false := by rw [beq_eq_false_iff_ne]; exact h
      rw [hb]
      simp only [Bool.false_eq_true, if_false, decide_eq_decide]
      omega
theorem contains_skip (p : List UInt8) : ∀ (w l : List UInt8), (32 : UInt8) ∉ w → Lib.contains (w ++ l) (32 :: p) = Lib.contains l (32 :: p)
  | [], l, _ => rfl
  | b :: w, l, h => by
    simp only [List.mem_cons, not_or] at h
    have hb : ((32 : UInt8) == b) = false := by rw [beq_eq_false_iff_ne]; exact h.1
    rw [List.cons_append, contains_step, contains_skip p w l h.2]
    have : (32 :: p).isPrefixOf (b :: (w ++ l)) = false := by simp only [List.isPrefixOf, hb, Bool.false_and]
    rw [this, Bool.false_or]
theorem pre_word : ∀ (U w t : List UInt8), (32 : UInt8) ∉ U → (32 : UInt8) ∉ w → (U ++ [32]).isPrefixOf (w ++ 32 :: t) = (U == w)
  | [], [], t, _, _ => by simp [List.isPrefixOf]
  | [], b :: w, t, _, h => by
    simp only [List.mem_cons, not_or] at h
    have hb : ((32 : UInt8) == b) = false := by rw [beq_eq_false_iff_ne]; exact h.1
    simp only [List.nil_append, List.cons_append, List.isPrefixOf, hb, Bool.false_and]
    rfl
  | a :: U, [], t, h, _ => by
    simp only [List.mem_cons, not_or] at h
    have ha : (a == (32 : UInt8)) = false := by rw [beq_eq_false_iff_ne]; exact fun e => h.1 e.symm
    simp only [List.nil_append, List.cons_append, List.isPrefixOf, ha, Bool.false_and]
    rfl
  | a :: U, b :: w, t, h, h' => by
    simp only [List.mem_cons, not_or] at h h'
    simp only [List.cons_append, List.isPrefixOf]
    rw [pre_word U w t h.2 h'.2]
    rfl
theorem contains_join (U : List UInt8) (hU : (32 : UInt8) ∉ U) : ∀ ws : List (List UInt8), (∀ w ∈ ws, (32 : UInt8) ∉ w) → Lib.contains (joinW ws) (32 :: (U ++ [32])) = ws.any fun w => U == w
  | [], _ => by
    have : (32 :: (U ++ [32])).isPrefixOf [(32 : UInt8)] = false := by cases U <;> simp [List.isPrefixOf]
    rw [joinW, contains_step, this]
    simp [Lib.contains, Lib.index]
  | w :: r, h => by
    obtain ⟨t, ht⟩ := joinW_head r
    have ih := contains_join U hU r fun x hx => h x (by simp [hx])
    rw [joinW, contains_step, contains_skip _ w _ (h w (by simp)), ih, List.any_cons]
    congr 1
    rw [ht]
    show ((32 : UInt8) == 32 && (U ++ [32]).isPrefixOf (w ++ 32 :: t)) = _
    rw [pre_word U w t hU (h w (by simp))]
    rfl
end Go.Proofs.YtmfjfclpdmpncaaGreatDoor

/- The functions' numbers of operands and the aggregates' names, by both texts. Conditions: none. -/
namespace Go.Proofs.YtmfjfclpdmpncaaGreatDoor
set_option maxRecDepth 4000
open Go Go.Abs Go.Val
attribute [local irreducible] go SGo HasBody Ev ExtEv EvO EvS

def isS (s : ByteArray) (t : ByteArray) : Bool := s.toList == t.toList
def fun1 (s : ByteArray) : Bool := isS s ⟨#[105, 100]⟩ || (isS s ⟨#[116, 121, 112, 101]⟩ || (isS s ⟨#[108, 97, 98, 101, 108, 115]⟩ || (isS s ⟨#[115, 105, 122, 101]⟩ || (isS s ⟨#[108, 101, 110, 103, 116, 104]⟩ || (isS s ⟨#[110, 111, 100, 101, 115]⟩ ||
  (isS s ⟨#[101, 100, 103, 101, 115]⟩ || (isS s ⟨#[102, 105, 114, 115, 116]⟩ || (isS s ⟨#[108, 97, 115, 116]⟩ || (isS s ⟨#[115, 116, 97, 114, 116]⟩ || (isS s ⟨#[101, 110, 100]⟩ || (isS s ⟨#[97, 98, 115]⟩ || isS s ⟨#[116, 101, 120, 116]⟩)))))))))))
def fun2 (s : ByteArray) : Bool := isS s ⟨#[99, 111, 97, 108, 101, 115, 99, 101]⟩
def ariLo (s : ByteArray) : Int := bif fun1 s then 1 else bif fun2 s then 2 else 0
def ariHi (s : ByteArray) : Int := bif fun1 s then 1 else bif fun2 s then 4 else 0
def aggF (s : ByteArray) : Bool := isS s ⟨#[99, 111, 117, 110, 116]⟩ || (isS s ⟨#[115, 117, 109]⟩ || (isS s ⟨#[109, 105, 110]⟩ || (isS s ⟨#[109, 97, 120]⟩ || (isS s ⟨#[97, 118, 103]⟩ || isS s ⟨#[99, 111, 108, 108, 101, 99, 116]⟩))))
theorem arity_ev (s : ByteArray) : Ev E 348 [.str s] (.tup [.int (ariLo s), .int (ariHi s)]) := by
  refine enter1 Tryz.func348 Tryz.ntmps348 rfl rfl fun w0 F0 O => ?_
  repeat' (first | refine zS rfl ?_ | refine qA ?_ | refine qB rfl ?_ | refine qD ?_ | refine qE ?_ | refine qF ?_ | refine qG ?_ | refine zT rfl ?_ | refine qM rfl rfl rfl ?_ | (refine qV rfl ?_ ?_ <;> intro _))
  all_goals simp_all [ariLo, ariHi, fun1, fun2, isS, Bool.cond_eq_ite]
theorem rarity_ev (s : ByteArray) : Ev E 367 [.str s] (.tup [.int (ariLo s), .int (ariHi s)]) := by
  refine enter1 Tryz.func367 Tryz.ntmps367 rfl rfl fun w0 F0 O => ?_
  repeat' (first | refine zS rfl ?_ | refine qA ?_ | refine qB rfl ?_ | refine qD ?_ | refine qE ?_ | refine qF ?_ | refine qG ?_ | refine zT rfl ?_ | refine qM rfl rfl rfl ?_ | (refine qV rfl ?_ ?_ <;> intro _))
  all_goals simp_all [ariLo, ariHi, fun1, fun2, isS, Bool.cond_eq_ite]
theorem agg_ev (s : ByteArray) : Ev E 349 [.str s] (.d (.bool (aggF s))) := by
  refine enter1 Tryz.func349 Tryz.ntmps349 rfl rfl fun w0 F0 O => ?_
  repeat' (first | refine zS rfl ?_ | refine qA ?_ | refine qB rfl ?_ | refine qD ?_ | refine qE ?_ | refine qF ?_ | refine qG ?_ | refine zT rfl ?_ | refine qL rfl rfl ?_ | (refine qV rfl ?_ ?_ <;> intro _))
  all_goals (refine congrArg D.bool ?_; simp_all [aggF, isS])
theorem ragg_ev (s : ByteArray) : Ev E 366 [.str s] (.d (.bool (aggF s))) := by
  refine enter1 Tryz.func366 Tryz.ntmps366 rfl rfl fun w0 F0 O => ?_
  repeat' (first | refine zS rfl ?_ | refine qA ?_ | refine qB rfl ?_ | refine qD ?_ | refine qE ?_ | refine qF ?_ | refine qG ?_ | refine zT rfl ?_ | refine qL rfl rfl ?_ | (refine qV rfl ?_ ?_ <;> intro _))
  all_goals (refine congrArg D.bool ?_; simp_all [aggF, isS])
end Go.Proofs.YtmfjfclpdmpncaaGreatDoor

/- Blank constants, numbers of operands, unused fields, by both texts. Conditions: none. -/
namespace Go.Proofs.YtmfjfclpdmpncaaGreatDoor
set_option maxRecDepth 4000
open Go Go.Abs Go.Val
attribute [local irreducible] go SGo HasBody Ev ExtEv EvO EvS

def blankF (v : V) : Bool := v.k == 0 && (v.n == 0 && (v.d == 0 && (s0 v.s && l0 v)))
theorem blank_ev (v : V) : Ev E 289 [enc v] (.d (.bool (blankF v))) := by
  refine enter1 Tryz.func289 Tryz.ntmps289 rfl rfl fun w0 F0 O => ?_
  repeat' (first | refine zS rfl ?_ | refine qA ?_ | refine qB rfl ?_ | refine qD ?_ | refine qL rfl rfl ?_ | (refine qY rfl rfl rfl rfl ?_ ?_ <;> intro _))
  all_goals (refine congrArg D.bool ?_; simp_all [blankF, s0, l0])
theorem rzero_ev (v : V) : Ev E 293 [enc v] (.d (.bool (blankF v))) := by
  refine enter1 Tryz.func293 Tryz.ntmps293 rfl rfl fun w0 F0 O => ?_
  repeat' (first | refine zS rfl ?_ | refine qA ?_ | refine qB rfl ?_ | refine qD ?_ | refine qL rfl rfl ?_ | (refine qY rfl rfl rfl rfl ?_ ?_ <;> intro _))
  all_goals (refine congrArg D.bool ?_; simp_all [blankF, s0, l0])
def kn0 (e : Ex) : Int := ((kidsE e).length : Int)
def opdF (e : Ex) : Bool :=
  bif e.op == 1 || e.op == 2 then kn0 e == 0 else
  bif e.op == 3 || (e.op == 4 || (e.op == 5 || (e.op == 6 || e.op == 21))) then kn0 e == 1 else
  bif e.op == 22 then decide (kn0 e ≤ 16) else
  bif e.op == 23 then ariLo e.nm == 0 || (decide (kn0 e ≥ ariLo e.nm) && decide (kn0 e ≤ ariHi e.nm)) else
  bif e.op == 24 then kn0 e == 1 || (kn0 e == 0 && (isS e.nm ⟨#[99, 111, 117, 110, 116]⟩ && !e.ds)) else kn0 e == 2
theorem ari_zero (s : ByteArray) : (ariHi s == 0) = (ariLo s == 0) := by
  unfold ariHi ariLo
  cases fun1 s <;> cases fun2 s <;> rfl
theorem operands_ev (e : Ex) : Ev E 284 [encE e] (.d (.bool (opdF e))) := by
  have ha := arity_ev e.nm
  refine enter1 Tryz.func284 Tryz.ntmps284 rfl rfl fun w0 F0 O => ?_
  repeat' (first | refine zS rfl ?_ | refine qA ?_ | refine qB rfl ?_ | refine qD ?_ | refine qE ?_ | refine qF ?_ | refine qG ?_ | refine qP rfl rfl rfl rfl rfl rfl b348 (ha) ?_ | refine zT rfl ?_ | refine qL rfl rfl ?_ | (refine qY rfl rfl rfl rfl ?_ ?_ <;> intro _) | (refine qV rfl ?_ ?_ <;> intro _))
  all_goals (refine congrArg D.bool ?_; simp_all [opdF, kn0, isS, Bool.cond_eq_ite] <;> first | rfl | (intro h; exfalso; omega) | (rw [show (ariLo e.nm == 0) = false by rw [beq_eq_false_iff_ne]; assumption]; rfl))
theorem roperands_ev (e : Ex) : Ev E 364 [encE e] (.d (.bool (opdF e))) := by
  have ha := rarity_ev e.nm
  have hz := ari_zero e.nm
  refine enter1 Tryz.func364 Tryz.ntmps364 rfl rfl fun w0 F0 O => ?_
  repeat' (first | refine zS rfl ?_ | refine qA ?_ | refine qB rfl ?_ | refine qD ?_ | refine qE ?_ | refine qF ?_ | refine qG ?_ | refine qP rfl rfl rfl rfl rfl rfl b367 (ha) ?_ | refine zT rfl ?_ | refine qL rfl rfl ?_ | (refine qY rfl rfl rfl rfl ?_ ?_ <;> intro _) | (refine qV rfl ?_ ?_ <;> intro _))
  all_goals (refine congrArg D.bool ?_; simp_all [opdF, kn0, isS, Bool.cond_eq_ite] <;> first | rfl | (intro h; exfalso; omega) | (rw [show (ariLo e.nm == 0) = false by rw [beq_eq_false_iff_ne]; assumption]; rfl))
def namF (op : Int) : Bool := op == 2 || (op == 3 || (op == 4 || (op == 23 || op == 24)))
theorem named_ev (op : Int) : Ev E 365 [.int op] (.d (.bool (namF op))) := by
  refine enter1 Tryz.func365 Tryz.ntmps365 rfl rfl fun w0 F0 O => ?_
  repeat' (first | refine zS rfl ?_ | refine qA ?_ | refine qB rfl ?_ | refine qD ?_ | refine qL rfl rfl ?_ | (refine qY rfl rfl rfl rfl ?_ ?_ <;> intro _))
  all_goals (refine congrArg D.bool ?_; simp_all [namF] <;> (rw [Bool.eq_iff_iff]; simp [*]))
def spareF (e : Ex) : Bool := (e.op == 1 || blankF e.v) && ((namF e.op || isS e.nm ⟨#[]⟩) && (e.op == 24 || !e.ds))
theorem spare_ev (e : Ex) : Ev E 285 [encE e] (.d (.bool (spareF e))) := by
  have hb := blank_ev e.v
  refine enter1 Tryz.func285 Tryz.ntmps285 rfl rfl fun w0 F0 O => ?_
  repeat' (first | refine zS rfl ?_ | refine qA ?_ | refine qB rfl ?_ | refine qD ?_ | refine qP rfl rfl rfl rfl rfl rfl b289 (hb) ?_ | refine qL rfl rfl ?_ | refine zX rfl rfl rfl rfl ?_ | refine zW rfl rfl rfl rfl ?_ | (refine qY rfl rfl rfl rfl ?_ ?_ <;> intro _))
  all_goals (refine congrArg D.bool ?_; simp_all [spareF, namF, isS])
def constF (v : V) : Bool := blankF v || ((v.k == 1 || (v.k == 2 || v.k == 4)) && Val.okV v)
theorem constant_ev (v : V) : Ev E 286 [enc v] (.d (.bool (constF v))) := by
  have hb := blank_ev v
  have hv := Valid_ev ixOK v
  refine enter1 Tryz.func286 Tryz.ntmps286 rfl rfl fun w0 F0 O => ?_
  repeat' (first | refine zS rfl ?_ | refine qA ?_ | refine qB rfl ?_ | refine qD ?_ | refine qP rfl rfl rfl rfl rfl rfl b289 (hb) ?_ | refine qP rfl rfl rfl rfl rfl rfl b257 (hv) ?_ | refine qL rfl rfl ?_ | (refine qY rfl rfl rfl rfl ?_ ?_ <;> intro _))
  all_goals (refine congrArg D.bool ?_; simp_all [constF])
end Go.Proofs.YtmfjfclpdmpncaaGreatDoor

/- The size of an expression, by both texts. Conditions: at most a million parts. -/
namespace Go.Proofs.YtmfjfclpdmpncaaGreatDoor
set_option maxRecDepth 4000
open Go Go.Abs Go.Val
attribute [local irreducible] go SGo HasBody Ev ExtEv EvO EvS

mutual
def nd : Ex → Nat
  | .mk _ _ _ _ l => ndL l + 1
def ndL : List Ex → Nat
  | [] => 0
  | x :: r => nd x + ndL r
end
theorem nd_eq (e : Ex) : nd e = ndL e.ks + 1 := by cases e; simp [nd, Ex.ks]
theorem ndL_mem : ∀ {l : List Ex} {x : Ex}, x ∈ l → nd x ≤ ndL l
  | [], x, h => by simp at h
  | y :: r, x, h => by
    simp only [ndL]
    rcases List.mem_cons.1 h with e | e
    · rw [e]; omega
    · have := ndL_mem e; omega
theorem ndL_drop {l : List Ex} {i : Nat} {x : Ex} (h : l[i]? = some x) : ndL (l.drop i) = nd x + ndL (l.drop (i + 1)) := by
  rw [drop_at h]; rfl
structure SNd (l : List Ex) where
  i : Nat
  n : Nat
  hi : i ≤ l.length
  ok : ndL l + 1 = n + ndL (l.drop i)
theorem sizeE_ev (e : Ex) : nd e ≤ 1000000 → Ev E 198 [encE e] (.d (.int (nd e))) := by
  refine xind (P := fun e => nd e ≤ 1000000 → Ev E 198 [encE e] (.d (.int (nd e)))) (fun op v nm ds ks ih hb => ?_) e
  refine Ev.fit fun hfit => ?_
  obtain ⟨-, -, -, hmax, -⟩ := fit_encE (hfit (encE (.mk op v nm ds ks)) (by simp))
  simp only [Ex.ks] at hmax
  have hlen : (kidsE (.mk op v nm ds ks)).length = ks.length := kidsE_len _
  have hnd : nd (.mk op v nm ds ks) = ndL ks + 1 := nd_eq _
  rw [hnd] at hb ⊢
  refine enter1 Tryz.func198 Tryz.ntmps198 rfl rfl fun w0 F0 O => ?_
  repeat' (first | refine zS rfl ?_ | refine qA ?_ | refine qB rfl ?_ | refine qD ?_ | refine qF ?_)
  refine go_loop_ (α := SNd ks) (fun p => ⟨[(3, .d (.int p.n)), (7, .d (.sl (kidsE (.mk op v nm ds ks)))), (8, .d (.int (kidsE (.mk op v nm ds ks)).length)), (9, .d (.int p.i))], []⟩) (fun p => ks.length - p.i) ⟨0, 1, by omega, by rw [List.drop_zero]; omega⟩ ((zle 0)) ?_
  rintro ⟨i, n, hi, ok⟩
  dsimp only
  rcases Nat.lt_or_ge i ks.length with hlt | hge
  · have hd1 : decide ((i : Int) < ((kidsE (.mk op v nm ds ks)).length : Int)) = true := by rw [hlen]; simpa using hlt
    have hx0 := List.getElem?_eq_getElem hlt
    generalize ks[i] = x at hx0
    have hx : (kidsE (.mk op v nm ds ks))[(i : Int).toNat]? = some (encE x) := kidsE_get (e := .mk op v nm ds ks) (by rw [Int.toNat_natCast]; exact hx0)
    have hdr := ndL_drop hx0
    have hm := ndL_mem (List.mem_of_getElem? hx0)
    have hs := ih x (List.mem_of_getElem? hx0) (by omega)
    repeat' (first | refine zS rfl ?_ | refine qA ?_ | refine qB rfl ?_ | refine qD ?_ | refine qE ?_ | refine qF ?_ | refine qG ?_ | refine qI (encE x) rfl (guardX_ok rfl) rfl rfl rfl rfl rfl rfl (by first | omega | decide) hx ?_ | refine qP rfl rfl rfl rfl rfl rfl b198 (hs) ?_ | refine zT rfl ?_)
    refine go_stop ?_
    refine ⟨⟨i + 1, n + nd x, by omega, by omega⟩, by dsimp only; omega, ?_⟩
    dsimp only
    rw [Int.natCast_add]
    exact (zle 0)
  · have hd1 : decide ((i : Int) < ((kidsE (.mk op v nm ds ks)).length : Int)) = false := by rw [hlen]; simp; omega
    have : ks.drop i = [] := List.drop_eq_nil_of_le hge
    rw [ok, this]
    repeat' (first | refine zS rfl ?_ | refine qA ?_ | refine qB rfl ?_ | refine qD ?_ | refine qH rfl ?_ | refine zU rfl ?_ | refine qL rfl rfl ?_ | exact zD)
theorem rsizeE_ev (e : Ex) : nd e ≤ 1000000 → Ev E 241 [encE e] (.d (.int (nd e))) := by
  refine xind (P := fun e => nd e ≤ 1000000 → Ev E 241 [encE e] (.d (.int (nd e)))) (fun op v nm ds ks ih hb => ?_) e
  refine Ev.fit fun hfit => ?_
  obtain ⟨-, -, -, hmax, -⟩ := fit_encE (hfit (encE (.mk op v nm ds ks)) (by simp))
  simp only [Ex.ks] at hmax
  have hlen : (kidsE (.mk op v nm ds ks)).length = ks.length := kidsE_len _
  have hnd : nd (.mk op v nm ds ks) = ndL ks + 1 := nd_eq _
  rw [hnd] at hb ⊢
  refine enter1 Tryz.func241 Tryz.ntmps241 rfl rfl fun w0 F0 O => ?_
  repeat' (first | refine zS rfl ?_ | refine qA ?_ | refine qB rfl ?_ | refine qD ?_ | refine qF ?_)
  refine go_loop_ (α := SNd ks) (fun p => ⟨[(1, .ptr 0 0), (3, .d (.int p.n)), (4, .d (.int p.i))], [.var 40 (.w (.d (encE (.mk op v nm ds ks))))]⟩) (fun p => ks.length - p.i) ⟨0, 1, by omega, by rw [List.drop_zero]; omega⟩ ((zle 1)) ?_
  rintro ⟨i, n, hi, ok⟩
  dsimp only
  rcases Nat.lt_or_ge i ks.length with hlt | hge
  · have hd1 : decide ((i : Int) < ((kidsE (.mk op v nm ds ks)).length : Int)) = true := by rw [hlen]; simpa using hlt
    have hx0 := List.getElem?_eq_getElem hlt
    generalize ks[i] = x at hx0
    have hx : (kidsE (.mk op v nm ds ks))[(i : Int).toNat]? = some (encE x) := kidsE_get (e := .mk op v nm ds ks) (by rw [Int.toNat_natCast]; exact hx0)
    have hdr := ndL_drop hx0
    have hm := ndL_mem (List.mem_of_getElem? hx0)
    have hs := ih x (List.mem_of_getElem? hx0) (by omega)
    repeat' (first | refine zS rfl ?_ | refine qA ?_ | refine qB rfl ?_ | refine qD ?_ | refine qE ?_ | refine qF ?_ | refine qG ?_ | refine qI (encE x) rfl (guardX_ok rfl) rfl rfl rfl rfl rfl rfl (by first | omega | decide) hx ?_ | refine qP rfl rfl rfl rfl rfl rfl b241 (hs) ?_ | refine zT rfl ?_)
    refine go_stop ?_
    refine ⟨⟨i + 1, n + nd x, by omega, by omega⟩, by dsimp only; omega, ?_⟩
    dsimp only
    rw [Int.natCast_add]
    exact (zle 1)
  · have hd1 : decide ((i : Int) < ((kidsE (.mk op v nm ds ks)).length : Int)) = false := by rw [hlen]; simp; omega
    have : ks.drop i = [] := List.drop_eq_nil_of_le hge
    rw [ok, this]
    repeat' (first | refine zS rfl ?_ | refine qA ?_ | refine qB rfl ?_ | refine qD ?_ | refine qH rfl ?_ | refine zU rfl ?_ | refine qL rfl rfl ?_ | exact zD)
end Go.Proofs.YtmfjfclpdmpncaaGreatDoor

/- The depth of an expression, by both texts. Conditions: depth at most a million. -/
namespace Go.Proofs.YtmfjfclpdmpncaaGreatDoor
set_option maxRecDepth 4000
open Go Go.Abs Go.Val
attribute [local irreducible] go SGo HasBody Ev ExtEv EvO EvS

mutual
def dp : Ex → Nat
  | .mk _ _ _ _ l => dpL l + 1
def dpL : List Ex → Nat
  | [] => 0
  | x :: r => max (dp x) (dpL r)
end
theorem dp_eq (e : Ex) : dp e = dpL e.ks + 1 := by cases e; simp [dp, Ex.ks]
theorem dpL_mem : ∀ {l : List Ex} {x : Ex}, x ∈ l → dp x ≤ dpL l
  | [], x, h => by simp at h
  | y :: r, x, h => by
    simp only [dpL]
    rcases List.mem_cons.1 h with e | e
    · rw [e]; omega
    · have := dpL_mem e; omega
theorem dpL_drop {l : List Ex} {i : Nat} {x : Ex} (h : l[i]? = some x) : dpL (l.drop i) = max (dp x) (dpL (l.drop (i + 1))) := by
  rw [drop_at h]; rfl
structure SDp (l : List Ex) where
  i : Nat
  n : Nat
  hi : i ≤ l.length
  ok : dpL l = max n (dpL (l.drop i))
theorem rdepth_ev (e : Ex) : dp e ≤ 1000000 → Ev E 240 [encE e] (.d (.int (dp e))) := by
  refine xind (P := fun e => dp e ≤ 1000000 → Ev E 240 [encE e] (.d (.int (dp e)))) (fun op v nm ds ks ih hb => ?_) e
  refine Ev.fit fun hfit => ?_
  obtain ⟨-, -, -, hmax, -⟩ := fit_encE (hfit (encE (.mk op v nm ds ks)) (by simp))
  simp only [Ex.ks] at hmax
  have hlen : (kidsE (.mk op v nm ds ks)).length = ks.length := kidsE_len _
  have hnd : dp (.mk op v nm ds ks) = dpL ks + 1 := dp_eq _
  rw [hnd] at hb ⊢
  refine enter1 Tryz.func240 Tryz.ntmps240 rfl rfl fun w0 F0 O => ?_
  repeat' (first | refine zS rfl ?_ | refine qA ?_ | refine qB rfl ?_ | refine qD ?_ | refine qF ?_)
  refine go_loop_ (α := SDp ks) (fun p => ⟨[(1, .ptr 0 0), (3, .d (.int p.n)), (4, .d (.int p.i))], [.var 40 (.w (.d (encE (.mk op v nm ds ks))))]⟩) (fun p => ks.length - p.i) ⟨0, 0, by omega, by rw [List.drop_zero]; omega⟩ ((zle 1)) ?_
  rintro ⟨i, n, hi, ok⟩
  dsimp only
  rcases Nat.lt_or_ge i ks.length with hlt | hge
  · have hd1 : decide ((i : Int) < ((kidsE (.mk op v nm ds ks)).length : Int)) = true := by rw [hlen]; simpa using hlt
    have hx0 := List.getElem?_eq_getElem hlt
    generalize ks[i] = x at hx0
    have hx : (kidsE (.mk op v nm ds ks))[(i : Int).toNat]? = some (encE x) := kidsE_get (e := .mk op v nm ds ks) (by rw [Int.toNat_natCast]; exact hx0)
    have hdr := dpL_drop hx0
    have hm := dpL_mem (List.mem_of_getElem? hx0)
    have hs := ih x (List.mem_of_getElem? hx0) (by omega)
    cases hgt : decide ((dp x : Int) > (n : Int)) with
    | true =>
      have hgt' := of_decide_eq_true hgt
      repeat' (first | refine zS rfl ?_ | refine qA ?_ | refine qB rfl ?_ | refine qD ?_ | refine qE ?_ | refine qF ?_ | refine qG ?_ | refine qI (encE x) rfl (guardX_ok rfl) rfl rfl rfl rfl rfl rfl (by first | omega | decide) hx ?_ | refine qP rfl rfl rfl rfl rfl rfl b240 (hs) ?_ | refine zT rfl ?_)
      refine go_stop ?_
      exact ⟨⟨i + 1, dp x, by omega, by omega⟩, by dsimp only; omega, (zle 1)⟩
    | false =>
      have hgt' := of_decide_eq_false hgt
      repeat' (first | refine zS rfl ?_ | refine qA ?_ | refine qB rfl ?_ | refine qD ?_ | refine qE ?_ | refine qF ?_ | refine qG ?_ | refine qI (encE x) rfl (guardX_ok rfl) rfl rfl rfl rfl rfl rfl (by first | omega | decide) hx ?_ | refine qP rfl rfl rfl rfl rfl rfl b240 (hs) ?_ | refine zT rfl ?_ | refine zU rfl ?_)
      refine go_stop ?_
      exact ⟨⟨i + 1, n, by omega, by omega⟩, by dsimp only; omega, (zle 1)⟩
  · have hd1 : decide ((i : Int) < ((kidsE (.mk op v nm ds ks)).length : Int)) = false := by rw [hlen]; simp; omega
    have : ks.drop i = [] := List.drop_eq_nil_of_le hge
    have hn : n = dpL ks := by rw [ok, this]; simp [dpL]
    subst hn
    repeat' (first | refine zS rfl ?_ | refine qA ?_ | refine qB rfl ?_ | refine qD ?_ | refine qH rfl ?_ | refine zU rfl ?_ | refine qL rfl rfl ?_ | exact zD)
theorem depth_ev (e : Ex) : dp e ≤ 1000000 → Ev E 197 [encE e] (.d (.int (dp e))) := by
  refine xind (P := fun e => dp e ≤ 1000000 → Ev E 197 [encE e] (.d (.int (dp e)))) (fun op v nm ds ks ih hb => ?_) e
  refine Ev.fit fun hfit => ?_
  obtain ⟨-, -, -, hmax, -⟩ := fit_encE (hfit (encE (.mk op v nm ds ks)) (by simp))
  simp only [Ex.ks] at hmax
  have hlen : (kidsE (.mk op v nm ds ks)).length = ks.length := kidsE_len _
  have hnd : dp (.mk op v nm ds ks) = dpL ks + 1 := dp_eq _
  rw [hnd] at hb ⊢
  refine enter1 Tryz.func197 Tryz.ntmps197 rfl rfl fun w0 F0 O => ?_
  repeat' (first | refine zS rfl ?_ | refine qA ?_ | refine qB rfl ?_ | refine qD ?_ | refine qF ?_)
  refine go_loop_ (α := SDp ks) (fun p => ⟨[(3, .d (.int p.n)), (7, .d (.sl (kidsE (.mk op v nm ds ks)))), (8, .d (.int (kidsE (.mk op v nm ds ks)).length)), (9, .d (.int p.i))], []⟩) (fun p => ks.length - p.i) ⟨0, 0, by omega, by rw [List.drop_zero]; omega⟩ ((zle 0)) ?_
  rintro ⟨i, n, hi, ok⟩
  dsimp only
  rcases Nat.lt_or_ge i ks.length with hlt | hge
  · have hd1 : decide ((i : Int) < ((kidsE (.mk op v nm ds ks)).length : Int)) = true := by rw [hlen]; simpa using hlt
    have hx0 := List.getElem?_eq_getElem hlt
    generalize ks[i] = x at hx0
    have hx : (kidsE (.mk op v nm ds ks))[(i : Int).toNat]? = some (encE x) := kidsE_get (e := .mk op v nm ds ks) (by rw [Int.toNat_natCast]; exact hx0)
    have hdr := dpL_drop hx0
    have hm := dpL_mem (List.mem_of_getElem? hx0)
    have hs := ih x (List.mem_of_getElem? hx0) (by omega)
    repeat' (first | refine zS rfl ?_ | refine qA ?_ | refine qB rfl ?_ | refine qD ?_ | refine qE ?_ | refine qF ?_ | refine qG ?_ | refine qI (encE x) rfl (guardX_ok rfl) rfl rfl rfl rfl rfl rfl (by first | omega | decide) hx ?_ | refine qP rfl rfl rfl rfl rfl rfl b197 (hs) ?_ | refine zT rfl ?_)
    refine go_stop ?_
    refine ⟨⟨i + 1, max n (dp x), by omega, by omega⟩, by dsimp only; omega, ?_⟩
    dsimp only
    rw [show ((max n (dp x) : Nat) : Int) = max (n : Int) (dp x : Int) by omega]
    exact (zle 0)
  · have hd1 : decide ((i : Int) < ((kidsE (.mk op v nm ds ks)).length : Int)) = false := by rw [hlen]; simp; omega
    have : ks.drop i = [] := List.drop_eq_nil_of_le hge
    have hn : n = dpL ks := by rw [ok, this]; simp [dpL]
    subst hn
    repeat' (first | refine zS rfl ?_ | refine qA ?_ | refine qB rfl ?_ | refine qD ?_ | refine qH rfl ?_ | refine zU rfl ?_ | refine qL rfl rfl ?_ | exact zD)
end Go.Proofs.YtmfjfclpdmpncaaGreatDoor

/- Upper case and the reserved words, by both texts. Conditions: none; for the program's test, a word of at most 1000 bytes. -/
namespace Go.Proofs.YtmfjfclpdmpncaaGreatDoor
set_option maxRecDepth 4000
open Go Go.Abs Go.Val Go.RowKit
attribute [local irreducible] go SGo HasBody Ev ExtEv EvO EvS

theorem blt_irr (i : Nat) : Nat.blt i i = false := by
  cases h : Nat.blt i i with
  | false => rfl
  | true => simp at h
def upN (n : Int) : Int := bif decide (n ≥ 97) && decide (n ≤ 122) then n - 32 else n
def rowU (s : ByteArray) (i : Nat) : List D := (List.range s.size).map fun j => D.imm (.int .u8 (bif Nat.blt j i then upN (byteAt s j) else byteAt s j))
def upL (s : ByteArray) (i : Nat) : List Int := (List.range i).map fun j => upN (byteAt s j)
def upF (s : ByteArray) : ByteArray := strOf (upL s s.size)
theorem upL_len (s : ByteArray) (i : Nat) : (upL s i).length = i := by simp [upL]
theorem upL_succ (s : ByteArray) (i : Nat) : upL s (i + 1) = upL s i ++ [upN (byteAt s i)] := by simp [upL, List.range_succ]
theorem rowU_len (s : ByteArray) (i : Nat) : (rowU s i).length = s.size := by simp [rowU]
theorem rowU_get {s : ByteArray} {i j : Nat} (h : j < s.size) : (rowU s i)[j]? = some (D.imm (.int .u8 (bif Nat.blt j i then upN (byteAt s j) else byteAt s j))) := by
  rw [rowU, List.getElem?_map, List.getElem?_range h]; rfl
theorem rowU_zero (s : ByteArray) : rowU s 0 = bytesD s := by
  refine List.ext_getElem? fun j => ?_
  rcases Nat.lt_or_ge j s.size with h | h
  · rw [rowU_get h, bytesD_at h]; rfl
  · rw [List.getElem?_eq_none (by rw [rowU_len]; exact h), List.getElem?_eq_none (by rw [bytesD_len]; exact h)]
theorem rowU_set {s : ByteArray} {i : Nat} (h : i < s.size) : (rowU s i).set i (.imm (.int .u8 (upN (byteAt s i)))) = rowU s (i + 1) := by
  refine List.ext_getElem? fun j => ?_
  rcases Nat.lt_or_ge j s.size with hj | hj
  · rw [List.getElem?_set, rowU_get hj, rowU_get hj]
    by_cases e : i = j
    · subst e
      rw [if_pos rfl, if_pos (by rw [rowU_len]; exact h), show Nat.blt i (i + 1) = true by simp]
      rfl
    · rw [if_neg e]
      have : Nat.blt j (i + 1) = Nat.blt j i := by rw [Bool.eq_iff_iff]; simp; omega
      rw [this]
  · rw [List.getElem?_eq_none (by rw [List.length_set, rowU_len]; exact hj), List.getElem?_eq_none (by rw [rowU_len]; exact hj)]
theorem rowU_same {s : ByteArray} {i : Nat} (h : i < s.size) (hn : upN (byteAt s i) = byteAt s i) : rowU s i = rowU s (i + 1) := by
  rw [← rowU_set h, hn]
  refine List.ext_getElem? fun j => ?_
  rw [List.getElem?_set]
  by_cases e : i = j
  · subst e
    rw [if_pos rfl, if_pos (by rw [rowU_len]; exact h), rowU_get h, blt_irr]
    rfl
  · rw [if_neg e]
theorem rowU_end (s : ByteArray) : rowU s s.size = (upL s s.size).map fun n => .imm (.int .u8 n) := by
  refine List.ext_getElem? fun j => ?_
  rcases Nat.lt_or_ge j s.size with hj | hj
  · rw [rowU_get hj, upL, List.map_map, List.getElem?_map, List.getElem?_range hj, show Nat.blt j s.size = true by simpa using hj]
    rfl
  · rw [List.getElem?_eq_none (by rw [rowU_len]; exact hj), List.getElem?_eq_none (by rw [List.length_map, upL_len]; exact hj)]
theorem strOf_snoc (ns : List Int) (n : Int) : strOf (ns ++ [n]) = strOf ns ++ strOf [n] := by
  unfold strOf
  rw [List.foldl_append]
  simp only [List.foldl_cons, List.foldl_nil]
  apply ByteArray.ext
  simp [ByteArray.push]
structure SUp (s : ByteArray) where
  i : Nat
  hi : i ≤ s.size
set_option maxHeartbeats 1000000 in
theorem upper_ev (s : ByteArray) : Ev E 303 [.str s] (.d (.str (upF s))) := Ev.fit fun hfit => by
  have hs := (hfit (.str s) (by simp)).str
  have hlen : (bytesD s).length = s.size := bytesD_len s
  refine enter1 Tryz.func303 Tryz.ntmps303 rfl rfl fun w0 F0 O => ?_
  repeat' (first | refine zS rfl ?_ | refine qA ?_ | refine qB rfl ?_ | refine qD ?_ | refine qF ?_ | refine go_bytes rfl rfl rfl rfl rfl rfl rfl rfl ?_)
  rw [hlen, ← rowU_zero]
  refine go_loop_ (α := SUp s) (fun p => ⟨[(3, .own 0), (8, .own 0), (9, .d (.int s.size)), (10, .d (.int p.i))], [.mrow 5 1 (rowU s p.i)]⟩) (fun p => s.size - p.i) ⟨0, by omega⟩ ((zle 1)) ?_
  rintro ⟨i, hi⟩
  dsimp only
  have hrl := rowU_len s i
  rcases Nat.lt_or_ge i s.size with hlt | hge
  · have hd1 : decide ((i : Int) < (s.size : Int)) = true := by simpa using hlt
    have hti : (i : Int).toNat = i := Int.toNat_natCast i
    have hx : (rowU s i)[(i : Int).toNat]? = some (.imm (.int .u8 (byteAt s i))) := by rw [hti, rowU_get hlt, blt_irr]; rfl
    have hb := byteAt_rng s i hlt
    cases h1 : decide (byteAt s i ≥ 97) with
    | false =>
      have hn : upN (byteAt s i) = byteAt s i := by unfold upN; rw [h1]; rfl
      repeat' (first | refine zS rfl ?_ | refine qA ?_ | refine qB rfl ?_ | refine qD ?_ | refine qE ?_ | refine qF ?_ | refine qG ?_ | refine go_indexM rfl rfl rfl rfl rfl rfl rfl rfl (by constructor <;> first | omega | (simp; omega) | decide) ?_ | refine go_loadM _ rfl rfl rfl rfl rfl rfl hx rfl ?_ | refine zT rfl ?_ | refine zU rfl ?_ | refine zW rfl rfl rfl rfl ?_)
      refine go_stop ?_
      refine ⟨⟨i + 1, by omega⟩, by dsimp only; omega, ?_⟩
      rw [rowU_same hlt hn]
      exact (zle 1)
    | true =>
      cases h2 : decide (byteAt s i ≤ 122) with
      | false =>
        have hn : upN (byteAt s i) = byteAt s i := by unfold upN; rw [h1, h2]; rfl
        repeat' (first | refine zS rfl ?_ | refine qA ?_ | refine qB rfl ?_ | refine qD ?_ | refine qE ?_ | refine qF ?_ | refine qG ?_ | refine go_indexM rfl rfl rfl rfl rfl rfl rfl rfl (by constructor <;> first | omega | (simp; omega) | decide) ?_ | refine go_loadM _ rfl rfl rfl rfl rfl rfl hx rfl ?_ | refine zT rfl ?_ | refine zU rfl ?_ | refine zX rfl rfl rfl rfl ?_)
        refine go_stop ?_
        refine ⟨⟨i + 1, by omega⟩, by dsimp only; omega, ?_⟩
        rw [rowU_same hlt hn]
        exact (zle 1)
      | true =>
        have h1' := of_decide_eq_true h1
        have h2' := of_decide_eq_true h2
        have hn : byteAt s i - 97 + 65 = upN (byteAt s i) := by unfold upN; rw [h1, h2]; simp; omega
        repeat' (first | refine zS rfl ?_ | refine qA ?_ | refine qB rfl ?_ | refine qD ?_ | refine qE ?_ | refine qF ?_ | refine qG ?_ | refine go_indexM rfl rfl rfl rfl rfl rfl rfl rfl (by constructor <;> first | omega | (simp; omega) | decide) ?_ | refine go_loadM _ rfl rfl rfl rfl rfl rfl hx rfl ?_ | refine go_storeM _ rfl rfl rfl rfl rfl rfl hx rfl rfl rfl ?_ | refine zT rfl ?_ | refine zX rfl rfl rfl rfl ?_)
        refine go_stop ?_
        refine ⟨⟨i + 1, by omega⟩, by dsimp only; omega, ?_⟩
        rw [hti, hn, rowU_set hlt]
        exact (zle 1)
  · have hd1 : decide ((i : Int) < (s.size : Int)) = false := by simp; omega
    obtain rfl : i = s.size := by omega
    repeat' (first | refine zS rfl ?_ | refine qA ?_ | refine qB rfl ?_ | refine qD ?_ | refine qH rfl ?_ | refine zU rfl ?_)
    refine go_frzS 0 rfl ?_
    dsimp only [frzT, frzX]
    have he := rowU_end s
    repeat' (first | refine zS rfl ?_ | refine qD ?_ | refine go_convB (upL s s.size) rfl rfl rfl rfl rfl rfl rfl rfl he ?_ | refine qL rfl rfl ?_ | exact zD)
set_option maxHeartbeats 1000000 in
theorem rupper_ev (s : ByteArray) : Ev E 355 [.str s] (.d (.str (upF s))) := Ev.fit fun hfit => by
  have hs := (hfit (.str s) (by simp)).str
  refine enter1 Tryz.func355 Tryz.ntmps355 rfl rfl fun w0 F0 O => ?_
  repeat' (first | refine zS rfl ?_ | refine qA ?_ | refine qB rfl ?_ | refine qD ?_ | refine qF ?_)
  refine go_loop_ (α := SUp s) (fun p => ⟨[(0, .d (.str s)), (3, .d (.str (strOf (upL s p.i)))), (4, .d (.int p.i))], []⟩) (fun p => s.size - p.i) ⟨0, by omega⟩ ((zle 0)) ?_
  rintro ⟨i, hi⟩
  dsimp only
  have hz : (strOf (upL s i)).size = i := by rw [strOf_size, upL_len]
  rcases Nat.lt_or_ge i s.size with hlt | hge
  · have hd1 : decide ((i : Int) < (s.size : Int)) = true := by simpa using hlt
    have hti : (i : Int).toNat = i := Int.toNat_natCast i
    have hb := byteAt_rng s i hlt
    rw [← hti] at hb
    have hz1 : ∀ n, (strOf [n]).size = 1 := fun n => strOf_size [n]
    have e1 : strOf (upL s (i + 1)) = strOf (upL s i) ++ strOf [upN (byteAt s (i : Int).toNat)] := by rw [upL_succ, strOf_snoc, hti]
    cases h1 : decide (byteAt s (i : Int).toNat ≥ 97) with
    | false =>
      have hn : upN (byteAt s (i : Int).toNat) = byteAt s (i : Int).toNat := by unfold upN; rw [h1]; rfl
      have hz2 := hz1 (byteAt s (i : Int).toNat)
      repeat' (first | refine zS rfl ?_ | refine qA ?_ | refine qB rfl ?_ | refine qD ?_ | refine qE ?_ | refine qF ?_ | refine qG ?_ | refine zT rfl ?_ | refine zU rfl ?_ | refine zW rfl rfl rfl rfl ?_)
      refine go_stop ?_
      refine ⟨⟨i + 1, by omega⟩, by dsimp only; omega, ?_⟩
      dsimp only
      rw [e1, hn]
      exact (zle 0)
    | true =>
      cases h2 : decide (byteAt s (i : Int).toNat ≤ 122) with
      | false =>
        have hn : upN (byteAt s (i : Int).toNat) = byteAt s (i : Int).toNat := by unfold upN; rw [h1, h2]; rfl
        have hz2 := hz1 (byteAt s (i : Int).toNat)
        repeat' (first | refine zS rfl ?_ | refine qA ?_ | refine qB rfl ?_ | refine qD ?_ | refine qE ?_ | refine qF ?_ | refine qG ?_ | refine zT rfl ?_ | refine zU rfl ?_ | refine zX rfl rfl rfl rfl ?_)
        refine go_stop ?_
        refine ⟨⟨i + 1, by omega⟩, by dsimp only; omega, ?_⟩
        dsimp only
        rw [e1, hn]
        exact (zle 0)
      | true =>
        have h1' := of_decide_eq_true h1
        have h2' := of_decide_eq_true h2
        have hn : upN (byteAt s (i : Int).toNat) = byteAt s (i : Int).toNat - 32 := by unfold upN; rw [h1, h2]; rfl
        have hz2 := hz1 (byteAt s (i : Int).toNat - 32)
        repeat' (first | refine zS rfl ?_ | refine qA ?_ | refine qB rfl ?_ | refine qD ?_ | refine qE ?_ | refine qF ?_ | refine qG ?_ | refine zT rfl ?_ | refine zX rfl rfl rfl rfl ?_)
        refine go_stop ?_
        refine ⟨⟨i + 1, by omega⟩, by dsimp only; omega, ?_⟩
        dsimp only
        rw [e1, hn]
        exact (zle 0)
  · have hd1 : decide ((i : Int) < (s.size : Int)) = false := by simp; omega
    obtain rfl : i = s.size := by omega
    repeat' (first | refine zS rfl ?_ | refine qA ?_ | refine qB rfl ?_ | refine qD ?_ | refine qH rfl ?_ | refine zU rfl ?_ | refine qL rfl rfl ?_ | exact zD)
end Go.Proofs.YtmfjfclpdmpncaaGreatDoor

/- The reserved words, by both texts. Conditions: for the program's test, a word of at most 1000 bytes. -/
namespace Go.Proofs.YtmfjfclpdmpncaaGreatDoor
set_option maxRecDepth 4000
open Go Go.Abs Go.Val Go.RowKit
attribute [local irreducible] go SGo HasBody Ev ExtEv EvO EvS

def wordsB : List ByteArray := [⟨#[77, 65, 84, 67, 72]⟩, ⟨#[79, 80, 84, 73, 79, 78, 65, 76]⟩, ⟨#[87, 72, 69, 82, 69]⟩, ⟨#[85, 78, 87, 73, 78, 68]⟩, ⟨#[65, 83]⟩, ⟨#[87, 73, 84, 72]⟩, ⟨#[68, 73, 83, 84, 73, 78, 67, 84]⟩, ⟨#[79, 82, 68, 69, 82]⟩, ⟨#[66, 89]⟩, ⟨#[65, 83, 67]⟩, ⟨#[68, 69, 83, 67]⟩, ⟨#[83, 75, 73, 80]⟩, ⟨#[76, 73, 77, 73, 84]⟩, ⟨#[82, 69, 84, 85, 82, 78]⟩, ⟨#[67, 82, 69, 65, 84, 69]⟩, ⟨#[77, 69, 82, 71, 69]⟩, ⟨#[83, 69, 84]⟩, ⟨#[82, 69, 77, 79, 86, 69]⟩, ⟨#[68, 69, 76, 69, 84, 69]⟩, ⟨#[68, 69, 84, 65, 67, 72]⟩, ⟨#[65, 78, 68]⟩, ⟨#[79, 82]⟩, ⟨#[78, 79, 84]⟩, ⟨#[73, 78]⟩, ⟨#[73, 83]⟩, ⟨#[78, 85, 76, 76]⟩, ⟨#[84, 82, 85, 69]⟩, ⟨#[70, 65, 76, 83, 69]⟩, ⟨#[87, 65, 76, 75]⟩, ⟨#[84, 82, 65, 73, 76]⟩, ⟨#[83, 73, 77, 80, 76, 69]⟩, ⟨#[83, 72, 79, 82, 84, 69, 83, 84]⟩, ⟨#[65, 78, 89]⟩]
def resF (s : ByteArray) : Bool := wordsB.any fun w => w.toList == (upF s).toList
theorem rwords_ev : Ev E 356 [] (.d (.sl (wordsB.map .str))) := by
  refine enter0 Tryz.func356 Tryz.ntmps356 rfl rfl fun w0 F0 O => ?_
  repeat' (first | refine zS rfl ?_ | refine qA ?_ | refine qB rfl ?_ | refine qD ?_ | refine qL rfl rfl ?_ | exact zD)
structure SWd (u : ByteArray) where
  i : Nat
  hi : i ≤ wordsB.length
  ok : (wordsB.any fun w => w.toList == u.toList) = ((wordsB.drop i).any fun w => w.toList == u.toList)
theorem rres_ev (s : ByteArray) : Ev E 294 [.str s] (.d (.bool (resF s))) := by
  have h1 := rupper_ev s
  have h2 := rwords_ev
  unfold resF
  have hwl : wordsB.length = 33 := rfl
  have h33 : (wordsB.map D.str).length = wordsB.length := by rw [List.length_map]
  generalize hw : wordsB.map D.str = ws at *
  generalize upF s = u at *
  refine enter1 Tryz.func294 Tryz.ntmps294 rfl rfl fun w0 F0 O => ?_
  repeat' (first | refine zS rfl ?_ | refine qA ?_ | refine qB rfl ?_ | refine qD ?_ | refine qF ?_ | refine qP rfl rfl rfl rfl rfl rfl b355 (h1) ?_ | refine qP rfl rfl rfl rfl rfl rfl b356 (h2) ?_)
  refine go_loop_ (α := SWd u) (fun p => ⟨[(3, .d (.str u)), (4, .d (.sl ws)), (5, .d (.int p.i))], []⟩) (fun p => wordsB.length - p.i) ⟨0, Nat.zero_le _, rfl⟩ ((zle 0)) ?_
  rintro ⟨i, hi, ok⟩
  dsimp only
  rcases Nat.lt_or_ge i wordsB.length with hlt | hge
  · have hd1 : decide ((i : Int) < (ws.length : Int)) = true := by rw [h33]; simpa using hlt
    have hx0 := List.getElem?_eq_getElem hlt
    generalize wordsB[i] = x at hx0
    have hx : ws[(i : Int).toNat]? = some (.str x) := by rw [← hw, Int.toNat_natCast, List.getElem?_map, hx0]; rfl
    rw [ok, drop_at hx0, List.any_cons]
    cases he : x.toList == u.toList with
    | true =>
      repeat' (first | refine zS rfl ?_ | refine qA ?_ | refine qB rfl ?_ | refine qD ?_ | refine qE ?_ | refine qF ?_ | refine qI (.str x) rfl (guardX_ok rfl) rfl rfl rfl rfl rfl rfl (by first | omega | decide) hx ?_ | refine zT rfl ?_ | refine qL rfl rfl ?_ | exact zD)
    | false =>
      repeat' (first | refine zS rfl ?_ | refine qA ?_ | refine qB rfl ?_ | refine qD ?_ | refine qE ?_ | refine qF ?_ | refine qG ?_ | refine qI (.str x) rfl (guardX_ok rfl) rfl rfl rfl rfl rfl rfl (by first | omega | decide) hx ?_ | refine zT rfl ?_ | refine zU rfl ?_)
      refine go_stop ?_
      exact ⟨⟨i + 1, by omega, by rw [ok, drop_at hx0, List.any_cons, he, Bool.false_or]⟩, by dsimp only; omega, (zle 0)⟩
  · have hd1 : decide ((i : Int) < (ws.length : Int)) = false := by rw [h33]; simp; omega
    rw [ok, List.drop_eq_nil_of_le hge]
    repeat' (first | refine zS rfl ?_ | refine qA ?_ | refine qB rfl ?_ | refine qD ?_ | refine qH rfl ?_ | refine zU rfl ?_ | refine qL rfl rfl ?_ | exact zD)

/-! ## The program's test -/
def upB (b : UInt8) : UInt8 := UInt8.ofNat (upN b.toNat).toNat
theorem strOf_list (ns : List Int) : (strOf ns).data.toList = ns.map fun n => UInt8.ofNat n.toNat := by
  have key : ∀ (ns : List Int) (r : ByteArray), (ns.foldl (fun r n => r.push (UInt8.ofNat n.toNat)) r).data.toList = r.data.toList ++ ns.map fun n => UInt8.ofNat n.toNat := by
    intro ns
    induction ns with
    | nil => intro r; simp
    | cons n ns ih =>
      intro r
      rw [List.foldl_cons, ih]
      simp [ByteArray.push]
  have := key ns ByteArray.empty
  unfold strOf
  rw [this]
  simp
theorem upF_list (s : ByteArray) : (upF s).data.toList = s.data.toList.map upB := by
  unfold upF
  rw [strOf_list]
  refine List.ext_getElem? fun j => ?_
  have hl : s.data.toList.length = s.size := by simp
  rcases Nat.lt_or_ge j s.size with hj | hj
  · have hx := List.getElem?_eq_getElem (show j < s.data.toList.length by omega)
    rw [List.getElem?_map, upL, List.getElem?_map, List.getElem?_range hj, List.getElem?_map, hx]
    simp only [Option.map_some, upB, byteAt, List.getD_eq_getElem?_getD, hx, Option.getD_some]
  · rw [List.getElem?_eq_none (by rw [List.length_map, upL_len]; exact hj), List.getElem?_eq_none (by rw [List.length_map]; omega)]
theorem upB_32 (b : UInt8) : upB b = 32 ↔ b = 32 := by
  have key : ∀ c : Fin 256, (upB (UInt8.ofFin c) = 32) = (UInt8.ofFin c = 32) := by
    intro c
    revert c
    decide +kernel
  have hb : b = UInt8.ofFin b.toFin := by rfl
  rw [hb]
  exact iff_of_eq (key b.toFin)
theorem contains_blank : ∀ l : List UInt8, Lib.contains l [32] = decide ((32 : UInt8) ∈ l)
  | [] => by simp [Lib.contains, Lib.index]
  | b :: l => by
    rw [contains_step, contains_blank l]
    have : ([32] : List UInt8).isPrefixOf (b :: l) = ((32 : UInt8) == b) := by simp only [List.isPrefixOf, Bool.and_true]
    rw [this, Bool.eq_iff_iff, Bool.or_eq_true, beq_iff_eq, decide_eq_true_eq, decide_eq_true_eq, List.mem_cons]
theorem up_blank (s : ByteArray) : (32 : UInt8) ∈ (upF s).data.toList ↔ (32 : UInt8) ∈ s.data.toList := by
  rw [upF_list, List.mem_map]
  constructor
  · rintro ⟨b, h1, h2⟩
    rw [(upB_32 b).1 h2] at h1
    exact h1
  · intro h
    exact ⟨32, h, (upB_32 32).2 rfl⟩
theorem words_blank : ∀ w ∈ wordsB.map (·.data.toList), (32 : UInt8) ∉ w := by
  have : (wordsB.map (·.data.toList)).all (fun w => !w.contains 32) = true := by decide
  intro w hw hm
  have := List.all_eq_true.1 this w hw
  simp [List.contains_iff_mem] at this
  exact this hm
theorem any_words (U : List UInt8) : ((wordsB.map (·.data.toList)).any fun w => U == w) = wordsB.any fun w => w.data.toList == U := by
  rw [List.any_map]
  congr 1
  funext w
  simp only [Function.comp]
  rw [Bool.eq_iff_iff, beq_iff_eq, beq_iff_eq]
  exact ⟨fun h => h.symm, fun h => h.symm⟩
theorem resF_data (s : ByteArray) : resF s = wordsB.any fun w => w.data.toList == (upF s).data.toList := by
  unfold resF
  simp only [ByteArray.toList_eq]
/-- What the program computes of the two searches. -/
theorem res_eq (s : ByteArray) (h : Lib.contains s.data.toList [32] = false) : Lib.contains (joinW (wordsB.map (·.data.toList))) (32 :: ((upF s).data.toList ++ [32])) = resF s := by
  rw [contains_blank, decide_eq_false_iff_not] at h
  rw [contains_join _ (fun hm => h ((up_blank s).1 hm)) _ words_blank, any_words, resF_data]
theorem res_blank (s : ByteArray) (h : Lib.contains s.data.toList [32] = true) : resF s = false := by
  rw [contains_blank, decide_eq_true_eq] at h
  rw [resF_data, List.any_eq_false]
  intro w hw he
  have e := eq_of_beq he
  refine words_blank _ (List.mem_map_of_mem hw) ?_
  rw [e]
  exact (up_blank s).2 h
theorem contains_ev (s sub : ByteArray) (hs : s.size < 4294967281) : Ev E 302 [.str s, .str sub] (.d (.bool (Lib.contains s.data.toList sub.data.toList))) := by
  refine of_lib2 rfl fun w F hG _ _ => ?_
  obtain ⟨-, -, m, hm⟩ := hG.2
  refine (Tryz.strings_Contains s sub m w hs hm).mono ?_
  rintro e w' ⟨rfl, rfl⟩
  exact ⟨rfl, Below.refl _ _⟩
end Go.Proofs.YtmfjfclpdmpncaaGreatDoor
