/- From rows' readings to values; the listed variables as the engine wants them; a world for the witnesses; What smallness gives: short lists and short texts; Plain laws of the orders: antisymmetry, symmetry; Plain laws of the orders: the order of values is transitive, and 0 for identical values alone; The library's stable sort on lists: what it does to a list, that the result is the list in another order, that it is sorted, and that such a list is unique; The library's merge in place, its stable sort: sorted, the same list in another order; uniqueness; the specification's sort by insertion; Rows. Conditions: each part's own, as it says. -/
import Derived.Test.YtjgmakalledclaaGreatDoorMB
import Derived.Test.YtjgmakalledclaaGreatDoorGB
import Derived.Test.YtjgmakalledclaaGreatDoorRows
import Derived.Test.YtjgmakalledclaaGreatDoorTie
import Derived.ProofKit
import Derived.Test.YtjgmakalledclaaGreatDoorGC
set_option linter.unusedVariables false
set_option linter.unusedSimpArgs false
namespace Go.Proofs.YtjgmakalledclaaGreatDoor
set_option maxRecDepth 4000
open Go Go.Abs Go.Val Go.RowKit Go.ChangeShapes Go.WideShapes Go.Proofs.Tryz
theorem ty_V : ∀ {t : TypeId} {x : D}, HasTy Tryz.prog t x → (t = 35 → ∃ v, x = enc v) ∧ (t = 22 → ∃ l, x = .sl (encL l)) := by
 intro t x h
 induction h with
 | bool b h => exact ⟨fun e => (by subst e; rw [underlying35] at h; cases h), fun e => (by subst e; rw [underlying22] at h; cases h)⟩
 | int n h => exact ⟨fun e => (by subst e; rw [underlying35] at h; cases h), fun e => (by subst e; rw [underlying22] at h; cases h)⟩
 | str s h => exact ⟨fun e => (by subst e; rw [underlying35] at h; cases h), fun e => (by subst e; rw [underlying22] at h; cases h)⟩
 | arr ps h _ _ => exact ⟨fun e => (by subst e; rw [underlying35] at h; cases h), fun e => (by subst e; rw [underlying22] at h; cases h)⟩
 | sl xs h hx ih =>
  refine ⟨fun e => (by subst e; rw [underlying35] at h; cases h), fun e => ?_⟩
  subst e
  rw [underlying22] at h
  cases h
  have : ∀ ys : List D, (∀ y ∈ ys, ∃ v, y = enc v) → ∃ l, ys = encL l := by
   intro ys
   induction ys with
   | nil => exact fun _ => ⟨[], by simp [encL]⟩
   | cons y r ihr =>
    intro hy
    obtain ⟨v, rfl⟩ := hy y (by simp)
    obtain ⟨l, rfl⟩ := ihr fun z hz => hy z (by simp [hz])
    exact ⟨v :: l, by simp [encL, enc]⟩
  obtain ⟨l, rfl⟩ := this xs fun y hy => (ih y hy).1 rfl
  exact ⟨l, rfl⟩
 | struct parts h hl hp ih =>
  refine ⟨fun e => ?_, fun e => (by subst e; rw [underlying22] at h; cases h)⟩
  subst e
  rw [underlying35] at h
  cases h
  match parts, hl with
  | [p0, p1, p2, p3, p4], _ =>
   obtain ⟨k, rfl⟩ := HasTy.int_inv underlying3 (hp 0 _ p0 rfl rfl)
   obtain ⟨n, rfl⟩ := HasTy.int_inv underlying3 (hp 1 _ p1 rfl rfl)
   obtain ⟨d, rfl⟩ := HasTy.int_inv underlying3 (hp 2 _ p2 rfl rfl)
   obtain ⟨s, rfl⟩ := HasTy.str_inv underlying9 (hp 3 _ p3 rfl rfl)
   obtain ⟨l, rfl⟩ := (ih 4 _ p4 rfl rfl).2 rfl
   exact ⟨.mk k n d s l, rfl⟩
theorem ty_val {x : D} (h : HasTy Tryz.prog 35 x) : ∃ v, x = enc v := (ty_V h).1 rfl
def tys : List TypeId := [3, 9, 22, 35, 58]
theorem tys_ok : closedB Tryz.prog tys = true := by kernel_rfl
noncomputable def seatLaid : List (String × DataW Unit) := Rows.valueRowsRow.laid
theorem gi_of {W : World} (hL : laidMetH Tryz.prog seatLaid W) (hS : W.ShapedOpen Tryz.prog) : E.GI W (F0 W) := by
 rw [MakeChecks.laidMetH_plain _ _ _ (by kernel_rfl)] at hL
 obtain ⟨ps, hLV, -⟩ := hL
 have hlt : ∀ {g : Nat} {v : Value}, W.cell? ⟨g, 0, none⟩ = some v → F0 W g := fun {g v} h => by
  unfold F0
  rcases Nat.lt_or_ge g W.heap.size with h' | h'
  ·exact h'
  ·unfold World.cell? at h
   simp only at h
   rw [Array.getElem?_eq_none h'] at h
   cases h
 refine ⟨fun e he => ?_, ⟨?_, ?_⟩, ?_, ?_⟩
 ·simp only [E, seatG, List.mem_singleton] at he
  subst he
  obtain ⟨x, hm, hs⟩ := listed_D tys tys_ok hLV "graphdb/frac.zero" Rows.laid_graphdb_frac_zero 0 58 (by simp [seatLaid, Rows.valueRowsRow]) (by kernel_rfl) (by kernel_rfl) (by decide)
  obtain ⟨parts, rfl, hl, hp⟩ := Says.agg_inv hs
  match parts, hl with
  | [p0, p1], _ =>
   have e0 := Says.int_inv (hp 0 _ p0 rfl rfl)
   have e1 := Says.int_inv (hp 1 _ p1 rfl rfl)
   subst e0 e1
   exact hm
 ·have ht : Lib.TabIs Tryz.prog W "internal/strconv.uint64pow10" .u64 Lib.pow10Tab :=
   listed_tab hLV "internal/strconv.uint64pow10" .u64 Lib.pow10Tab 3 226 133 20 (by
    have : (Lib.tabData .u64 Lib.pow10Tab : DataW Unit) = Rows.laid_internal_strconv_uint64pow10 := by rfl
    rw [this]
    simp [seatLaid, Rows.valueRowsRow]) (by kernel_rfl) (by kernel_rfl) underlying226 underlying133 (by kernel_rfl) (by kernel_rfl)
  unfold Lib.TabIs World.var? at ht
  have hg : Tryz.prog.globalNamed "internal/strconv.uint64pow10" = some 3 := by kernel_rfl
  rw [hg] at ht
  simp only [Option.bind_some] at ht
  unfold F0
  rcases Nat.lt_or_ge 3 W.heap.size with h | h
  ·exact h
  ·rw [Array.getElem?_eq_none h] at ht; cases ht
 ·exact listed_tab hLV "internal/strconv.uint64pow10" .u64 Lib.pow10Tab 3 226 133 20 (by
    have : (Lib.tabData .u64 Lib.pow10Tab : DataW Unit) = Rows.laid_internal_strconv_uint64pow10 := by rfl
    rw [this]
    simp [seatLaid, Rows.valueRowsRow]) (by kernel_rfl) (by kernel_rfl) underlying226 underlying133 (by kernel_rfl) (by kernel_rfl)
 ·obtain ⟨m, hm⟩ := cell_of_shapedOpen_int (P := Tryz.prog) (g := 4) (t := 3) (zero := #[.int .i64 0]) hS (by decide +kernel) (by kernel_rfl) (by decide) (by kernel_rfl) (by kernel_rfl) underlying3
  exact hlt hm
 ·exact cell_of_shapedOpen_int (P := Tryz.prog) (g := 4) (t := 3) (zero := #[.int .i64 0]) hS (by decide +kernel) (by kernel_rfl) (by decide) (by kernel_rfl) (by kernel_rfl) underlying3
noncomputable def wit (os : Os) : World :=
 { World.doorLaid Tryz.prog 400 os with heap := (World.doorLaid Tryz.prog 400 os).heap.modify 5 fun o => match o with | .cells _ t z => .cells (tabRow Rows.laid_unicode_utf8_first) t z | o => o }
set_option maxRecDepth 100000 in
theorem wit_met (os : Os) (args : Array Value) : laidMetH Tryz.prog seatLaid ((wit os).forCall (fun _ _ => 0) ⟨#[], args, []⟩).memory :=
 laidMetH_of_parts3 (fuel := 8) (laidMet_of_run' 8 (by kernel_rfl) (by kernel_rfl)) (by kernel_rfl) (by kernel_rfl)
set_option maxRecDepth 100000 in
theorem wit_shaped (os : Os) (args : Array Value) : ((wit os).forCall (fun _ _ => 0) ⟨#[], args, []⟩).Shaped Tryz.prog := World.shaped_of_RefB (by kernel_rfl) (by kernel_rfl)
theorem seat_own : ownKnob Tryz.prog.godebug = none := by kernel_rfl
theorem seat_out : laidOutB Tryz.prog = true := by kernel_rfl
end Go.Proofs.YtjgmakalledclaaGreatDoor
namespace Go.Proofs.YtjgmakalledclaaGreatDoor
set_option maxRecDepth 4000
open Go Go.Abs Go.Val Go.RowKit Go.Proofs.Tryz
mutual
def cost : V → Nat
 | .mk _ _ _ s l => 1 + s.size / 50 + costL l
def costL : List V → Nat
 | [] => 0
 | v :: r => cost v + costL r
end
theorem cost_eq (v : V) : cost v = 1 + v.s.size / 50 + costL v.l := by cases v; simp [cost, V.s, V.l]
theorem weighL_cost (f : V → Int → Int) : ∀ (l : List V), (∀ x ∈ l, ∀ left, 0 ≤ f x left → (cost x : Int) + f x left ≤ left) → ∀ left, 0 ≤ weighL f l left → (costL l : Int) + weighL f l left ≤ left
 | [], _, left, h => by simp [weighL, costL]
 | x :: r, hf, left, h => by
  simp only [weighL] at h ⊢
  cases hd : decide (left ≥ 0) with
  | false =>
   rw [hd] at h
   simp only [cond_false] at h
   have := of_decide_eq_false hd
   omega
  | true =>
   rw [hd] at h
   simp only [cond_true] at h ⊢
   have ih := weighL_cost f r (fun y hy => hf y (by simp [hy])) (f x left) h
   have hx := hf x (by simp) left (by omega)
   simp only [costL]
   omega
theorem weighF_cost : ∀ (m : Nat) (v : V) (left : Int), 0 ≤ weighF m v left → (cost v : Int) + weighF m v left ≤ left
 | 0, v, left, h => by simp only [weighF] at h; omega
 | m + 1, v, left, h => by
  simp only [weighF] at h ⊢
  have := weighL_cost (weighF m) v.l (fun x _ l hl => weighF_cost m x l hl) _ h
  rw [cost_eq]
  have e : (v.s.size : Int).tdiv 50 = ((v.s.size / 50 : Nat) : Int) := by rw [Int.tdiv_eq_ediv_of_nonneg (by omega)]; rfl
  rw [e] at this ⊢
  omega
theorem costL_len : ∀ l : List V, l.length ≤ costL l
 | [] => Nat.le_refl _
 | v :: r => by
  have := costL_len r
  have := cost_eq v
  simp only [costL, List.length_cons]
  omega
theorem costL_mem : ∀ {l : List V} {x : V}, x ∈ l → cost x ≤ costL l
 | [], x, h => by simp at h
 | v :: r, x, h => by
  simp only [costL]
  rcases List.mem_cons.1 h with e | e
  ·rw [e]; omega
  ·have := costL_mem e; omega
theorem nar_cost (v : V) : cost v ≤ 1000000 → nar v = true := by
 refine vind (P := fun v => cost v ≤ 1000000 → nar v = true) (fun k n d s l ih h => ?_) v
 have hl : ∀ l : List V, (∀ x ∈ l, cost x ≤ 1000000 → nar x = true) → costL l ≤ 1000000 → narL l = true := by
  intro l
  induction l with
  | nil => intro _ _; simp [narL]
  | cons a r ihr =>
   intro hx hc
   simp only [costL] at hc
   simp only [narL, Bool.and_eq_true]
   exact ⟨hx a (by simp) (by omega), ihr (fun x hm => hx x (by simp [hm])) (by omega)⟩
 simp only [cost] at h
 have := costL_len l
 simp only [nar, Bool.and_eq_true, decide_eq_true_eq]
 exact ⟨by omega, hl l ih (by omega)⟩
theorem join_len_le (sep : List UInt8) (c : V → Nat) : ∀ l : List V, sep.length ≤ 2 → (∀ x ∈ l, (txt x).length + 2 ≤ c x) → (Lib.join (l.map txt) sep).length ≤ (l.map c).sum
 | [], _, _ => by simp [Lib.join_nil]
 | x :: r, hs, h => by
  have key : ∀ q : List V, (∀ x ∈ q, (txt x).length + 2 ≤ c x) → (Lib.joinTail sep (q.map txt)).length ≤ (q.map c).sum := by
   intro q
   induction q with
   | nil => intro _; simp [Lib.joinTail]
   | cons y q ih =>
    intro hq
    have e : Lib.joinTail sep ((y :: q).map txt) = (sep ++ txt y) ++ Lib.joinTail sep (q.map txt) := rfl
    have h1 := hq y (by simp)
    have h2 := ih fun z hz => hq z (by simp [hz])
    rw [e, List.length_append, List.length_append]
    simp only [List.map_cons, List.sum_cons]
    omega
  have h1 := h x (by simp)
  have h2 := key r fun z hz => h z (by simp [hz])
  rw [List.map_cons, Lib.join_cons, List.length_append]
  simp only [List.map_cons, List.sum_cons]
  omega
theorem sum_cost (l : List V) : (l.map fun v => 150 * cost v).sum = 150 * costL l := by
 induction l with
 | nil => rfl
 | cons v r ih => simp only [List.map_cons, List.sum_cons, costL, ih]; omega
theorem okV_2 {n d : Int} {s : ByteArray} {l : List V} (h : Val.okV (.mk 2 n d s l) = true) : inM n = true := by
 unfold Val.okV at h
 rw [okN_flat 8 2 n d s l (by omega) (by omega)] at h
 simp [okFlat, V.k, V.n, V.d, V.s, V.l] at h
 exact h.2
theorem okV_56 {k n d : Int} {s : ByteArray} {l : List V} (hk : k = 5 ∨ k = 6) (h : Val.okV (.mk k n d s l) = true) : 1 ≤ n ∧ n ≤ 1000000 := by
 unfold Val.okV at h
 rw [okN_flat 8 k n d s l (by omega) (by omega)] at h
 rcases hk with rfl | rfl
 ·simp [okFlat, V.k, V.n, V.d, V.s, V.l] at h
  exact ⟨h.2.1, of_decide_eq_true h.2.2⟩
 ·simp [okFlat, V.k, V.n, V.d, V.s, V.l] at h
  exact ⟨h.2.1, of_decide_eq_true h.2.2⟩
theorem itoa_len' {n : Int} (h : -1000000000000000 ≤ n ∧ n ≤ 1000000000000000) : (Lib.itoa n).length ≤ 21 := Lib.itoa_length_le n (by omega) (by omega)
theorem txt_len (v : V) : (txt v).length + 2 ≤ 150 * cost v := by
 refine vind (P := fun v => (txt v).length + 2 ≤ 150 * cost v) (fun k n d s l ih => ?_) v
 have hc : 1 ≤ cost (.mk k n d s l) := by simp only [cost]; omega
 cases hok : Val.okV (.mk k n d s l) with
 | false =>
  have e : txt (.mk k n d s l) = [63] := by simp only [txt, hok]; rfl
  rw [e]
  simp only [List.length_cons, List.length_nil]
  omega
 | true =>
  have hk := okV_k hok
  simp only [V.k] at hk
  rcases hk with rfl | rfl | rfl | rfl | rfl | rfl | rfl | rfl | rfl
  ·have e : txt (.mk 0 n d s l) = [110, 117, 108, 108] := by simp only [txt, hok]; rfl
   rw [e]
   simp only [List.length_cons, List.length_nil]
   omega
  ·have e : txt (.mk 1 n d s l) = (bif n == 1 then [116, 114, 117, 101] else [102, 97, 108, 115, 101]) := by simp only [txt, hok]; rfl
   rw [e]
   cases n == 1 <;> simp only [cond_true, cond_false, List.length_cons, List.length_nil] <;> omega
  ·have e : txt (.mk 2 n d s l) = Lib.itoa n := by simp only [txt, hok]; rfl
   have := itoa_len' ((inM_iff n).1 (okV_2 hok))
   rw [e]
   omega
  ·have e : txt (.mk 3 n d s l) = Lib.itoa n ++ [47] ++ Lib.itoa d := by simp only [txt, hok]; rfl
   obtain ⟨h2, h3⟩ := okV_3 hok
   simp only [fval, Bool.and_eq_true, decide_eq_true_eq] at h3
   have h4 := (inM_iff n).1 h3.2.2.1
   have := itoa_len' h4
   have := itoa_len' (n := d) (by omega)
   rw [e, List.length_append, List.length_append]
   simp only [List.length_cons, List.length_nil]
   omega
  ·have e : txt (.mk 4 n d s l) = [39] ++ dbl s.data.toList ++ [39] := by simp only [txt, hok]; rfl
   have := dbl_len s.data.toList
   have : s.data.toList.length = s.size := by simp
   have hcc : cost (.mk 4 n d s l) = 1 + s.size / 50 + costL l := by simp only [cost]
   rw [e, List.length_append, List.length_append]
   simp only [List.length_cons, List.length_nil]
   omega
  ·have e : txt (.mk 5 n d s l) = [35] ++ Lib.itoa n := by simp only [txt, hok]; rfl
   have h5 := okV_56 (.inl rfl) hok
   have := itoa_len' (n := n) (by omega)
   rw [e, List.length_append]
   simp only [List.length_cons, List.length_nil]
   omega
  ·have e : txt (.mk 6 n d s l) = [64] ++ Lib.itoa n := by simp only [txt, hok]; rfl
   have h5 := okV_56 (.inr rfl) hok
   have := itoa_len' (n := n) (by omega)
   rw [e, List.length_append]
   simp only [List.length_cons, List.length_nil]
   omega
  ·have e : txt (.mk 7 n d s l) = [60] ++ Lib.join (l.map txt) [32] ++ [62] := by simp only [txt, hok, txtL_map]; rfl
   have hj := join_len_le [32] (fun v => 150 * cost v) l (by simp) ih
   rw [sum_cost] at hj
   have hcc : cost (.mk 7 n d s l) = 1 + s.size / 50 + costL l := by simp only [cost]
   rw [e, List.length_append, List.length_append]
   simp only [List.length_cons, List.length_nil]
   omega
  ·have e : txt (.mk 8 n d s l) = [91] ++ Lib.join (l.map txt) [44, 32] ++ [93] := by simp only [txt, hok, txtL_map]; rfl
   have hj := join_len_le [44, 32] (fun v => 150 * cost v) l (by simp) ih
   rw [sum_cost] at hj
   have hcc : cost (.mk 8 n d s l) = 1 + s.size / 50 + costL l := by simp only [cost]
   rw [e, List.length_append, List.length_append]
   simp only [List.length_cons, List.length_nil]
   omega
end Go.Proofs.YtjgmakalledclaaGreatDoor
namespace Go.Proofs.YtjgmakalledclaaGreatDoor
set_option maxRecDepth 4000
open Go Go.Abs Go.Val Go.RowKit Go.Proofs.Tryz
theorem ci_anti (x y : Int) : ci y x = - ci x y := by
 rcases (show x < y ∨ x = y ∨ x > y by omega) with h | h | h
 ·rw [ci_lt h, ci_gt h]; rfl
 ·subst h; rw [ci_eq]; rfl
 ·rw [ci_gt h, ci_lt h]
theorem bl_tri : ∀ a b : List UInt8, (Op.bytesLess a b = true ∧ Op.bytesLess b a = false ∧ a ≠ b) ∨ (Op.bytesLess a b = false ∧ Op.bytesLess b a = true ∧ a ≠ b) ∨ (Op.bytesLess a b = false ∧ Op.bytesLess b a = false ∧ a = b)
 | [], [] => .inr (.inr ⟨rfl, rfl, rfl⟩)
 | [], _ :: _ => .inl ⟨rfl, rfl, by simp⟩
 | _ :: _, [] => .inr (.inl ⟨rfl, rfl, by simp⟩)
 | x :: a, y :: b => by
  have ih := bl_tri a b
  simp only [Op.bytesLess]
  rcases Nat.lt_trichotomy x.toNat y.toNat with h | h | h
  ·have h1 : x < y := h
   have h2 : ¬ y < x := fun h' => Nat.lt_asymm h h'
   have h3 : x ≠ y := fun e => by subst e; omega
   have h4 : (y == x) = false := by rw [beq_eq_false_iff_ne]; exact fun e => h3 e.symm
   left
   refine ⟨by simp [h1], by simp [h2, h4], fun e => h3 (List.cons.inj e).1⟩
  ·have e : x = y := UInt8.toNat_inj.1 h
   subst e
   have h2 : ¬ x < x := fun h' => Nat.lt_irrefl _ h'
   simp only [h2, decide_false, beq_self_eq_true, Bool.true_and, Bool.false_or]
   rcases ih with ⟨i1, i2, i3⟩ | ⟨i1, i2, i3⟩ | ⟨i1, i2, i3⟩
   ·exact .inl ⟨i1, i2, fun e => i3 (List.cons.inj e).2⟩
   ·exact .inr (.inl ⟨i1, i2, fun e => i3 (List.cons.inj e).2⟩)
   ·exact .inr (.inr ⟨i1, i2, by rw [i3]⟩)
  ·have h1 : y < x := h
   have h2 : ¬ x < y := fun h' => Nat.lt_asymm h h'
   have h3 : x ≠ y := fun e => by subst e; omega
   have h4 : (x == y) = false := by rw [beq_eq_false_iff_ne]; exact h3
   right; left
   refine ⟨by simp [h2, h4], by simp [h1], fun e => h3 (List.cons.inj e).1⟩
theorem cs_cases (a b : ByteArray) : (cs a b = -1 ∧ cs b a = 1 ∧ a.toList ≠ b.toList) ∨ (cs a b = 1 ∧ cs b a = -1 ∧ a.toList ≠ b.toList) ∨ (cs a b = 0 ∧ cs b a = 0 ∧ a.toList = b.toList) := by
 unfold cs
 rcases bl_tri a.toList b.toList with ⟨h1, h2, h3⟩ | ⟨h1, h2, h3⟩ | ⟨h1, h2, h3⟩
 ·left
  have : (b.toList == a.toList) = false := by rw [beq_eq_false_iff_ne]; exact fun e => h3 e.symm
  rw [h1, h2, this]
  exact ⟨rfl, rfl, h3⟩
 ·right; left
  have : (a.toList == b.toList) = false := by rw [beq_eq_false_iff_ne]; exact h3
  rw [h1, h2, this]
  exact ⟨rfl, rfl, h3⟩
 ·right; right
  rw [h1, h2, h3]
  simp
theorem cs_anti (a b : ByteArray) : cs b a = - cs a b := by
 rcases cs_cases a b with ⟨h1, h2, _⟩ | ⟨h1, h2, _⟩ | ⟨h1, h2, _⟩ <;> rw [h1, h2] <;> rfl
theorem orI_anti {x x' y y' : Int} (h1 : x' = -x) (h2 : y' = -y) : orI x' y' = - orI x y := by
 subst h1 h2
 unfold orI
 cases h : x != 0 with
 | true =>
  have : (-x != 0) = true := by simp only [bne_iff_ne] at h ⊢; omega
  rw [this]
  rfl
 | false =>
  have : (-x != 0) = false := by simp only [bne_eq_false_iff_eq] at h ⊢; omega
  rw [this]
  rfl
theorem cmpQ_anti (an ad bn bd : Int) : cmpQ bn bd an ad = - cmpQ an ad bn bd := by
 unfold cmpQ
 rw [← sgn_opp]
 congr 1
 omega
theorem tt_anti (a b : Bool) (h : (a != b) = true) : 1 - tt b = -(1 - tt a) := by
 cases a <;> cases b <;> first | rfl | (cases h; done)
theorem rcls_num {a b : V} (ha : Val.okV a = true) (hb : Val.okV b = true) (h : (ci (rcls a.k) (rcls b.k) != 0) = false) : isNum b = isNum a := by
 have e : ci (rcls a.k) (rcls b.k) = 0 := by simpa using h
 cases hn : isNum a with
 | false =>
  have := rcls_kind (okV_rng ha) (okV_rng hb) e (by rw [← isNum_k ha]; exact hn)
  rw [isNum_k hb, ← this, ← isNum_k ha, hn]
 | true =>
  cases hm : isNum b with
  | true => rfl
  | false =>
   have e' : ci (rcls b.k) (rcls a.k) = 0 := by rw [ci_anti, e]; rfl
   have := rcls_kind (okV_rng hb) (okV_rng ha) e' (by rw [← isNum_k hb]; exact hm)
   rw [isNum_k ha, ← this, ← isNum_k hb, hm] at hn
   cases hn
theorem cmpL_anti (g : V → V → Int) : ∀ (a b : List V), (∀ x ∈ a, ∀ y, g y x = - g x y) → cmpL g b a = - cmpL g a b
 | [], [], _ => rfl
 | [], _ :: _, _ => rfl
 | _ :: _, [], _ => rfl
 | x :: r, y :: q, h => by
  simp only [cmpL]
  exact orI_anti (h x (by simp) y) (cmpL_anti g r q fun z hz => h z (by simp [hz]))
theorem headO_anti {a b : V} {t t' : Int} (h : t' = -t) : headO b a t' = - headO a b t :=
 orI_anti (ci_anti _ _) (orI_anti (ci_anti _ _) (orI_anti (ci_anti _ _) (orI_anti (cs_anti _ _) h)))
theorem ordF_anti (a : V) : ∀ b : V, ordF b a = - ordF a b := by
 refine vind (P := fun a => ∀ b : V, ordF b a = - ordF a b) (fun k n d s l ih b => ?_) a
 have hl : cmpL ordF b.l (V.mk k n d s l).l = - cmpL ordF (V.mk k n d s l).l b.l := cmpL_anti ordF l b.l ih
 rw [ordF_eq, ordF_eq]
 generalize V.mk k n d s l = a at *
 unfold stepO
 cases h1 : Val.okV a != Val.okV b with
 | true =>
  have h1' : (Val.okV b != Val.okV a) = true := by rw [bne_comm]; exact h1
  rw [h1']
  exact tt_anti _ _ h1
 | false =>
  have e : Val.okV a = Val.okV b := by simpa using h1
  rw [e]
  simp only [bne_self_eq_false, cond_false]
  cases h2 : Val.okV b with
  | false => exact headO_anti hl
  | true =>
   rw [h2] at e
   simp only [Bool.not_true, cond_false]
   have hci : ci (rcls b.k) (rcls a.k) = - ci (rcls a.k) (rcls b.k) := ci_anti _ _
   cases h3 : ci (rcls a.k) (rcls b.k) != 0 with
   | true =>
    have : (ci (rcls b.k) (rcls a.k) != 0) = true := by rw [hci]; simp only [bne_iff_ne] at h3 ⊢; omega
    rw [this]
    exact hci
   | false =>
    have : (ci (rcls b.k) (rcls a.k) != 0) = false := by rw [hci]; simp only [bne_eq_false_iff_eq] at h3 ⊢; omega
    rw [this, rcls_num e h2 h3]
    simp only [cond_false]
    cases isNum a with
    | true => exact cmpQ_anti _ _ _ _
    | false => exact headO_anti hl
def TrS {α : Type} (c : α → α → Int) (S : α → Prop) : Prop := ∀ p q r, S p → S q → S r → c p q ≤ 0 → c q r ≤ 0 → c p r ≤ 0
theorem or_tr {α : Type} {c1 c2 : α → α → Int} {S : α → Prop} (a1 : ∀ x y, c1 y x = - c1 x y) (t1 : TrS c1 S) (t2 : ∀ p q r, S p → S q → S r → c1 p q = 0 → c1 q r = 0 → c1 p r = 0 → c2 p q ≤ 0 → c2 q r ≤ 0 → c2 p r ≤ 0) :
    TrS (fun x y => orI (c1 x y) (c2 x y)) S := by
  intro p q r hp hq hr h1 h2
  have key : ∀ x y, orI (c1 x y) (c2 x y) ≤ 0 → c1 x y ≤ 0 ∧ (c1 x y = 0 → c2 x y ≤ 0) := by
    intro x y h
    unfold orI at h
    cases hb : c1 x y != 0 with
    | true => rw [hb] at h; simp only [cond_true] at h; exact ⟨h, fun e => by rw [e] at hb; cases hb⟩
    | false => rw [hb] at h; simp only [cond_false] at h; have : c1 x y = 0 := by simpa using hb
               exact ⟨by omega, fun _ => h⟩
  obtain ⟨k1, k2⟩ := key p q h1
  obtain ⟨k3, k4⟩ := key q r h2
  have k5 := t1 p q r hp hq hr k1 k3
  show orI (c1 p r) (c2 p r) ≤ 0
  unfold orI
  cases hb : c1 p r != 0 with
  | true => exact k5
  | false =>
    have e : c1 p r = 0 := by simpa using hb
    simp only [cond_false]
    have e1 : c1 r p ≤ 0 := by rw [a1 p r]; omega
    have e2 := t1 r p q hr hp hq e1 k1
    have e3 := a1 q r
    have e4 : c1 q r = 0 := by omega
    have e5 := t1 q r p hq hr hp k3 e1
    have e6 := a1 p q
    have e7 : c1 p q = 0 := by omega
    exact t2 p q r hp hq hr e7 e4 e (k2 e7) (k4 e4)
theorem ci_tr : TrS ci (fun _ => True) := by
 intro p q r _ _ _ h1 h2
 have key : ∀ x y, ci x y ≤ 0 → x ≤ y := by
  intro x y h
  rcases (show x ≤ y ∨ x > y by omega) with h' | h'
  ·exact h'
  ·rw [ci_gt h'] at h; omega
 have := key p q h1
 have := key q r h2
 rcases (show p < r ∨ p = r by omega) with h | h
 ·rw [ci_lt h]; omega
 ·rw [h, ci_eq]; omega
theorem bl_trans : ∀ a b c : List UInt8, Op.bytesLess b a = false → Op.bytesLess c b = false → Op.bytesLess c a = false
 | [], _, _, _, _ => by
  rename_i b c _ _
  cases c <;> rfl
 | x :: a, [], c, h, _ => by simp [Op.bytesLess] at h
 | x :: a, y :: b, [], _, h => by simp [Op.bytesLess] at h
 | x :: a, y :: b, z :: c, h1, h2 => by
  simp only [Op.bytesLess, Bool.or_eq_false_iff, Bool.and_eq_false_iff, decide_eq_false_iff_not, beq_eq_false_iff_ne] at h1 h2 ⊢
  obtain ⟨p1, p2⟩ := h1
  obtain ⟨q1, q2⟩ := h2
  have p1' : ¬ y.toNat < x.toNat := p1
  have q1' : ¬ z.toNat < y.toNat := q1
  refine ⟨fun h => ?_, ?_⟩
  ·have : z.toNat < x.toNat := h
   omega
  ·by_cases hzx : z = x
   ·right
    subst hzx
    have hy : y = z := UInt8.toNat_inj.1 (by omega)
    subst hy
    have p3 := p2.resolve_left (fun h => h rfl)
    have q3 := q2.resolve_left (fun h => h rfl)
    exact bl_trans a b c p3 q3
   ·exact .inl hzx
theorem cs_le (a b : ByteArray) : cs a b ≤ 0 ↔ Op.bytesLess b.toList a.toList = false := by
 rcases bl_tri a.toList b.toList with ⟨h1, h2, h3⟩ | ⟨h1, h2, h3⟩ | ⟨h1, h2, h3⟩
 ·unfold cs; rw [h1, h2]; simp
 ·have : (a.toList == b.toList) = false := by rw [beq_eq_false_iff_ne]; exact h3
  unfold cs; rw [h1, h2, this]; simp
 ·unfold cs; rw [h1, h2, h3]; simp
theorem cs_tr : TrS cs (fun _ => True) := by
 intro p q r _ _ _ h1 h2
 rw [cs_le] at *
 exact bl_trans _ _ _ h1 h2
theorem cmpL_tr {g : V → V → Int} {S : V → Prop} (ga : ∀ x y, g y x = - g x y) (gt : TrS g S) : ∀ n : Nat, TrS (cmpL g) (fun l => l.length ≤ n ∧ ∀ x ∈ l, S x)
 | 0 => by
  rintro p q r ⟨h1, -⟩ ⟨h2, -⟩ ⟨h3, -⟩ _ _
  obtain rfl : p = [] := List.eq_nil_of_length_eq_zero (by omega)
  obtain rfl : r = [] := List.eq_nil_of_length_eq_zero (by omega)
  exact Int.le_refl _
 | n + 1 => by
  have ih := cmpL_tr ga gt n
  rintro p q r ⟨h1, s1⟩ ⟨h2, s2⟩ ⟨h3, s3⟩ k1 k2
  cases p with
  | nil => cases r <;> simp [cmpL]
  | cons x p =>
   cases q with
   | nil => simp [cmpL] at k1
   | cons y q =>
    cases r with
    | nil => simp [cmpL] at k2
    | cons z r =>
     have := or_tr (α := V × List V) (c1 := fun a b => g a.1 b.1) (c2 := fun a b => cmpL g a.2 b.2) (S := fun a => S a.1 ∧ a.2.length ≤ n ∧ ∀ w ∈ a.2, S w) (fun a b => ga a.1 b.1)
      (fun a b c ha hb hc => gt a.1 b.1 c.1 ha.1 hb.1 hc.1) (fun a b c ha hb hc _ _ _ => ih a.2 b.2 c.2 ha.2 hb.2 hc.2)
      (x, p) (y, q) (z, r) ⟨s1 x (by simp), by simpa using h1, fun w hw => s1 w (by simp [hw])⟩ ⟨s2 y (by simp), by simpa using h2, fun w hw => s2 w (by simp [hw])⟩ ⟨s3 z (by simp), by simpa using h3, fun w hw => s3 w (by simp [hw])⟩
     exact this k1 k2
theorem cmpQ_tr {a b c : V} (ha : isNum a = true) (hb : isNum b = true) (hc : isNum c = true) (h1 : cmpQ (numN a) (numD a) (numN b) (numD b) ≤ 0) (h2 : cmpQ (numN b) (numD b) (numN c) (numD c) ≤ 0) : cmpQ (numN a) (numD a) (numN c) (numD c) ≤ 0 := by
 have key : ∀ {x y : V}, isNum x = true → isNum y = true → (cmpQ (numN x) (numD x) (numN y) (numD y) ≤ 0 ↔ numN x * numD y ≤ numN y * numD x) := by
  intro x y hx hy
  unfold cmpQ fzn fzd
  rw [fval_num hx, fval_num hy]
  simp only [cond_true]
  unfold sgn
  split
  ·constructor <;> intro _ <;> omega
  ·split
   ·constructor <;> intro _ <;> omega
   ·constructor <;> intro _ <;> omega
 rw [key ha hb] at h1
 rw [key hb hc] at h2
 rw [key ha hc]
 have pos : ∀ {x : V}, isNum x = true → 1 ≤ numD x := by
  intro x hx
  have := fval_num hx
  simp only [fval, Bool.and_eq_true, decide_eq_true_eq] at this
  exact this.1
 have pa := pos ha
 have pb := pos hb
 have pc := pos hc
 generalize numN a = an at *
 generalize numN b = bn at *
 generalize numN c = cn at *
 generalize numD a = ad at *
 generalize numD b = bd at *
 generalize numD c = cd at *
 have e1 := Int.mul_le_mul_of_nonneg_right h1 (show 0 ≤ cd by omega)
 have e2 := Int.mul_le_mul_of_nonneg_right h2 (show 0 ≤ ad by omega)
 have e3 : bn * ad * cd = bn * cd * ad := by rw [Int.mul_assoc, Int.mul_comm ad cd, ← Int.mul_assoc]
 have e4 : an * bd * cd = an * cd * bd := by rw [Int.mul_assoc, Int.mul_comm bd cd, ← Int.mul_assoc]
 have e5 : cn * bd * ad = cn * ad * bd := by rw [Int.mul_assoc, Int.mul_comm bd ad, ← Int.mul_assoc]
 have e6 : an * cd * bd ≤ cn * ad * bd := by omega
 exact Int.le_of_mul_le_mul_right e6 (by omega)
mutual
def dep : V → Nat
 | .mk _ _ _ _ l => depL l + 1
def depL : List V → Nat
 | [] => 0
 | v :: r => max (dep v) (depL r)
end
theorem depL_mem : ∀ {l : List V} {x : V}, x ∈ l → dep x ≤ depL l
 | [], x, h => by simp at h
 | v :: r, x, h => by
  simp only [depL]
  rcases List.mem_cons.1 h with e | e
  ·rw [e]; omega
  ·have := depL_mem e; omega
theorem dep_l (v : V) : dep v = depL v.l + 1 := by cases v; simp [dep, V.l]
attribute [local irreducible] ordF
def iv (v : V) : Int := bif Val.okV v then 0 else 1
theorem ordF_lex (a b : V) : ordF a b = orI (ci (iv a) (iv b)) (orI (bif Val.okV a then ci (rcls a.k) (rcls b.k) else 0) (bif isNum a then cmpQ (numN a) (numD a) (numN b) (numD b) else headO a b (cmpL ordF a.l b.l))) := by
 rw [ordF_eq]
 unfold stepO iv
 cases ha : Val.okV a with
 | false =>
  have : isNum a = false := by unfold isNum; rw [ha, Bool.and_false]
  rw [this]
  cases hb : Val.okV b <;> rfl
 | true =>
  cases hb : Val.okV b with
  | false => rfl
  | true =>
   simp only [bne_self_eq_false, cond_false, Bool.not_true, cond_true, ci_eq]
   unfold orI
   simp only [bne_self_eq_false, cond_false]
theorem head_tr {S : V → Prop} {L : V → V → Int} (hl : TrS L S) : TrS (fun a b => headO a b (L a b)) S := by
 have c4 : TrS (fun a b : V => orI (cs a.s b.s) (L a b)) S :=
  or_tr (c1 := fun a b : V => cs a.s b.s) (c2 := L) (S := S) (fun x y => cs_anti _ _) (fun p q r _ _ _ => cs_tr _ _ _ trivial trivial trivial) (fun p q r hp hq hr _ _ _ => hl p q r hp hq hr)
 have c3 : TrS (fun a b : V => orI (ci a.d b.d) (orI (cs a.s b.s) (L a b))) S :=
  or_tr (c1 := fun a b : V => ci a.d b.d) (c2 := fun a b : V => orI (cs a.s b.s) (L a b)) (S := S) (fun x y => ci_anti _ _) (fun p q r _ _ _ => ci_tr _ _ _ trivial trivial trivial) (fun p q r hp hq hr _ _ _ => c4 p q r hp hq hr)
 have c2 : TrS (fun a b : V => orI (ci a.n b.n) (orI (ci a.d b.d) (orI (cs a.s b.s) (L a b)))) S :=
  or_tr (c1 := fun a b : V => ci a.n b.n) (c2 := fun a b : V => orI (ci a.d b.d) (orI (cs a.s b.s) (L a b))) (S := S) (fun x y => ci_anti _ _) (fun p q r _ _ _ => ci_tr _ _ _ trivial trivial trivial) (fun p q r hp hq hr _ _ _ => c3 p q r hp hq hr)
 exact or_tr (c1 := fun a b : V => ci a.k b.k) (c2 := fun a b : V => orI (ci a.n b.n) (orI (ci a.d b.d) (orI (cs a.s b.s) (L a b)))) (S := S) (fun x y => ci_anti _ _) (fun p q r _ _ _ => ci_tr _ _ _ trivial trivial trivial) (fun p q r hp hq hr _ _ _ => c2 p q r hp hq hr)
theorem ordF_tr : ∀ n : Nat, TrS ordF (fun v => dep v ≤ n)
 | 0 => by
  intro p q r hp
  have : dep p ≤ 0 := hp
  rw [dep_l] at this
  omega
 | n + 1 => by
  have ih := ordF_tr n
  have hl : ∀ p q r : V, dep p ≤ n + 1 → dep q ≤ n + 1 → dep r ≤ n + 1 → cmpL ordF p.l q.l ≤ 0 → cmpL ordF q.l r.l ≤ 0 → cmpL ordF p.l r.l ≤ 0 := by
   intro p q r hp hq hr
   rw [dep_l] at hp hq hr
   have hm : ∀ {v : V}, depL v.l + 1 ≤ n + 1 → ∀ x ∈ v.l, dep x ≤ n := fun h x hx => by have := depL_mem hx; omega
   exact cmpL_tr (fun x y => ordF_anti x y) ih (p.l.length + q.l.length + r.l.length) p.l q.l r.l ⟨by omega, hm hp⟩ ⟨by omega, hm hq⟩ ⟨by omega, hm hr⟩
  have hh : TrS (fun a b => headO a b (cmpL ordF a.l b.l)) (fun v => dep v ≤ n + 1) := head_tr (S := fun v => dep v ≤ n + 1) (L := fun a b => cmpL ordF a.l b.l) hl
  intro p q r hp hq hr
  rw [ordF_lex p q, ordF_lex q r, ordF_lex p r]
  have main := or_tr (c1 := fun a b => ci (iv a) (iv b)) (c2 := fun a b => orI (bif Val.okV a then ci (rcls a.k) (rcls b.k) else 0) (bif isNum a then cmpQ (numN a) (numD a) (numN b) (numD b) else headO a b (cmpL ordF a.l b.l))) (S := fun v => dep v ≤ n + 1)
   (fun x y => ci_anti _ _) (fun p q r _ _ _ => ci_tr _ _ _ trivial trivial trivial) ?_ p q r hp hq hr
  ·exact main
  ·intro p q r hp hq hr e1 e2 e3
   have hiv : ∀ {x y : V}, ci (iv x) (iv y) = 0 → Val.okV x = Val.okV y := by
    intro x y h
    unfold iv at h
    cases hx : Val.okV x <;> cases hy : Val.okV y <;> first | rfl | (rw [hx, hy] at h; cases h)
   have v1 := hiv e1
   have v2 := hiv e2
   cases hp' : Val.okV p with
   | false =>
    rw [hp'] at v1
    rw [← v1] at v2
    have n1 : isNum p = false := by unfold isNum; rw [hp', Bool.and_false]
    have n2 : isNum q = false := by unfold isNum; rw [← v1, Bool.and_false]
    rw [← v1, n1, n2]
    exact hh p q r hp hq hr
   | true =>
    rw [hp'] at v1
    rw [← v1] at v2
    rw [← v1]
    simp only [cond_true]
    refine or_tr (α := V) (c1 := fun a b => ci (rcls a.k) (rcls b.k)) (c2 := fun a b => bif isNum a then cmpQ (numN a) (numD a) (numN b) (numD b) else headO a b (cmpL ordF a.l b.l)) (S := fun v => dep v ≤ n + 1 ∧ Val.okV v = true)
     (fun x y => ci_anti _ _) (fun p q r _ _ _ => ci_tr _ _ _ trivial trivial trivial) (fun p q r hp hq hr e1 e2 e3 => ?_) p q r ⟨hp, hp'⟩ ⟨hq, v1.symm⟩ ⟨hr, v2.symm⟩
    have m1 := rcls_num hp.2 hq.2 (by simpa using e1)
    have m2 := rcls_num hq.2 hr.2 (by simpa using e2)
    cases hn : isNum p with
    | true =>
     rw [hn] at m1
     rw [m1] at m2
     rw [m1]
     simp only [cond_true]
     exact cmpQ_tr hn m1 m2
    | false =>
     rw [hn] at m1
     rw [m1]
     simp only [cond_false]
     exact hh p q r hp.1 hq.1 hr.1
theorem ordF_trans (a b c : V) (h1 : ordF a b ≤ 0) (h2 : ordF b c ≤ 0) : ordF a c ≤ 0 :=
 ordF_tr (dep a + dep b + dep c) a b c (by show dep a ≤ _; omega) (by show dep b ≤ _; omega) (by show dep c ≤ _; omega) h1 h2
theorem ba_ext {a b : ByteArray} (h : a.toList = b.toList) : a = b := by
 rw [ByteArray.toList_eq, ByteArray.toList_eq] at h
 apply ByteArray.ext
 exact Array.toList_inj.1 h
theorem ci_zero {x y : Int} (h : ci x y = 0) : x = y := by
 rcases (show x < y ∨ x = y ∨ x > y by omega) with h' | h' | h'
 ·rw [ci_lt h'] at h; cases h
 ·exact h'
 ·rw [ci_gt h'] at h; cases h
theorem cs_zero {a b : ByteArray} (h : cs a b = 0) : a = b := by
 rcases cs_cases a b with ⟨h1, _, _⟩ | ⟨h1, _, _⟩ | ⟨_, _, h3⟩
 ·rw [h1] at h; cases h
 ·rw [h1] at h; cases h
 ·exact ba_ext h3
theorem orI_zero {x y : Int} (h : orI x y = 0) : x = 0 ∧ y = 0 := by
 unfold orI at h
 cases hb : x != 0 with
 | true => rw [hb] at h; simp only [cond_true] at h; rw [h] at hb; cases hb
 | false => rw [hb] at h; exact ⟨by simpa using hb, h⟩
theorem num_eq {a b : V} (ha : isNum a = true) (hb : isNum b = true) (h1 : numN a = numN b) (h2 : numD a = numD b) : a = b := by
 have va : Val.okV a = true := by unfold isNum at ha; simp only [Bool.and_eq_true] at ha; exact ha.2
 have vb : Val.okV b = true := by unfold isNum at hb; simp only [Bool.and_eq_true] at hb; exact hb.2
 have ka : a.k = 2 ∨ a.k = 3 := by unfold isNum at ha; simp only [Bool.and_eq_true, Bool.or_eq_true, beq_iff_eq] at ha; exact ha.1
 have kb : b.k = 2 ∨ b.k = 3 := by unfold isNum at hb; simp only [Bool.and_eq_true, Bool.or_eq_true, beq_iff_eq] at hb; exact hb.1
 obtain ⟨a1, a2, -, -, a5⟩ := okV_bare va
 obtain ⟨b1, b2, -, -, b5⟩ := okV_bare vb
 unfold numN at h1
 unfold numD at h2
 rw [ha, hb] at h1 h2
 simp only [cond_true] at h1 h2
 obtain ⟨k, n, d, s, l⟩ := a
 obtain ⟨k', n', d', s', l'⟩ := b
 simp only [V.k, V.n, V.d, V.s, V.l] at *
 have hs : s = s' := ba_ext (by rw [a2 (by omega), b2 (by omega)])
 have hl : l = l' := by rw [a5 (by omega) (by omega), b5 (by omega) (by omega)]
 subst hs hl h1
 rcases ka with rfl | rfl <;> rcases kb with rfl | rfl
 ·rw [a1 (by omega), b1 (by omega)]
 ·exfalso
  have := (okV_3 vb).1
  have h2' : (1 : Int) = d' := h2
  omega
 ·exfalso
  have := (okV_3 va).1
  have h2' : d = (1 : Int) := h2
  omega
 ·have h2' : d = d' := h2
  rw [h2']
theorem cmpL_zero : ∀ (a b : List V), (∀ x ∈ a, ∀ y, ordF x y = 0 → x = y) → cmpL ordF a b = 0 → a = b
 | [], [], _, _ => rfl
 | [], _ :: _, _, h => by simp [cmpL] at h
 | _ :: _, [], _, h => by simp [cmpL] at h
 | x :: r, y :: q, hx, h => by
  simp only [cmpL] at h
  obtain ⟨h1, h2⟩ := orI_zero h
  rw [hx x (by simp) y h1, cmpL_zero r q (fun z hz => hx z (by simp [hz])) h2]
theorem ordF_zero (a : V) : ∀ b : V, ordF a b = 0 → a = b := by
 refine vind (P := fun a => ∀ b : V, ordF a b = 0 → a = b) (fun k n d s l ih b h => ?_) a
 rw [ordF_lex] at h
 obtain ⟨h1, h2⟩ := orI_zero h
 obtain ⟨h3, h4⟩ := orI_zero h2
 have hv : Val.okV (.mk k n d s l) = Val.okV b := by
  have := ci_zero h1
  unfold iv at this
  cases hx : Val.okV (.mk k n d s l) <;> cases hy : Val.okV b <;> first | rfl | (rw [hx, hy] at this; cases this)
 have hhead : headO (.mk k n d s l) b (cmpL ordF (V.mk k n d s l).l b.l) = 0 → V.mk k n d s l = b := by
  intro h
  unfold headO at h
  obtain ⟨e1, h⟩ := orI_zero h
  obtain ⟨e2, h⟩ := orI_zero h
  obtain ⟨e3, h⟩ := orI_zero h
  obtain ⟨e4, h⟩ := orI_zero h
  have e5 := cmpL_zero l b.l ih h
  have e1 := ci_zero e1
  have e2 := ci_zero e2
  have e3 := ci_zero e3
  have e4 := cs_zero e4
  obtain ⟨k', n', d', s', l'⟩ := b
  simp only [V.k, V.n, V.d, V.s, V.l] at e1 e2 e3 e4 e5
  rw [e1, e2, e3, e4, e5]
 cases hn : isNum (.mk k n d s l) with
 | false => rw [hn] at h4; exact hhead h4
 | true =>
  rw [hn] at h4
  simp only [cond_true] at h4
  have hok : Val.okV (.mk k n d s l) = true := by unfold isNum at hn; simp only [Bool.and_eq_true] at hn; exact hn.2
  rw [hok] at h3 hv
  have hm : isNum b = true := by rw [rcls_num hok hv.symm (by simpa using h3), hn]
  have hz := cmpQ_zero hn hm
  rw [h4] at hz
  have hz' : ((numN (.mk k n d s l) == numN b) && (numD (.mk k n d s l) == numD b)) = true := hz.symm
  simp only [Bool.and_eq_true, beq_iff_eq] at hz'
  exact num_eq hn hm hz'.1 hz'.2
end Go.Proofs.YtjgmakalledclaaGreatDoor
namespace Go.Proofs.YtjgmakalledclaaGreatDoor
set_option maxRecDepth 4000
section
variable {α : Type} [Inhabited α]
def atS (l : List α) (k : Nat) : α := l.getD k default
def swS (l : List α) (i j : Nat) : List α := (l.set i (atS l j)).set j (atS l i)
theorem swS_len (l : List α) (i j : Nat) : (swS l i j).length = l.length := by simp [swS]
theorem atS_get {l : List α} {k : Nat} (h : k < l.length) : l[k]? = some (atS l k) := by
 unfold atS
 rw [List.getD_eq_getElem?_getD, List.getElem?_eq_getElem h]
 rfl
theorem atS_sw {l : List α} {i j : Nat} (hi : i < l.length) (hj : j < l.length) (k : Nat) : atS (swS l i j) k = if k = j then atS l i else if k = i then atS l j else atS l k := by
 have hk : ∀ (l : List α), atS l k = (l[k]?).getD default := fun l => by unfold atS; rw [List.getD_eq_getElem?_getD]
 rw [hk]
 unfold swS
 by_cases h1 : k = j
 ·subst h1
  rw [if_pos rfl, List.getElem?_set_self (by simpa using hj)]
  rfl
 ·rw [if_neg h1, List.getElem?_set_ne (fun e => h1 e.symm)]
  by_cases h2 : k = i
  ·subst h2
   rw [if_pos rfl, List.getElem?_set_self hi]
   rfl
  ·rw [if_neg h2, List.getElem?_set_ne (fun e => h2 e.symm), hk]
theorem set_permS {l : List α} : ∀ {i : Nat} {x : α}, i < l.length → (atS l i :: l.set i x).Perm (x :: l) := by
 induction l with
 | nil => intro i x h; simp at h
 | cons y r ih =>
  intro i x h
  cases i with
  | zero => simpa [atS] using List.Perm.swap x y r
  | succ i =>
   have h1 : (atS r i :: r.set i x).Perm (x :: r) := ih (by simpa using h)
   have e : atS (y :: r) (i + 1) = atS r i := by simp [atS]
   rw [e, List.set_cons_succ]
   exact (List.Perm.swap y (atS r i) _).trans ((h1.cons y).trans (List.Perm.swap x y r))
theorem swS_perm {l : List α} {i j : Nat} (hi : i < l.length) (hj : j < l.length) : (swS l i j).Perm l := by
 have h1 := set_permS (l := l) (x := atS l j) hi
 have h2 := set_permS (l := l.set i (atS l j)) (i := j) (x := atS l i) (by simpa using hj)
 have e : atS (l.set i (atS l j)) j = atS l j := by
  unfold atS
  simp only [List.getD_eq_getElem?_getD, List.getElem?_set]
  by_cases h : i = j
  ·subst h; simp [hi]
  ·simp [h]
 rw [e] at h2
 have h3 := h2.trans h1
 exact h3.cons_inv
structure Rch (lo hi : Nat) (l l' : List α) : Prop where
 len : l'.length = l.length
 per : l'.Perm l
 out : ∀ k, k < lo ∨ hi ≤ k → atS l' k = atS l k
 inn : ∀ k, lo ≤ k → k < hi → ∃ k', lo ≤ k' ∧ k' < hi ∧ atS l' k = atS l k'
theorem Rch.refl (lo hi : Nat) (l : List α) : Rch lo hi l l := ⟨rfl, List.Perm.refl _, fun _ _ => rfl, fun k h1 h2 => ⟨k, h1, h2, rfl⟩⟩
theorem Rch.trans {lo hi : Nat} {l l' l'' : List α} (h : Rch lo hi l l') (h' : Rch lo hi l' l'') : Rch lo hi l l'' := by
 refine ⟨by rw [h'.len, h.len], h'.per.trans h.per, fun k hk => by rw [h'.out k hk, h.out k hk], fun k h1 h2 => ?_⟩
 obtain ⟨k', a1, a2, a3⟩ := h'.inn k h1 h2
 obtain ⟨k'', b1, b2, b3⟩ := h.inn k' a1 a2
 exact ⟨k'', b1, b2, by rw [a3, b3]⟩
theorem Rch.mono {lo hi lo' hi' : Nat} {l l' : List α} (h : Rch lo hi l l') (h1 : lo' ≤ lo) (h2 : hi ≤ hi') : Rch lo' hi' l l' := by
 refine ⟨h.len, h.per, fun k hk => h.out k (by omega), fun k a1 a2 => ?_⟩
 by_cases hk : lo ≤ k ∧ k < hi
 ·obtain ⟨k', b1, b2, b3⟩ := h.inn k hk.1 hk.2
  exact ⟨k', by omega, by omega, b3⟩
 ·exact ⟨k, a1, a2, h.out k (by omega)⟩
theorem Rch.sw {lo hi i j : Nat} {l : List α} (h1 : lo ≤ i) (h2 : i < hi) (h3 : lo ≤ j) (h4 : j < hi) (h5 : hi ≤ l.length) : Rch lo hi l (swS l i j) := by
 have hi' : i < l.length := by omega
 have hj' : j < l.length := by omega
 refine ⟨swS_len l i j, swS_perm hi' hj', fun k hk => ?_, fun k a1 a2 => ?_⟩
 ·rw [atS_sw hi' hj', if_neg (by omega), if_neg (by omega)]
 ·rw [atS_sw hi' hj']
  by_cases e1 : k = j
  ·exact ⟨i, h1, h2, by rw [if_pos e1]⟩
  ·by_cases e2 : k = i
   ·exact ⟨j, h3, h4, by rw [if_neg e1, if_pos e2]⟩
   ·exact ⟨k, a1, a2, by rw [if_neg e1, if_neg e2]⟩
def Srt (c : α → α → Int) (l : List α) (a b : Nat) : Prop := ∀ p q, a ≤ p → p < q → q < b → c (atS l p) (atS l q) ≤ 0
theorem Srt.sub {c : α → α → Int} {l : List α} {a b a' b' : Nat} (h : Srt c l a b) (h1 : a ≤ a') (h2 : b' ≤ b) : Srt c l a' b' := fun p q g1 g2 g3 => h p q (by omega) g2 (by omega)
theorem Srt.out {c : α → α → Int} {l l' : List α} {a b lo hi : Nat} (h : Srt c l a b) (hr : Rch lo hi l l') (hd : b ≤ lo ∨ hi ≤ a) : Srt c l' a b := fun p q g1 g2 g3 => by
 rw [hr.out p (by omega), hr.out q (by omega)]
 exact h p q g1 g2 g3
def insJ (c : α → α → Int) (a : Nat) : Nat → List α → List α
 | 0, l => l
 | j + 1, l => if a < j + 1 ∧ c (atS l (j + 1)) (atS l j) < 0 then insJ c a j (swS l (j + 1) j) else l
def insI (c : α → α → Int) (a : Nat) : Nat → Nat → List α → List α
 | 0, _, l => l
 | n + 1, i, l => insI c a n (i + 1) (insJ c a i l)
def insF (c : α → α → Int) (a b : Nat) (l : List α) : List α := insI c a (b - (a + 1)) (a + 1) l
theorem insJ_rch (c : α → α → Int) (a i : Nat) : ∀ (j : Nat) (l : List α), j ≤ i → i < l.length → a ≤ j → Rch a (i + 1) l (insJ c a j l)
 | 0, l, _, _, _ => Rch.refl _ _ _
 | j + 1, l, h1, h2, h3 => by
  simp only [insJ]
  split
  ·rename_i h
   have hs : Rch a (i + 1) l (swS l (j + 1) j) := Rch.sw (by omega) (by omega) (by omega) (by omega) (by omega)
   exact hs.trans (insJ_rch c a i j _ (by omega) (by rw [swS_len]; omega) (by omega))
  ·exact Rch.refl _ _ _
structure Cmp3 (c : α → α → Int) : Prop where
 anti : ∀ x y, c y x = - c x y
 tr : ∀ x y z, c x y ≤ 0 → c y z ≤ 0 → c x z ≤ 0
omit [Inhabited α] in
theorem Cmp3.self {c : α → α → Int} (h : Cmp3 c) (x : α) : c x x ≤ 0 := by have := h.anti x x; omega
theorem insJ_srt {c : α → α → Int} (hc : Cmp3 c) (a i : Nat) : ∀ (j : Nat) (l : List α), j ≤ i → i < l.length → a ≤ j → (∀ p q, a ≤ p → p < q → q ≤ i → p ≠ j → q ≠ j → c (atS l p) (atS l q) ≤ 0) → (∀ q, j < q → q ≤ i → c (atS l j) (atS l q) ≤ 0) →
  Srt c (insJ c a j l) a (i + 1)
 | 0, l, _, _, _, f1, f2 => fun p q g1 g2 g3 => by
  simp only [insJ]
  by_cases hp : p = 0
  ·subst hp; exact f2 q g2 (by omega)
  ·exact f1 p q g1 g2 (by omega) hp (by omega)
 | j + 1, l, h1, h2, h3, f1, f2 => by
  simp only [insJ]
  split
  ·rename_i h
   have hs : ∀ k, atS (swS l (j + 1) j) k = _ := fun k => atS_sw (l := l) (i := j + 1) (j := j) (by omega) (by omega) k
   refine insJ_srt hc a i j _ (by omega) (by rw [swS_len]; omega) (by omega) (fun p q g1 g2 g3 g4 g5 => ?_) (fun q g1 g2 => ?_)
   ·rw [hs, hs, if_neg g4, if_neg g5]
    by_cases e1 : p = j + 1
    ·rw [if_pos e1, if_neg (by omega)]
     exact f1 j q (by omega) (by omega) g3 (by omega) (by omega)
    ·rw [if_neg e1]
     by_cases e2 : q = j + 1
     ·rw [if_pos e2]
      exact f1 p j g1 (by omega) (by omega) (by omega) (by omega)
     ·rw [if_neg e2]
      exact f1 p q g1 g2 g3 e1 e2
   ·rw [hs, hs, if_pos rfl, if_neg (by omega)]
    by_cases e1 : q = j + 1
    ·rw [if_pos e1]; omega
    ·rw [if_neg e1]
     exact f2 q (by omega) g2
  ·rename_i h
   intro p q g1 g2 g3
   by_cases e1 : p = j + 1
   ·subst e1; exact f2 q g2 (by omega)
   ·by_cases e2 : q = j + 1
    ·subst e2
     have hx : c (atS l j) (atS l (j + 1)) ≤ 0 := by
      have h4 : ¬ c (atS l (j + 1)) (atS l j) < 0 := fun h5 => h ⟨by omega, h5⟩
      have := hc.anti (atS l (j + 1)) (atS l j)
      omega
     by_cases e3 : p = j
     ·subst e3; exact hx
     ·exact hc.tr _ _ _ (f1 p j g1 (by omega) (by omega) e1 (by omega)) hx
    ·exact f1 p q g1 g2 (by omega) e1 e2
theorem insI_ok {c : α → α → Int} (hc : Cmp3 c) (a : Nat) : ∀ (n i : Nat) (l : List α), i + n ≤ l.length → a < i → Srt c l a i → Rch a (i + n) l (insI c a n i l) ∧ Srt c (insI c a n i l) a (i + n)
 | 0, i, l, _, _, h => ⟨Rch.refl _ _ _, by simpa [insI] using h⟩
 | n + 1, i, l, h1, h2, h3 => by
  simp only [insI]
  have r1 := insJ_rch c a i i l (by omega) (by omega) (by omega)
  have s1 : Srt c (insJ c a i l) a (i + 1) := insJ_srt hc a i i l (by omega) (by omega) (by omega) (fun p q g1 g2 g3 g4 g5 => h3 p q g1 g2 (by omega)) (fun q g1 g2 => absurd g1 (by omega))
  obtain ⟨r2, s2⟩ := insI_ok hc a n (i + 1) _ (by rw [r1.len]; omega) (by omega) s1
  rw [show i + 1 + n = i + (n + 1) by omega] at r2 s2
  exact ⟨(r1.mono (by omega) (by omega)).trans r2, s2⟩
theorem insF_ok {c : α → α → Int} (hc : Cmp3 c) {a b : Nat} {l : List α} (h1 : b ≤ l.length) : Rch a b l (insF c a b l) ∧ Srt c (insF c a b l) a b := by
 unfold insF
 by_cases h : a + 1 ≤ b
 ·obtain ⟨r, s⟩ := insI_ok hc a (b - (a + 1)) (a + 1) l (by omega) (by omega) (fun p q g1 g2 g3 => absurd g2 (by omega))
  rw [show a + 1 + (b - (a + 1)) = b by omega] at r s
  exact ⟨r, s⟩
 ·rw [show b - (a + 1) = 0 by omega]
  exact ⟨Rch.refl _ _ _, fun p q g1 g2 g3 => absurd g2 (by omega)⟩
def bsF (P : Nat → Bool) (i j : Nat) : Nat := if i < j then bif P ((i + j) / 2) then bsF P ((i + j) / 2 + 1) j else bsF P i ((i + j) / 2) else i
 termination_by j - i
theorem bsF_ok (P : Nat → Bool) (i j : Nat) (h : i ≤ j) : i ≤ bsF P i j ∧ bsF P i j ≤ j ∧ (bsF P i j = i ∨ P (bsF P i j - 1) = true) ∧ (bsF P i j = j ∨ P (bsF P i j) = false) := by
 rw [bsF]
 split
 ·rename_i hlt
  cases hp : P ((i + j) / 2) with
  | true =>
   rw [cond_true]
   obtain ⟨a1, a2, a3, a4⟩ := bsF_ok P ((i + j) / 2 + 1) j (by omega)
   refine ⟨by omega, a2, .inr ?_, a4⟩
   rcases a3 with a3 | a3
   ·rw [a3, Nat.add_sub_cancel]; exact hp
   ·exact a3
  | false =>
   rw [cond_false]
   obtain ⟨a1, a2, a3, a4⟩ := bsF_ok P i ((i + j) / 2) (by omega)
   refine ⟨a1, by omega, a3, .inr ?_⟩
   rcases a4 with a4 | a4
   ·rw [a4]; exact hp
   ·exact a4
 ·exact ⟨Nat.le_refl _, h, .inl rfl, .inl (by omega)⟩
 termination_by j - i
def mvU (e k : Nat) (l : List α) : List α := if k < e then mvU e (k + 1) (swS l k (k + 1)) else l
 termination_by e - k
theorem mvU_ok (a e k : Nat) (l : List α) (h : k ≤ e) (he : e < l.length) (ha : a ≤ k) : Rch a (e + 1) l (mvU e k l) ∧ ∀ q, atS (mvU e k l) q = if q < k ∨ e < q then atS l q else if q = e then atS l k else atS l (q + 1) := by
 rw [mvU]
 split
 ·rename_i hlt
  have hs : ∀ q, atS (swS l k (k + 1)) q = _ := fun q => atS_sw (l := l) (i := k) (j := k + 1) (by omega) (by omega) q
  obtain ⟨r, f⟩ := mvU_ok a e (k + 1) (swS l k (k + 1)) (by omega) (by rw [swS_len]; exact he) (by omega)
  refine ⟨(Rch.sw (by omega) (by omega) (by omega) (by omega) (by omega)).trans r, fun q => ?_⟩
  rw [f, hs, hs, hs, if_pos (rfl : k + 1 = k + 1)]
  by_cases h1 : q < k ∨ e < q
  ·rw [if_pos (by omega), if_neg (by omega), if_neg (by omega), if_pos h1]
  ·rw [if_neg h1]
   by_cases h2 : q = e
   ·rw [if_neg (by omega), if_pos h2, if_pos h2]
   ·rw [if_neg h2]
    by_cases h3 : q = k
    ·subst h3
     rw [if_pos (by omega), if_neg (by omega), if_pos rfl, if_neg h2]
    ·rw [if_neg (by omega), if_neg h2, if_neg (by omega), if_neg (by omega)]
 ·refine ⟨Rch.refl _ _ _, fun q => ?_⟩
  by_cases h1 : q < k ∨ e < q
  ·rw [if_pos h1]
  ·rw [if_neg h1, if_pos (by omega), show q = k by omega]
 termination_by e - k
def mvD (i : Nat) : Nat → List α → List α
 | 0, l => l
 | k + 1, l => if i < k + 1 then mvD i k (swS l (k + 1) k) else l
theorem mvD_ok (i b : Nat) : ∀ (k : Nat) (l : List α), i ≤ k → k < l.length → k < b → b ≤ l.length → Rch i b l (mvD i k l) ∧ ∀ q, atS (mvD i k l) q = if q < i ∨ k < q then atS l q else if q = i then atS l k else atS l (q - 1)
 | 0, l, h1, h2, h3, h4 => by
  refine ⟨Rch.refl _ _ _, fun q => ?_⟩
  simp only [mvD]
  by_cases h : q < i ∨ 0 < q
  ·rw [if_pos h]
  ·rw [if_neg h, if_pos (by omega), show q = 0 by omega]
 | k + 1, l, h1, h2, h3, h4 => by
  simp only [mvD]
  split
  ·rename_i hlt
   have hs : ∀ q, atS (swS l (k + 1) k) q = _ := fun q => atS_sw (l := l) (i := k + 1) (j := k) (by omega) (by omega) q
   obtain ⟨r, f⟩ := mvD_ok i b k (swS l (k + 1) k) (by omega) (by rw [swS_len]; omega) (by omega) (by rw [swS_len]; exact h4)
   refine ⟨(Rch.sw (by omega) (by omega) (by omega) (by omega) h4).trans r, fun q => ?_⟩
   rw [f, hs, hs, hs, if_pos (rfl : k = k)]
   by_cases g1 : q < i ∨ k + 1 < q
   ·rw [if_pos (by omega), if_neg (by omega), if_neg (by omega), if_pos g1]
   ·rw [if_neg g1]
    by_cases g2 : q = i
    ·rw [if_neg (by omega), if_pos g2, if_pos g2]
    ·rw [if_neg g2]
     by_cases g3 : q = k + 1
     ·subst g3
      rw [if_pos (by omega), if_neg (by omega), if_pos rfl, if_neg g2, Nat.add_sub_cancel]
     ·rw [if_neg (by omega), if_neg g2, if_neg (by omega), if_neg (by omega)]
  ·refine ⟨Rch.refl _ _ _, fun q => ?_⟩
   by_cases g1 : q < i ∨ k + 1 < q
   ·rw [if_pos g1]
   ·rw [if_neg g1, if_pos (by omega), show q = k + 1 by omega]
def swR (a b n i : Nat) (l : List α) : List α := if i < n then swR a b n (i + 1) (swS l (a + i) (b + i)) else l
 termination_by n - i
theorem swR_ok (a b n lo hi i : Nat) (l : List α) (h1 : a + n ≤ b) (h2 : b + n ≤ hi) (h3 : hi ≤ l.length) (h4 : lo ≤ a) : Rch lo hi l (swR a b n i l) ∧ ∀ q, atS (swR a b n i l) q = if a + i ≤ q ∧ q < a + n then atS l (q + (b - a)) else if b + i ≤ q ∧ q < b + n then atS l (q - (b - a)) else atS l q := by
 rw [swR]
 split
 ·rename_i hlt
  have hs : ∀ q, atS (swS l (a + i) (b + i)) q = _ := fun q => atS_sw (l := l) (i := a + i) (j := b + i) (by omega) (by omega) q
  obtain ⟨r, f⟩ := swR_ok a b n lo hi (i + 1) (swS l (a + i) (b + i)) h1 h2 (by rw [swS_len]; exact h3) h4
  refine ⟨(Rch.sw (by omega) (by omega) (by omega) (by omega) h3).trans r, fun q => ?_⟩
  rw [f, hs, hs, hs]
  by_cases g1 : a + i ≤ q ∧ q < a + n
  ·rw [if_pos g1]
   by_cases g2 : q = a + i
   ·subst g2
    rw [if_neg (by omega), if_neg (by omega), if_neg (by omega), if_pos rfl, show a + i + (b - a) = b + i by omega]
   ·rw [if_pos (by omega), if_neg (by omega), if_neg (by omega)]
  ·rw [if_neg g1]
   by_cases g2 : b + i ≤ q ∧ q < b + n
   ·rw [if_pos g2]
    by_cases g3 : q = b + i
    ·subst g3
     rw [if_neg (by omega), if_neg (by omega), if_pos rfl, show b + i - (b - a) = a + i by omega]
    ·rw [if_neg (by omega), if_pos (by omega), if_neg (by omega), if_neg (by omega)]
   ·rw [if_neg g2, if_neg (by omega), if_neg (by omega), if_neg (by omega), if_neg (by omega)]
 ·refine ⟨Rch.refl _ _ _, fun q => ?_⟩
  rw [if_neg (by omega), if_neg (by omega)]
 termination_by n - i
def rotL (m i j : Nat) (l : List α) : List α :=
 if 0 < j ∧ j < i then rotL m (i - j) j (swR (m - i) m j 0 l) else if 0 < i ∧ i < j then rotL m i (j - i) (swR (m - i) (m + j - i) i 0 l) else swR (m - i) m i 0 l
 termination_by i + j
theorem rotL_ok (m lo hi i j : Nat) (l : List α) (h1 : 0 < i) (h2 : 0 < j) (h3 : i ≤ m) (h4 : m + j ≤ hi) (h5 : hi ≤ l.length) (h6 : lo ≤ m - i) :
  Rch lo hi l (rotL m i j l) ∧ ∀ q, atS (rotL m i j l) q = if m - i ≤ q ∧ q < m - i + j then atS l (q + i) else if m - i + j ≤ q ∧ q < m + j then atS l (q - j) else atS l q := by
 rw [rotL]
 split
 ·rename_i h
  obtain ⟨r, f⟩ := swR_ok (m - i) m j lo hi 0 l (by omega) (by omega) h5 h6
  obtain ⟨r', f'⟩ := rotL_ok m lo hi (i - j) j (swR (m - i) m j 0 l) (by omega) h2 (by omega) h4 (by rw [r.len]; exact h5) (by omega)
  refine ⟨r.trans r', fun q => ?_⟩
  rw [f', f, f, f]
  by_cases g1 : m - i ≤ q ∧ q < m - i + j
  ·rw [if_pos g1, if_neg (by omega), if_neg (by omega), if_pos (by omega), show q + (m - (m - i)) = q + i by omega]
  ·rw [if_neg g1]
   by_cases g2 : m - i + j ≤ q ∧ q < m + j
   ·rw [if_pos g2]
    by_cases g3 : q < m - i + j + j
    ·rw [if_pos (by omega)]
     by_cases g4 : q + (i - j) < m
     ·omega
     ·rw [if_neg (by omega), if_pos (by omega), show q + (i - j) - (m - (m - i)) = q - j by omega]
    ·rw [if_neg (by omega), if_pos (by omega), if_neg (by omega), if_neg (by omega)]
   ·rw [if_neg g2, if_neg (by omega), if_neg (by omega), if_neg (by omega), if_neg (by omega)]
 ·split
  ·rename_i hn h
   obtain ⟨r, f⟩ := swR_ok (m - i) (m + j - i) i lo hi 0 l (by omega) (by omega) h5 h6
   obtain ⟨r', f'⟩ := rotL_ok m lo hi i (j - i) (swR (m - i) (m + j - i) i 0 l) h1 (by omega) h3 (by omega) (by rw [r.len]; exact h5) h6
   refine ⟨r.trans r', fun q => ?_⟩
   rw [f', f, f, f]
   by_cases g2 : m - i + j ≤ q ∧ q < m + j
   ·rw [if_neg (by omega), if_neg (by omega), if_neg (by omega), if_pos (by omega), if_neg (by omega), if_pos g2, show q - (m + j - i - (m - i)) = q - j by omega]
   ·rw [if_neg g2]
    by_cases g1 : m - i ≤ q ∧ q < m - i + j
    ·rw [if_pos g1]
     by_cases g3 : q < m - i + (j - i)
     ·rw [if_pos (by omega)]
      by_cases g4 : q + i < m
      ·omega
      ·rw [if_neg (by omega), if_neg (by omega)]
     ·rw [if_neg (by omega), if_pos (by omega)]
      by_cases g4 : q - (j - i) < m
      ·rw [if_pos (by omega), show q - (j - i) + (m + j - i - (m - i)) = q + i by omega]
      ·omega
    ·rw [if_neg g1, if_neg (by omega), if_neg (by omega), if_neg (by omega), if_neg (by omega)]
  ·obtain ⟨r, f⟩ := swR_ok (m - i) m i lo hi 0 l (by omega) (by omega) h5 h6
   refine ⟨r, fun q => ?_⟩
   rw [f]
   have e : i = j := by omega
   subst e
   by_cases g1 : m - i ≤ q ∧ q < m - i + i
   ·rw [if_pos (by omega), if_pos g1, show q + (m - (m - i)) = q + i by omega]
   ·rw [if_neg (by omega), if_neg g1]
    by_cases g2 : m - i + i ≤ q ∧ q < m + i
    ·rw [if_pos (by omega), if_pos g2, show q - (m - (m - i)) = q - i by omega]
    ·rw [if_neg (by omega), if_neg g2]
 termination_by i + j
end
end Go.Proofs.YtjgmakalledclaaGreatDoor
namespace Go.Proofs.YtjgmakalledclaaGreatDoor
set_option maxRecDepth 4000
section
variable {α : Type} [Inhabited α]
def symS (c : α → α → Int) (a m b : Nat) (l : List α) : Nat :=
 bsF (fun h => !decide (c (atS l ((a + b) / 2 + m - 1 - h)) (atS l h) < 0)) (if m > (a + b) / 2 then (a + b) / 2 + m - b else a) (if m > (a + b) / 2 then (a + b) / 2 else m)
def symR (m s e : Nat) (l : List α) : List α := if s < m ∧ m < e then rotL m (m - s) (e - m) l else l
def symM (c : α → α → Int) : Nat → Nat → Nat → Nat → List α → List α
 | 0, _, _, _, l => l
 | n + 1, a, m, b, l =>
  if m - a = 1 then mvU (bsF (fun h => decide (c (atS l h) (atS l a) < 0)) m b - 1) a l
  else if b - m = 1 then mvD (bsF (fun h => !decide (c (atS l m) (atS l h) < 0)) a m) m l
  else
   (fun l2 => if (a + b) / 2 < (a + b) / 2 + m - symS c a m b l ∧ (a + b) / 2 + m - symS c a m b l < b then symM c n ((a + b) / 2) ((a + b) / 2 + m - symS c a m b l) b l2 else l2)
    ((fun l1 => if a < symS c a m b l ∧ symS c a m b l < (a + b) / 2 then symM c n a (symS c a m b l) ((a + b) / 2) l1 else l1) (symR m (symS c a m b l) ((a + b) / 2 + m - symS c a m b l) l))
theorem symM_ok {c : α → α → Int} (hc : Cmp3 c) : ∀ (n a m b : Nat) (l : List α), b - a ≤ n → a < m → m < b → b ≤ l.length → Srt c l a m → Srt c l m b → Rch a b l (symM c n a m b l) ∧ Srt c (symM c n a m b l) a b
 | 0, a, m, b, l, h0, h1, h2, _, _, _ => by omega
 | n + 1, a, m, b, l, h0, h1, h2, h3, h4, h5 => by
  simp only [symM]
  split
  ·rename_i hm
   obtain ⟨b1, b2, b3, b4⟩ := bsF_ok (fun h => decide (c (atS l h) (atS l a) < 0)) m b (by omega)
   generalize bsF (fun h => decide (c (atS l h) (atS l a) < 0)) m b = s at b1 b2 b3 b4 ⊢
   have e1 : m = a + 1 := by omega
   subst e1
   obtain ⟨r, f⟩ := mvU_ok a (s - 1) a l (by omega) (by omega) (Nat.le_refl _)
   refine ⟨r.mono (Nat.le_refl _) (by omega), fun p q g1 g2 g3 => ?_⟩
   rw [f, f]
   have k1 : ∀ x, a + 1 ≤ x → x < s → c (atS l x) (atS l a) ≤ 0 := fun x x1 x2 => by
    rcases b3 with b3 | b3
    ·omega
    ·have b3' := of_decide_eq_true b3
     by_cases e : x = s - 1
     ·subst e; omega
     ·exact hc.tr _ _ _ (h5 x (s - 1) x1 (by omega) (by omega)) (by omega)
   have k2 : ∀ x, s ≤ x → x < b → c (atS l a) (atS l x) ≤ 0 := fun x x1 x2 => by
    rcases b4 with b4 | b4
    ·omega
    ·have b4' := of_decide_eq_false b4
     have := hc.anti (atS l s) (atS l a)
     by_cases e : x = s
     ·subst e; omega
     ·exact hc.tr _ _ _ (show c (atS l a) (atS l s) ≤ 0 by omega) (h5 s x b1 (by omega) x2)
   by_cases p1 : p < a ∨ s - 1 < p
   ·rw [if_pos p1, if_pos (by omega)]
    exact h5 p q (by omega) g2 g3
   ·rw [if_neg p1]
    by_cases p2 : p = s - 1
    ·rw [if_pos p2, if_pos (by omega)]
     exact k2 q (by omega) g3
    ·rw [if_neg p2]
     by_cases q1 : q < a ∨ s - 1 < q
     ·rw [if_pos q1]
      exact h5 (p + 1) q (by omega) (by omega) g3
     ·rw [if_neg q1]
      by_cases q2 : q = s - 1
      ·rw [if_pos q2]
       exact k1 (p + 1) (by omega) (by omega)
      ·rw [if_neg q2]
       exact h5 (p + 1) (q + 1) (by omega) (by omega) (by omega)
  ·split
   ·rename_i hm1 hm
    obtain ⟨b1, b2, b3, b4⟩ := bsF_ok (fun h => !decide (c (atS l m) (atS l h) < 0)) a m (by omega)
    generalize bsF (fun h => !decide (c (atS l m) (atS l h) < 0)) a m = s at b1 b2 b3 b4 ⊢
    have e1 : b = m + 1 := by omega
    subst e1
    obtain ⟨r, f⟩ := mvD_ok s (m + 1) m l (by omega) (by omega) (by omega) h3
    refine ⟨r.mono (by omega) (Nat.le_refl _), fun p q g1 g2 g3 => ?_⟩
    rw [f, f]
    have k1 : ∀ x, a ≤ x → x < s → c (atS l x) (atS l m) ≤ 0 := fun x x1 x2 => by
     rcases b3 with b3 | b3
     ·omega
     ·have b3' : ¬ c (atS l m) (atS l (s - 1)) < 0 := by simpa using b3
      have := hc.anti (atS l m) (atS l (s - 1))
      by_cases e : x = s - 1
      ·subst e; omega
      ·exact hc.tr _ _ _ (h4 x (s - 1) x1 (by omega) (by omega)) (by omega)
    have k2 : ∀ x, s ≤ x → x < m → c (atS l m) (atS l x) ≤ 0 := fun x x1 x2 => by
     rcases b4 with b4 | b4
     ·omega
     ·have b4' : c (atS l m) (atS l s) < 0 := by simpa using b4
      by_cases e : x = s
      ·subst e; omega
      ·exact hc.tr _ _ _ (show c (atS l m) (atS l s) ≤ 0 by omega) (h4 s x b1 (by omega) x2)
    by_cases p1 : p < s ∨ m < p
    ·rw [if_pos p1]
     by_cases q1 : q < s ∨ m < q
     ·rw [if_pos q1]
      exact h4 p q g1 g2 (by omega)
     ·rw [if_neg q1]
      by_cases q2 : q = s
      ·rw [if_pos q2]
       exact k1 p g1 (by omega)
      ·rw [if_neg q2]
       exact h4 p (q - 1) g1 (by omega) (by omega)
    ·rw [if_neg p1]
     by_cases p2 : p = s
     ·rw [if_pos p2, if_neg (by omega), if_neg (by omega)]
      exact k2 (q - 1) (by omega) (by omega)
     ·rw [if_neg p2, if_neg (by omega), if_neg (by omega)]
      exact h4 (p - 1) (q - 1) (by omega) (by omega) (by omega)
   ·rename_i hm1 hm2
    have hS := bsF_ok (fun h => !decide (c (atS l ((a + b) / 2 + m - 1 - h)) (atS l h) < 0)) (if m > (a + b) / 2 then (a + b) / 2 + m - b else a) (if m > (a + b) / 2 then (a + b) / 2 else m) (by split <;> omega)
    change _ ≤ symS c a m b l ∧ symS c a m b l ≤ _ ∧ (symS c a m b l = _ ∨ (!decide (c (atS l ((a + b) / 2 + m - 1 - (symS c a m b l - 1))) (atS l (symS c a m b l - 1)) < 0)) = true) ∧ (symS c a m b l = _ ∨ (!decide (c (atS l ((a + b) / 2 + m - 1 - (symS c a m b l))) (atS l (symS c a m b l)) < 0)) = false) at hS
    generalize symS c a m b l = s at hS ⊢
    obtain ⟨b1, b2, b3, b4⟩ := hS
    have hd : ∃ d, d = (a + b) / 2 := ⟨_, rfl⟩
    obtain ⟨d, hd⟩ := hd
    rw [← hd] at b1 b2 b3 b4 ⊢
    have hd1 : 2 * d ≤ a + b := by omega
    have hd2 : a + b ≤ 2 * d + 1 := by omega
    have c1 : a ≤ s ∧ s ≤ m ∧ s ≤ d ∧ d + m - s ≤ b := by
     by_cases hmd : m > d
     ·rw [if_pos hmd] at b1 b2; omega
     ·rw [if_neg hmd] at b1 b2; omega
    have b3' : (s = a ∨ d + m - s = b) ∨ c (atS l (s - 1)) (atS l (d + m - s)) ≤ 0 ∨ s = 0 := by
     rcases b3 with b3 | b3
     ·left
      by_cases hmd : m > d
      ·rw [if_pos hmd] at b3; omega
      ·rw [if_neg hmd] at b3; omega
     ·right
      by_cases hs0 : s = 0
      ·exact .inr hs0
      ·left
       rw [show d + m - 1 - (s - 1) = d + m - s by omega] at b3
       have b3' : ¬ c (atS l (d + m - s)) (atS l (s - 1)) < 0 := by simpa using b3
       have := hc.anti (atS l (d + m - s)) (atS l (s - 1))
       omega
    have b4' : (s = d ∨ s = m) ∨ c (atS l (d + m - s - 1)) (atS l s) ≤ 0 := by
     rcases b4 with b4 | b4
     ·left
      by_cases hmd : m > d
      ·rw [if_pos hmd] at b4; omega
      ·rw [if_neg hmd] at b4; omega
     ·right
      rw [show d + m - 1 - s = d + m - s - 1 by omega] at b4
      have : c (atS l (d + m - s - 1)) (atS l s) < 0 := by simpa using b4
      omega
    clear b1 b2 b3 b4
    have he : ∃ e, e = d + m - s := ⟨_, rfl⟩
    obtain ⟨e, he⟩ := he
    rw [← he] at b3' b4' c1 ⊢
    have c2 : e + s = d + m := by omega
    clear he
    -- the rotation
    have hR : Rch a b l (symR m s e l) ∧ ∀ q, atS (symR m s e l) q = if s ≤ q ∧ q < d then atS l (q + (m - s)) else if d ≤ q ∧ q < e then atS l (q - (e - m)) else atS l q := by
     unfold symR
     split
     ·rename_i hh
      obtain ⟨r, f⟩ := rotL_ok m a b (m - s) (e - m) l (by omega) (by omega) (by omega) (by omega) h3 (by omega)
      refine ⟨r, fun q => ?_⟩
      rw [f, show m - (m - s) = s by omega, show s + (e - m) = d by omega, show m + (e - m) = e by omega]
     ·rename_i hh
      refine ⟨Rch.refl _ _ _, fun q => ?_⟩
      by_cases q1 : s ≤ q ∧ q < d
      ·rw [if_pos q1, show q + (m - s) = q by omega]
      ·rw [if_neg q1]
       by_cases q2 : d ≤ q ∧ q < e
       ·rw [if_pos q2, show q - (e - m) = q by omega]
       ·rw [if_neg q2]
    obtain ⟨r1, f1⟩ := hR
    generalize symR m s e l = l1 at r1 f1 ⊢
    have len1 : b ≤ l1.length := by rw [r1.len]; exact h3
    have sa : Srt c l1 a s := fun p q g1 g2 g3 => by
     rw [f1, f1, if_neg (by omega), if_neg (by omega), if_neg (by omega), if_neg (by omega)]
     exact h4 p q g1 g2 (by omega)
    have sb : Srt c l1 s d := fun p q g1 g2 g3 => by
     rw [f1, f1, if_pos (by omega), if_pos (by omega)]
     exact h5 _ _ (by omega) (by omega) (by omega)
    have sc : Srt c l1 d e := fun p q g1 g2 g3 => by
     rw [f1, f1, if_neg (by omega), if_pos (by omega), if_neg (by omega), if_pos (by omega)]
     exact h4 _ _ (by omega) (by omega) (by omega)
    have sd : Srt c l1 e b := fun p q g1 g2 g3 => by
     rw [f1, f1, if_neg (by omega), if_neg (by omega), if_neg (by omega), if_neg (by omega)]
     exact h5 p q (by omega) g2 g3
    have cross : ∀ p q, a ≤ p → p < d → d ≤ q → q < b → c (atS l1 p) (atS l1 q) ≤ 0 := by
     intro p q g1 g2 g3 g4
     rw [f1, f1]
     by_cases p1 : s ≤ p
     ·rw [if_pos ⟨p1, g2⟩, if_neg (by omega)]
      by_cases q1 : q < e
      ·rw [if_pos ⟨g3, q1⟩]
       rcases b4' with b4' | b4'
       ·omega
       ·have x1 : c (atS l (p + (m - s))) (atS l (e - 1)) ≤ 0 := by
         by_cases z : p + (m - s) = e - 1
         ·rw [z]; exact hc.self _
         ·exact h5 _ _ (by omega) (by omega) (by omega)
        have x2 : c (atS l s) (atS l (q - (e - m))) ≤ 0 := by
         by_cases z : s = q - (e - m)
         ·rw [← z]; exact hc.self _
         ·exact h4 _ _ (by omega) (by omega) (by omega)
        exact hc.tr _ _ _ x1 (hc.tr _ _ _ b4' x2)
      ·rw [if_neg (by omega)]
       exact h5 _ _ (by omega) (by omega) g4
     ·rw [if_neg (by omega), if_neg (by omega), if_neg (by omega)]
      by_cases q1 : q < e
      ·rw [if_pos ⟨g3, q1⟩]
       exact h4 _ _ g1 (by omega) (by omega)
      ·rw [if_neg (by omega)]
       rcases b3' with b3' | b3' | b3'
       ·omega
       ·have x1 : c (atS l p) (atS l (s - 1)) ≤ 0 := by
         by_cases z : p = s - 1
         ·rw [z]; exact hc.self _
         ·exact h4 _ _ g1 (by omega) (by omega)
        have x2 : c (atS l e) (atS l q) ≤ 0 := by
         by_cases z : e = q
         ·rw [z]; exact hc.self _
         ·exact h5 _ _ (by omega) (by omega) g4
        exact hc.tr _ _ _ x1 (hc.tr _ _ _ b3' x2)
       ·omega
    have hL : Rch a d l1 (if a < s ∧ s < d then symM c n a s d l1 else l1) ∧ Srt c (if a < s ∧ s < d then symM c n a s d l1 else l1) a d := by
     split
     ·rename_i hh
      exact symM_ok hc n a s d l1 (by omega) hh.1 hh.2 (by omega) sa sb
     ·rename_i hh
      refine ⟨Rch.refl _ _ _, fun p q g1 g2 g3 => ?_⟩
      by_cases z : s = a
      ·exact sb p q (by omega) g2 g3
      ·exact sa p q g1 g2 (by omega)
    obtain ⟨r2, s2⟩ := hL
    generalize (if a < s ∧ s < d then symM c n a s d l1 else l1) = l2 at r2 s2 ⊢
    have sc2 := sc.out r2 (.inr (Nat.le_refl _))
    have sd2 := sd.out r2 (.inr (by omega))
    have hL : Rch d b l2 (if d < e ∧ e < b then symM c n d e b l2 else l2) ∧ Srt c (if d < e ∧ e < b then symM c n d e b l2 else l2) d b := by
     split
     ·rename_i hh
      exact symM_ok hc n d e b l2 (by omega) hh.1 hh.2 (by rw [r2.len]; omega) sc2 sd2
     ·rename_i hh
      refine ⟨Rch.refl _ _ _, fun p q g1 g2 g3 => ?_⟩
      by_cases z : e = d
      ·exact sd2 p q (by omega) g2 g3
      ·exact sc2 p q g1 g2 (by omega)
    obtain ⟨r3, s3⟩ := hL
    generalize (if d < e ∧ e < b then symM c n d e b l2 else l2) = l3 at r3 s3 ⊢
    refine ⟨(r1.trans (r2.mono (Nat.le_refl _) (by omega))).trans (r3.mono (by omega) (Nat.le_refl _)), fun p q g1 g2 g3 => ?_⟩
    by_cases z1 : q < d
    ·rw [r3.out p (by omega), r3.out q (by omega)]
     exact s2 p q g1 g2 z1
    ·by_cases z2 : d ≤ p
     ·exact s3 p q z2 g2 g3
     ·obtain ⟨q', y1, y2, y3⟩ := r3.inn q (by omega) g3
      obtain ⟨p', x1, x2, x3⟩ := r2.inn p g1 (by omega)
      rw [y3, r3.out p (by omega), x3, r2.out q' (by omega)]
      exact cross p' q' x1 x2 y1 y2
def stA (c : α → α → Int) (n a b : Nat) (l : List α) : List α := if b ≤ n then stA c n b (b + 20) (insF c a b l) else insF c a n l
 termination_by n + 1 - b
 decreasing_by omega
def stM (c : α → α → Int) (n z a b : Nat) (l : List α) : List α := if 0 < z ∧ b ≤ n then stM c n z b (b + 2 * z) (symM c (b - a) a (a + z) b l) else if a + z < n then symM c (n - a) a (a + z) n l else l
 termination_by n + 1 - b
 decreasing_by omega
def stO (c : α → α → Int) (n z : Nat) (l : List α) : List α := if 0 < z ∧ z < n then stO c n (2 * z) (stM c n z 0 (2 * z) l) else l
 termination_by n - z
 decreasing_by omega
def stS (c : α → α → Int) (l : List α) : List α := stO c l.length 20 (stA c l.length 0 20 l)
theorem stA_ok {c : α → α → Int} (hc : Cmp3 c) (n a : Nat) (l : List α) (hn : n ≤ l.length) : Rch a n l (stA c n a (a + 20) l) ∧ ∀ t, Srt c (stA c n a (a + 20) l) (a + t * 20) (min (a + t * 20 + 20) n) := by
 rw [stA]
 split
 ·rename_i h
  obtain ⟨r1, s1⟩ := insF_ok hc (a := a) (b := a + 20) (l := l) (by omega)
  obtain ⟨r2, s2⟩ := stA_ok hc n (a + 20) (insF c a (a + 20) l) (by rw [r1.len]; exact hn)
  refine ⟨(r1.mono (Nat.le_refl _) h).trans (r2.mono (by omega) (Nat.le_refl _)), fun t => ?_⟩
  cases t with
  | zero => exact (s1.out r2 (.inl (Nat.le_refl _))).sub (by omega) (by omega)
  | succ t => exact (s2 t).sub (by omega) (by omega)
 ·rename_i h
  obtain ⟨r1, s1⟩ := insF_ok hc (a := a) (b := n) (l := l) hn
  exact ⟨r1, fun t => s1.sub (by omega) (by omega)⟩
 termination_by n - a
theorem stM_ok {c : α → α → Int} (hc : Cmp3 c) (n z a : Nat) (l : List α) (hn : n ≤ l.length) (hz : 0 < z) (hs : ∀ t, Srt c l (a + t * z) (min (a + t * z + z) n)) :
  Rch a n l (stM c n z a (a + 2 * z) l) ∧ ∀ t, Srt c (stM c n z a (a + 2 * z) l) (a + t * (2 * z)) (min (a + t * (2 * z) + 2 * z) n) := by
 have t0 := hs 0
 have t1 := hs 1
 rw [Nat.zero_mul] at t0
 rw [Nat.one_mul] at t1
 rw [stM]
 split
 ·rename_i h
  obtain ⟨r1, s1⟩ := symM_ok hc (a + 2 * z - a) a (a + z) (a + 2 * z) l (Nat.le_refl _) (by omega) (by omega) (by omega) (t0.sub (by omega) (by omega)) (t1.sub (by omega) (by omega))
  obtain ⟨r2, s2⟩ := stM_ok hc n z (a + 2 * z) _ (by rw [r1.len]; exact hn) hz (fun t => by
   have := hs (t + 2)
   rw [show (t + 2) * z = t * z + 2 * z by rw [Nat.add_mul]] at this
   refine (this.out r1 (.inr (by omega))).sub (by omega) (by omega))
  refine ⟨(r1.mono (Nat.le_refl _) h.2).trans (r2.mono (by omega) (Nat.le_refl _)), fun t => ?_⟩
  cases t with
  | zero =>
   rw [Nat.zero_mul]
   exact (s1.out r2 (.inl (Nat.le_refl _))).sub (by omega) (by omega)
  | succ t =>
   have := s2 t
   rw [show (t + 1) * (2 * z) = t * (2 * z) + 2 * z by rw [Nat.add_mul, Nat.one_mul]]
   exact this.sub (by omega) (by omega)
 ·rename_i h
  have hb : ∀ (l' : List α), Srt c l' a n → ∀ t, Srt c l' (a + t * (2 * z)) (min (a + t * (2 * z) + 2 * z) n) := fun l' h' t => h'.sub (by omega) (by omega)
  split
  ·rename_i h'
   obtain ⟨r1, s1⟩ := symM_ok hc (n - a) a (a + z) n l (Nat.le_refl _) (by omega) h' hn (t0.sub (by omega) (by omega)) (t1.sub (by omega) (by omega))
   exact ⟨r1, hb _ s1⟩
  ·exact ⟨Rch.refl _ _ _, hb _ (t0.sub (by omega) (by omega))⟩
 termination_by n - a
theorem stO_ok {c : α → α → Int} (hc : Cmp3 c) (n z : Nat) (l : List α) (hn : n ≤ l.length) (hz : 0 < z) (hs : ∀ t, Srt c l (0 + t * z) (min (0 + t * z + z) n)) : Rch 0 n l (stO c n z l) ∧ Srt c (stO c n z l) 0 n := by
 rw [stO]
 split
 ·rename_i h
  obtain ⟨r1, s1⟩ := stM_ok hc n z 0 l hn hz hs
  rw [Nat.zero_add] at r1 s1
  obtain ⟨r2, s2⟩ := stO_ok hc n (2 * z) (stM c n z 0 (2 * z) l) (by rw [r1.len]; exact hn) (by omega) (fun t => s1 t)
  exact ⟨r1.trans r2, s2⟩
 ·have := hs 0
  rw [Nat.zero_mul] at this
  exact ⟨Rch.refl _ _ _, this.sub (by omega) (by omega)⟩
 termination_by n - z
theorem stS_ok {c : α → α → Int} (hc : Cmp3 c) (l : List α) : Rch 0 l.length l (stS c l) ∧ Srt c (stS c l) 0 l.length := by
 unfold stS
 obtain ⟨r1, s1⟩ := stA_ok hc l.length 0 l (Nat.le_refl _)
 rw [Nat.zero_add] at r1 s1
 obtain ⟨r2, s2⟩ := stO_ok hc l.length 20 _ (by rw [r1.len]; exact Nat.le_refl _) (by omega) s1
 exact ⟨r1.trans r2, s2⟩
theorem srt_pw {c : α → α → Int} {l : List α} : Srt c l 0 l.length → l.Pairwise (fun x y => c x y ≤ 0) := by
 intro h
 rw [List.pairwise_iff_getElem]
 intro i j hi hj hij
 have := h i j (by omega) hij hj
 unfold atS at this
 simpa [List.getD_eq_getElem?_getD, List.getElem?_eq_getElem hi, List.getElem?_eq_getElem hj] using this
omit [Inhabited α] in
theorem pw_uniq {c : α → α → Int} (hc : Cmp3 c) (hz : ∀ x y, c x y = 0 → x = y) : ∀ (l l' : List α), l.Perm l' → l.Pairwise (fun x y => c x y ≤ 0) → l'.Pairwise (fun x y => c x y ≤ 0) → l = l'
 | [], l', hp, _, _ => hp.nil_eq
 | x :: r, [], hp, _, _ => absurd hp.length_eq (by simp)
 | x :: r, y :: r', hp, h, h' => by
  rw [List.pairwise_cons] at h h'
  have e : x = y := by
   have m1 : x ∈ y :: r' := hp.subset (by simp)
   have m2 : y ∈ x :: r := hp.symm.subset (by simp)
   rcases List.mem_cons.1 m1 with e | m1
   ·exact e
   ·rcases List.mem_cons.1 m2 with e | m2
    ·exact e.symm
    ·refine hz _ _ ?_
     have a1 := h.1 y m2
     have a2 := h'.1 x m1
     have := hc.anti x y
     omega
  subst e
  rw [pw_uniq hc hz r r' hp.cons_inv h.2 h'.2]
end
end Go.Proofs.YtjgmakalledclaaGreatDoor
namespace Go.Proofs.YtjgmakalledclaaGreatDoor
set_option maxRecDepth 4000
open Go Go.Abs Go.RowKit Go.Proofs.Tryz
section
variable {α : Type} [Inhabited α] {en : α → D}
theorem row_get {l : List α} {i : Int} {p : Nat} (hp : p < l.length) (hi : i.toNat = p) : (l.map en)[i.toNat]? = some (en (atS l p)) := by
 rw [hi, List.getElem?_map, atS_get hp]
 rfl
omit [Inhabited α] in
theorem map_setS {l : List α} {p : Nat} {x : α} : (l.map en).set p (en x) = (l.set p x).map en := by rw [List.map_set]
theorem sw_get2 (hsub : ∀ x y, subD (en x) 0 (en y) = en y) {l : List α} {i j : Int} {p q : Nat} (hp : p < l.length) (hq : q < l.length) (hi : i.toNat = p) (hj : j.toNat = q) : ((l.map en).set i.toNat (subD (en (atS l p)) 0 (en (atS l q))))[j.toNat]? = some (en (atS l q)) := by
 rw [hi, hj, hsub, List.getElem?_set]
 by_cases h : p = q
 ·rw [if_pos h, if_pos (by simpa using hp)]
 ·rw [if_neg h, List.getElem?_map, atS_get hq]; rfl
theorem sw_row (hsub : ∀ x y, subD (en x) 0 (en y) = en y) {l : List α} {i j : Int} {p q : Nat} (hi : i.toNat = p) (hj : j.toNat = q) : ((l.map en).set i.toNat (subD (en (atS l p)) 0 (en (atS l q)))).set j.toNat (subD (en (atS l q)) 0 (en (atS l p))) = (swS l p q).map en := by
 rw [hi, hj, hsub, hsub]
 unfold swS
 rw [map_setS, map_setS]
end
structure SwT {α : Type} [Inhabited α] (l : List α) (a b n : Nat) where
 i : Nat
 l1 : List α
 hl : l1.length = l.length
 hi : i ≤ n
 ht : swR a b n i l1 = swR a b n 0 l
end Go.Proofs.YtjgmakalledclaaGreatDoor
namespace Go.Proofs.YtjgmakalledclaaGreatDoor
set_option maxRecDepth 4000
section
variable {α : Type} [Inhabited α]
theorem swR_len (a b n i : Nat) (l : List α) : (swR a b n i l).length = l.length := by
 rw [swR]
 split
 ·rw [swR_len, swS_len]
 ·rfl
 termination_by n - i
theorem rotL_len (m i j : Nat) (l : List α) : (rotL m i j l).length = l.length := by
 rw [rotL]
 split
 ·rw [rotL_len, swR_len]
 ·split
  ·rw [rotL_len, swR_len]
  ·rw [swR_len]
 termination_by i + j
theorem insJ_len (c : α → α → Int) (a : Nat) : ∀ (j : Nat) (l : List α), (insJ c a j l).length = l.length
 | 0, l => rfl
 | j + 1, l => by
  simp only [insJ]
  split
  ·rw [insJ_len, swS_len]
  ·rfl
theorem insI_len (c : α → α → Int) (a : Nat) : ∀ (n i : Nat) (l : List α), (insI c a n i l).length = l.length
 | 0, _, l => rfl
 | n + 1, i, l => by
  simp only [insI]
  rw [insI_len, insJ_len]
theorem insF_len (c : α → α → Int) (a b : Nat) (l : List α) : (insF c a b l).length = l.length := insI_len c a _ _ l
theorem mvU_len (e k : Nat) (l : List α) : (mvU e k l).length = l.length := by
 rw [mvU]
 split
 ·rw [mvU_len, swS_len]
 ·rfl
 termination_by e - k
theorem mvD_len (i : Nat) : ∀ (k : Nat) (l : List α), (mvD i k l).length = l.length
 | 0, l => rfl
 | k + 1, l => by
  simp only [mvD]
  split
  ·rw [mvD_len, swS_len]
  ·rfl
theorem symR_len (m s e : Nat) (l : List α) : (symR m s e l).length = l.length := by
 unfold symR
 split
 ·exact rotL_len _ _ _ _
 ·rfl
theorem symM_len (c : α → α → Int) : ∀ (n a m b : Nat) (l : List α), (symM c n a m b l).length = l.length
 | 0, _, _, _, _ => rfl
 | n + 1, a, m, b, l => by
  simp only [symM]
  split
  ·exact mvU_len _ _ _
  ·split
   ·exact mvD_len _ _ _
   ·split
    ·rw [symM_len]
     split
     ·rw [symM_len, symR_len]
     ·exact symR_len _ _ _ _
    ·split
     ·rw [symM_len, symR_len]
     ·exact symR_len _ _ _ _
theorem insJ_go {c : α → α → Int} {a j : Nat} {l : List α} (h : a < j) (hc : c (atS l j) (atS l (j - 1)) < 0) : insJ c a j l = insJ c a (j - 1) (swS l j (j - 1)) := by
 cases j with
 | zero => omega
 | succ k => rw [Nat.add_sub_cancel] at hc ⊢; rw [insJ, if_pos ⟨h, hc⟩]
theorem insJ_end {c : α → α → Int} {a j : Nat} {l : List α} (h : ¬ (a < j ∧ c (atS l j) (atS l (j - 1)) < 0)) : insJ c a j l = l := by
 cases j with
 | zero => rfl
 | succ k => rw [Nat.add_sub_cancel] at h; rw [insJ, if_neg h]
theorem mvD_go {i k : Nat} {l : List α} (h : i < k) : mvD i k l = mvD i (k - 1) (swS l k (k - 1)) := by
 cases k with
 | zero => omega
 | succ k => rw [Nat.add_sub_cancel]; rw [mvD, if_pos h]
theorem mvD_end {i k : Nat} {l : List α} (h : ¬ i < k) : mvD i k l = l := by
 cases k with
 | zero => rfl
 | succ k => rw [mvD, if_neg h]
end
structure RoZ {α : Type} [Inhabited α] (l : List α) (m : Nat) (R : List α) where
 i : Int
 j : Int
 l1 : List α
 hl : l1.length = l.length
 hi : 0 < i
 hj : 0 < j
 him : i ≤ m
 hjm : m + j ≤ l.length
 ht : rotL m i.toNat j.toNat l1 = R
structure InJZ {α : Type} [Inhabited α] (c : α → α → Int) (l : List α) (a i : Nat) (R : List α) where
 j : Int
 l1 : List α
 hl : l1.length = l.length
 hj : j ≤ i
 ha : (a : Int) ≤ j
 ht : insJ c a j.toNat l1 = R
structure InIZ {α : Type} [Inhabited α] (c : α → α → Int) (l : List α) (a b : Nat) where
 i : Nat
 l1 : List α
 hl : l1.length = l.length
 hi : a + 1 ≤ i
 ht : insI c a (b - i) i l1 = insF c a b l
structure BsZ (P : Nat → Bool) (i0 j0 : Int) (R : Nat) where
 i : Int
 j : Int
 hi : i0 ≤ i
 hij : i ≤ j
 hj : j ≤ j0
 ht : bsF P i.toNat j.toNat = R
structure MuZ {α : Type} [Inhabited α] (l : List α) (a e : Nat) (R : List α) where
 k : Nat
 l1 : List α
 hl : l1.length = l.length
 hk : a ≤ k
 hke : k ≤ e
 ht : mvU e k l1 = R
structure MdZ {α : Type} [Inhabited α] (l : List α) (i k0 : Nat) (R : List α) where
 k : Int
 l1 : List α
 hl : l1.length = l.length
 hk : k ≤ k0
 hki : (i : Int) ≤ k
 ht : mvD i k.toNat l1 = R
structure StA {α : Type} [Inhabited α] (c : α → α → Int) (n : Nat) (l R : List α) where
 a : Nat
 b : Nat
 l1 : List α
 hl : l1.length = l.length
 ha : a ≤ n
 hb : b ≤ n + 20
 ht : stA c n a b l1 = R
structure StM {α : Type} [Inhabited α] (c : α → α → Int) (n z : Nat) (l R : List α) where
 a : Nat
 b : Nat
 l1 : List α
 hl : l1.length = l.length
 hab : b = a + 2 * z
 hb : a ≤ n
 ht : stM c n z a b l1 = R
structure StO {α : Type} [Inhabited α] (c : α → α → Int) (n : Nat) (l R : List α) where
 z : Nat
 l1 : List α
 hl : l1.length = l.length
 hz : 0 < z
 hzn : z ≤ 2 * n + 20
 ht : stO c n z l1 = R
end Go.Proofs.YtjgmakalledclaaGreatDoor
namespace Go.Proofs.YtjgmakalledclaaGreatDoor
set_option maxRecDepth 4000
section
variable {α : Type} [Inhabited α]
def symA (c : α → α → Int) (n a mid S : Nat) (l : List α) : List α := if a < S ∧ S < mid then symM c n a S mid l else l
def symB (c : α → α → Int) (n mid m b S : Nat) (l : List α) : List α := if mid < mid + m - S ∧ mid + m - S < b then symM c n mid (mid + m - S) b l else l
theorem symM_big {c : α → α → Int} {n a m b mid : Nat} {l : List α} (e1 : ¬ m - a = 1) (e2 : ¬ b - m = 1) (hmid : mid = (a + b) / 2) :
  symM c (n + 1) a m b l = symB c n mid m b (symS c a m b l) (symA c n a mid (symS c a m b l) (symR m (symS c a m b l) (mid + m - symS c a m b l) l)) := by
 subst hmid
 simp only [symM]
 rw [if_neg e1, if_neg e2]
 rfl
theorem stA_len (c : α → α → Int) (n a b : Nat) (l : List α) : (stA c n a b l).length = l.length := by
 rw [stA]
 split
 ·rw [stA_len, insF_len]
 ·exact insF_len _ _ _ _
 termination_by n + 1 - b
 decreasing_by omega
theorem stM_len (c : α → α → Int) (n z a b : Nat) (l : List α) : (stM c n z a b l).length = l.length := by
 rw [stM]
 split
 ·rw [stM_len, symM_len]
 ·split
  ·exact symM_len _ _ _ _ _ _
  ·rfl
 termination_by n + 1 - b
 decreasing_by omega
end
end Go.Proofs.YtjgmakalledclaaGreatDoor
namespace Go.Proofs.YtjgmakalledclaaGreatDoor
set_option maxRecDepth 4000
section
variable {α β : Type} [Inhabited α] [Inhabited β]
end
section
variable {α : Type} [Inhabited α]
def uniG (c : α → α → Int) : α → List α → List α
 | _, [] => []
 | p, x :: r => if c p x = 0 then uniG c x r else x :: uniG c x r
def uniF (c : α → α → Int) : List α → List α
 | [] => []
 | x :: r => x :: uniG c x r
theorem drop_atS {l : List α} {k : Nat} (h : k < l.length) : l.drop k = atS l k :: l.drop (k + 1) := by
 rw [List.drop_eq_getElem_cons h]
 congr 1
 unfold atS
 rw [List.getD_eq_getElem?_getD, List.getElem?_eq_getElem h]
 rfl
omit [Inhabited α] in
theorem take_set1 {l : List α} {k : Nat} {x : α} (h : k < l.length) : (l.set k x).take (k + 1) = l.take k ++ [x] := by
 rw [List.take_add_one, List.getElem?_set_self h, List.take_set_of_le (Nat.le_refl _)]
 rfl
theorem take_atS {l : List α} {k : Nat} (h : k < l.length) : l.take (k + 1) = l.take k ++ [atS l k] := by
 rw [List.take_add_one, List.getElem?_eq_getElem h]
 unfold atS
 rw [List.getD_eq_getElem?_getD, List.getElem?_eq_getElem h]
 rfl
theorem uniF_one {c : α → α → Int} {l : List α} (h : 1 ≤ l.length) : uniF c l = l.take 1 ++ uniG c (atS l 0) (l.drop 1) := by
 cases l with
 | nil => simp at h
 | cons x r => simp [uniF, atS]
omit [Inhabited α] in
theorem uniF_short {c : α → α → Int} {l : List α} (h : l.length < 2) : uniF c l = l := by
 match l, h with
 | [], _ => rfl
 | [x], _ => rfl
 | _ :: _ :: _, h => simp at h; omega
structure CpT (c : α → α → Int) (l : List α) where
 k : Nat
 h1 : 1 ≤ k
 hk : k ≤ l.length
 ht : uniF c l = l.take k ++ uniG c (atS l (k - 1)) (l.drop k)
structure CqT (c : α → α → Int) (l : List α) (k0 : Nat) where
 k : Nat
 k2 : Nat
 l1 : List α
 hl : l1.length = l.length
 hk2 : 1 ≤ k2
 hb : k0 + k2 ≤ l.length
 hkk : k + 1 ≤ k0 + k2
 ha : ∀ q, k0 + k2 ≤ q + 1 → atS l1 q = atS l q
 ht : uniF c l = l1.take k ++ uniG c (atS l (k0 + k2 - 1)) (l.drop (k0 + k2))
def CpT.next {c : α → α → Int} {l : List α} (p : CpT c l) (h : p.k < l.length) (hc : c (atS l (p.k - 1)) (atS l p.k) ≠ 0) : CpT c l :=
 ⟨p.k + 1, by omega, by omega, by
  rw [p.ht, drop_atS h, uniG, if_neg hc, take_atS h]
  simp⟩
def CpT.start {c : α → α → Int} {l : List α} (h : 1 ≤ l.length) : CpT c l := ⟨1, Nat.le_refl _, h, uniF_one h⟩
theorem CpT.done {c : α → α → Int} {l : List α} (p : CpT c l) (h : l.length ≤ p.k) : uniF c l = l := by
 rw [p.ht, List.drop_eq_nil_of_le h, List.take_of_length_le h, uniG, List.append_nil]
def CqT.start {c : α → α → Int} {l : List α} (p : CpT c l) (h : p.k < l.length) (hc : c (atS l (p.k - 1)) (atS l p.k) = 0) : CqT c l p.k :=
 ⟨p.k, 1, l, rfl, Nat.le_refl _, by omega, Nat.le_refl _, fun _ _ => rfl, by
  rw [p.ht, drop_atS h, uniG, if_pos hc]
  rfl⟩
def CqT.keep {c : α → α → Int} {l : List α} {k0 : Nat} (p : CqT c l k0) (h : k0 + p.k2 < l.length) (hc : c (atS l (k0 + p.k2 - 1)) (atS l (k0 + p.k2)) ≠ 0) : CqT c l k0 :=
 ⟨p.k + 1, p.k2 + 1, p.l1.set p.k (atS l (k0 + p.k2)), by rw [List.length_set, p.hl], by omega, by omega, by have := p.hkk; omega, fun q hq => by
  have := p.hkk
  rw [← p.ha q (by omega)]
  unfold atS
  simp only [List.getD_eq_getElem?_getD]
  rw [List.getElem?_set_ne (by omega)], by
  have h1 := p.hkk
  have h2 := p.hl
  rw [p.ht, drop_atS h, uniG, if_neg hc, take_set1 (by omega), show k0 + (p.k2 + 1) - 1 = k0 + p.k2 by omega]
  simp [Nat.add_assoc]⟩
def CqT.drop {c : α → α → Int} {l : List α} {k0 : Nat} (p : CqT c l k0) (h : k0 + p.k2 < l.length) (hc : c (atS l (k0 + p.k2 - 1)) (atS l (k0 + p.k2)) = 0) : CqT c l k0 :=
 ⟨p.k, p.k2 + 1, p.l1, p.hl, by omega, by omega, by have := p.hkk; omega, fun q hq => p.ha q (by omega), by
  rw [p.ht, drop_atS h, uniG, if_pos hc, show k0 + (p.k2 + 1) - 1 = k0 + p.k2 by omega, ← Nat.add_assoc]⟩
theorem CqT.done {c : α → α → Int} {l : List α} {k0 : Nat} (p : CqT c l k0) (h : l.length ≤ k0 + p.k2) : uniF c l = p.l1.take p.k := by
 rw [p.ht, List.drop_eq_nil_of_le h, uniG, List.append_nil]
omit [Inhabited α] in
theorem uniG_len (c : α → α → Int) : ∀ (p : α) (l : List α), (uniG c p l).length ≤ l.length
 | _, [] => by simp [uniG]
 | p, x :: r => by
  simp only [uniG]
  have := uniG_len c x r
  split <;> simp <;> omega
omit [Inhabited α] in
theorem uniG_mem (c : α → α → Int) : ∀ (p : α) (l : List α), ∀ x ∈ uniG c p l, x ∈ l
 | _, [], x, h => by simp [uniG] at h
 | p, y :: r, x, h => by
  simp only [uniG] at h
  split at h
  ·exact List.mem_cons_of_mem _ (uniG_mem c y r x h)
  ·rcases List.mem_cons.1 h with e | e
   ·rw [e]; simp
   ·exact List.mem_cons_of_mem _ (uniG_mem c y r x e)
omit [Inhabited α] in
theorem uniF_len (c : α → α → Int) (l : List α) : (uniF c l).length ≤ l.length := by
 cases l with
 | nil => simp [uniF]
 | cons x r => have := uniG_len c x r; simp [uniF]; omega
omit [Inhabited α] in
theorem uniF_mem (c : α → α → Int) (l : List α) : ∀ x ∈ uniF c l, x ∈ l := by
 cases l with
 | nil => simp [uniF]
 | cons y r =>
  intro x h
  rcases List.mem_cons.1 h with e | e
  ·rw [e]; simp
  ·exact List.mem_cons_of_mem _ (uniG_mem c y r x e)
end
end Go.Proofs.YtjgmakalledclaaGreatDoor
namespace Go.Proofs.YtjgmakalledclaaGreatDoor
set_option maxRecDepth 4000
open Go Go.Abs Go.Val Go.RowKit Go.Proofs.Tryz
theorem ordC : Cmp3 ordF := ⟨fun x y => ordF_anti x y, fun x y z => ordF_trans x y z⟩
theorem ordZ (x y : V) (h : ordF x y = 0) : x = y := ordF_zero x y h
theorem rowC : Cmp3 (cmpL ordF) :=
 ⟨fun x y => cmpL_anti ordF x y (fun a _ b => ordF_anti a b), fun x y z h1 h2 =>
  cmpL_tr (S := fun _ => True) (fun a b => ordF_anti a b) (fun p q r _ _ _ => ordF_trans p q r) (x.length + y.length + z.length) x y z ⟨by omega, fun _ _ => trivial⟩ ⟨by omega, fun _ _ => trivial⟩ ⟨by omega, fun _ _ => trivial⟩ h1 h2⟩
theorem rowZ (x y : List V) (h : cmpL ordF x y = 0) : x = y := cmpL_zero x y (fun a _ b => ordF_zero a b) h
theorem cmpL_self (x : List V) : cmpL ordF x x = 0 := by have := rowC.anti x x; omega
theorem lightL_cost : ∀ (l : List (List V)) (most : Int), 0 ≤ lightL l most → (l.length : Int) + lightL l most ≤ most ∧ ∀ r ∈ l, (costL r : Int) ≤ most
 | [], most, h => by simp [lightL]
 | r :: q, most, h => by
  simp only [lightL] at h ⊢
  by_cases h0 : most ≥ 0
  ·rw [decide_eq_true h0, cond_true] at h ⊢
   have hw : 0 ≤ weighL (weighF 12) r (most - 1) := by
    rcases Int.lt_or_le (weighL (weighF 12) r (most - 1)) 0 with hn | hn
    ·exfalso
     generalize weighL (weighF 12) r (most - 1) = w at h hn
     cases q with
     | nil => simp [lightL] at h; omega
     | cons y z =>
      simp only [lightL] at h
      rw [decide_eq_false (by omega), cond_false] at h
      omega
    ·exact hn
   have hc := weighL_cost (weighF 12) r (fun x _ left hx => weighF_cost 12 x left hx) (most - 1) hw
   obtain ⟨i1, i2⟩ := lightL_cost q _ h
   have hlen : 0 ≤ (costL r : Int) := Int.natCast_nonneg _
   refine ⟨by simp only [List.length_cons]; omega, fun x hx => ?_⟩
   rcases List.mem_cons.1 hx with e | e
   ·rw [e]; omega
   ·have := i2 x e; omega
  ·rw [decide_eq_false h0, cond_false] at h
   omega
end Go.Proofs.YtjgmakalledclaaGreatDoor
