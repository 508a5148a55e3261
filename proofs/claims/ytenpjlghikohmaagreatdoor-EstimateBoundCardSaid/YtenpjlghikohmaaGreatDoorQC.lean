/- Sums and counts over lists of edges, and what the statistics of a checked graph say of them: how many edges of some types leave or reach a node, how many nodes bear a label; How many tuples satisfy a conjunctive query, by the statistics: no more than the least product of the atoms' factors; The law EstimateBound answers true. Conditions: each part's own, as it says. -/
import Derived.Test.YtenpjlghikohmaaGreatDoorQB
import Derived.Test.YtenpjlghikohmaaGreatDoorWB
import Derived.Test.YtenpjlghikohmaaGreatDoorRB
import Derived.Test.YtenpjlghikohmaaGreatDoorWA
import Derived.Test.YtenpjlghikohmaaGreatDoorLE
import Derived.Test.YtenpjlghikohmaaGreatDoorGC
set_option linter.unusedVariables false
set_option linter.unusedSimpArgs false
namespace Go.Proofs.YtenpjlghikohmaaGreatDoor
set_option maxRecDepth 4000
open Go Go.Abs Go.Val Go.RowKit Go.Proofs.Tryz
def smEb {α : Type} (f : α → Int) : List α → Int
 | [] => 0
 | x :: r => f x + smEb f r
theorem smEb_nn {α : Type} {f : α → Int} : ∀ {l : List α}, (∀ x ∈ l, 0 ≤ f x) → 0 ≤ smEb f l
 | [], _ => Int.le_refl _
 | x :: r, h => by
  have h1 := h x (by simp)
  have h2 := smEb_nn (l := r) fun y hy => h y (by simp [hy])
  simp only [smEb]; omega
theorem smEb_le {α : Type} {f g : α → Int} : ∀ {l : List α}, (∀ x ∈ l, f x ≤ g x) → smEb f l ≤ smEb g l
 | [], _ => Int.le_refl _
 | x :: r, h => by
  have h1 := h x (by simp)
  have h2 := smEb_le (l := r) fun y hy => h y (by simp [hy])
  simp only [smEb]; omega
theorem smEb_zero {α : Type} {f : α → Int} : ∀ {l : List α}, (∀ x ∈ l, f x = 0) → smEb f l = 0
 | [], _ => rfl
 | x :: r, h => by
  have h1 := h x (by simp)
  have h2 := smEb_zero (l := r) fun y hy => h y (by simp [hy])
  simp only [smEb]; omega
theorem smEb_mem {α : Type} {f : α → Int} : ∀ {l : List α} {x : α}, (∀ x ∈ l, 0 ≤ f x) → x ∈ l → f x ≤ smEb f l
 | y :: r, x, h, hx => by
  have h1 := h y (by simp)
  have h2 := smEb_nn (l := r) fun z hz => h z (by simp [hz])
  simp only [smEb]
  rcases List.mem_cons.1 hx with rfl | hx
  ·omega
  ·have := smEb_mem (l := r) (fun z hz => h z (by simp [hz])) hx
   omega
theorem smEb_bnd {α : Type} {f : α → Int} {m : Int} : ∀ {l : List α}, (∀ x ∈ l, f x ≤ m) → smEb f l ≤ m * (l.length : Int)
 | [], _ => by simp [smEb]
 | x :: r, h => by
  have h1 := h x (by simp)
  have h2 := smEb_bnd (l := r) fun y hy => h y (by simp [hy])
  simp only [smEb, List.length_cons]
  rw [Int.natCast_succ, Int.mul_add, Int.mul_one]; omega
theorem smEb_add {α : Type} (f g : α → Int) : ∀ l : List α, smEb (fun x => f x + g x) l = smEb f l + smEb g l
 | [] => rfl
 | x :: r => by
  have := smEb_add f g r
  simp only [smEb]; omega
theorem smEb_map {α β : Type} (f : β → Int) (g : α → β) : ∀ l : List α, smEb f (l.map g) = smEb (fun x => f (g x)) l
 | [] => rfl
 | x :: r => by
  have := smEb_map f g r
  simp only [List.map_cons, smEb]; omega
theorem addW_ok {a b : Int} (h : inR .i64 (a + b)) : addW a b = a + b := by unfold addW; exact inR_wrap h
theorem foldEb {α : Type} {f : α → Int} : ∀ {l : List α} {n : Int}, 0 ≤ n → (∀ x ∈ l, 0 ≤ f x) → n + smEb f l ≤ 9223372036854775807 → l.foldl (fun n x => addW n (f x)) n = n + smEb f l
 | [], n, _, _, _ => by simp [smEb]
 | x :: r, n, h0, h1, h2 => by
  have h3 := h1 x (by simp)
  have h4 := smEb_nn (l := r) fun y hy => h1 y (by simp [hy])
  simp only [smEb] at h2 ⊢
  rw [List.foldl_cons, addW_ok (by simp only [inR]; omega), foldEb (by omega) (fun y hy => h1 y (by simp [hy])) (by omega)]
  omega
def ctEb {α : Type} (p : α → Bool) : List α → Int
 | [] => 0
 | x :: r => (bif p x then 1 else 0) + ctEb p r
theorem ctEb_nn {α : Type} (p : α → Bool) : ∀ l : List α, 0 ≤ ctEb p l
 | [] => Int.le_refl _
 | x :: r => by
  have := ctEb_nn p r
  simp only [ctEb]
  cases p x <;> simp <;> omega
theorem ctEb_len {α : Type} (p : α → Bool) : ∀ l : List α, ctEb p l ≤ l.length
 | [] => Int.le_refl _
 | x :: r => by
  have := ctEb_len p r
  simp only [ctEb, List.length_cons]
  cases p x <;> simp <;> omega
theorem ctEb_filter {α : Type} (p : α → Bool) : ∀ l : List α, ((l.filter p).length : Int) = ctEb p l
 | [] => rfl
 | x :: r => by
  have := ctEb_filter p r
  simp only [ctEb]
  cases hp : p x with
  | true => rw [List.filter_cons_of_pos hp, List.length_cons]; simp; omega
  | false => rw [List.filter_cons_of_neg (by rw [hp]; simp)]; simp; omega
theorem ctEb_le {α : Type} {p q : α → Bool} : ∀ {l : List α}, (∀ x ∈ l, p x = true → q x = true) → ctEb p l ≤ ctEb q l
 | [], _ => Int.le_refl _
 | x :: r, h => by
  have ih := ctEb_le (l := r) fun y hy => h y (by simp [hy])
  simp only [ctEb]
  cases hp : p x with
  | true => rw [h x (by simp) hp]; omega
  | false => cases q x <;> simp <;> omega
theorem ctEb_zero {α : Type} {p : α → Bool} {l : List α} (h : ∀ x ∈ l, p x = false) : ctEb p l = 0 := by
 have h1 := ctEb_nn p l
 have h2 : ctEb p l ≤ ctEb (fun _ => false) l := ctEb_le fun x hx hp => by rw [h x hx] at hp; cases hp
 have h3 : ∀ l : List α, ctEb (fun _ => false) l = 0 := fun l => by
  induction l with
  | nil => rfl
  | cons x r ih => simp only [ctEb, cond_false]; omega
 rw [h3] at h2
 omega
theorem ctEb_sum {α β : Type} {p : α → Bool} {q : β → α → Bool} (ks : List β) : ∀ {l : List α}, (∀ x ∈ l, p x = true → ∃ k ∈ ks, q k x = true) → ctEb p l ≤ smEb (fun k => ctEb (q k) l) ks
 | [], _ => by simp only [ctEb]; exact smEb_nn fun _ _ => Int.le_refl _
 | x :: r, h => by
  have ih := ctEb_sum (p := p) (q := q) ks (l := r) fun y hy => h y (by simp [hy])
  have e : smEb (fun k => ctEb (q k) (x :: r)) ks = smEb (fun k => (bif q k x then 1 else 0)) ks + smEb (fun k => ctEb (q k) r) ks := by
   rw [← smEb_add]; rfl
  have hnn : ∀ k ∈ ks, (0 : Int) ≤ (bif q k x then 1 else 0) := fun k _ => by cases q k x <;> simp
  rw [e]
  simp only [ctEb]
  cases hp : p x with
  | false =>
   have := smEb_nn hnn
   simp only [cond_false]; omega
  | true =>
   obtain ⟨k, hk, hq⟩ := h x (by simp) hp
   have h1 := smEb_mem hnn hk
   rw [hq] at h1
   simp only [cond_true] at h1 ⊢; omega
theorem cntE_ct (t : ByteArray) : ∀ l : List Ed, cntE t l = ctEb (tyB t) l
 | [] => rfl
 | e :: r => by rw [cntE, ctEb, cntE_ct t r]
theorem cntM_ct (u : ByteArray) (d id : Int) : ∀ l : List Ed, cntM u d id l = ctEb (fun e => seB u e && nbI d e == id) l
 | [] => rfl
 | e :: r => by rw [cntM, ctEb, cntM_ct u d id r]
theorem lbN_ct (s : ByteArray) : ∀ l : List Nd, lbN s l = ctEb (fun n => hasF n.labels s) l
 | [] => rfl
 | e :: r => by rw [lbN, ctEb, lbN_ct s r]
theorem bl_ltEb : ∀ a b c : List UInt8, Op.bytesLess a b = true → Op.bytesLess b c = true → Op.bytesLess a c = true
 | _, [], _, h, _ => by rename_i a _ _; cases a <;> simp [Op.bytesLess] at h
 | _, _ :: _, [], _, h => by simp [Op.bytesLess] at h
 | [], _ :: _, _ :: _, _, _ => rfl
 | x :: a, y :: b, z :: c, h1, h2 => by
  simp only [Op.bytesLess, Bool.or_eq_true, Bool.and_eq_true, decide_eq_true_eq, beq_iff_eq] at h1 h2 ⊢
  rcases h1 with p | ⟨p, p'⟩
  ·have p0 : x.toNat < y.toNat := p
   rcases h2 with q | ⟨q, -⟩
   ·have q0 : y.toNat < z.toNat := q
    exact .inl (show x.toNat < z.toNat by omega)
   ·subst q; exact .inl p
  ·subst p
   rcases h2 with q | ⟨q, q'⟩
   ·exact .inl q
   ·exact .inr ⟨q, bl_ltEb a b c p' q'⟩
theorem rise_pwEb : ∀ {l : List ByteArray}, riseF l = true → l.Pairwise fun a b => Op.bytesLess a.toList b.toList = true
 | [], _ => List.Pairwise.nil
 | [_], _ => List.pairwise_singleton _ _
 | a :: b :: r, h => by
  unfold riseF at h
  rw [Bool.and_eq_true] at h
  have ih := rise_pwEb h.2
  rw [List.pairwise_cons]
  refine ⟨fun c hc => ?_, ih⟩
  rcases List.mem_cons.1 hc with rfl | hc
  ·exact h.1
  ·exact bl_ltEb _ _ _ h.1 ((List.pairwise_cons.1 ih).1 c hc)
theorem rise_neEb {l : List ByteArray} (h : riseF l = true) : l.Pairwise fun a b => a.toList ≠ b.toList := (rise_pwEb h).imp fun {a b} hab e => by
 rw [e] at hab
 rcases bl_ord b.toList b.toList with ⟨-, -, h3⟩ | ⟨-, -, h3⟩ | ⟨h1, -, -⟩
 ·exact h3 rfl
 ·exact h3 rfl
 ·rw [hab] at h1; cases h1
theorem sm_oneEb (e : Ed) : ∀ {ty : List ByteArray}, (ty.Pairwise fun a b => a.toList ≠ b.toList) → smEb (fun t => (bif tyB t e then (1 : Int) else 0)) ty ≤ 1
 | [], _ => by simp [smEb]
 | t :: r, h => by
  rw [List.pairwise_cons] at h
  have ih := sm_oneEb e h.2
  simp only [smEb]
  cases ht : tyB t e with
  | false => simp only [cond_false]; omega
  | true =>
   have : smEb (fun t => (bif tyB t e then (1 : Int) else 0)) r = 0 := smEb_zero fun u hu => by
    have hne := h.1 u hu
    have : tyB u e = false := by
     rw [← Bool.not_eq_true]
     intro hb
     unfold tyB at ht hb
     exact hne ((eq_of_beq ht).symm.trans (eq_of_beq hb))
    rw [this]; rfl
   rw [this]; simp
theorem sm_typesEb {ty : List ByteArray} (h : ty.Pairwise fun a b => a.toList ≠ b.toList) : ∀ l : List Ed, smEb (fun t => ctEb (tyB t) l) ty ≤ l.length
 | [] => by
  have : smEb (fun t => ctEb (tyB t) ([] : List Ed)) ty = 0 := smEb_zero fun _ _ => rfl
  rw [this]; simp
 | e :: r => by
  have ih := sm_typesEb h r
  have h1 := sm_oneEb e h
  have e : smEb (fun t => ctEb (tyB t) (e :: r)) ty = smEb (fun t => (bif tyB t e then (1 : Int) else 0)) ty + smEb (fun t => ctEb (tyB t) r) ty := by
   rw [← smEb_add]; rfl
  rw [e, List.length_cons]; omega
def mxEb (s : STA) (d : Int) (t : ByteArray) : Int := match idxC s.ty t with | some i => grtF (dirF s d) i | none => 0
theorem mx_foldEb {s : STA} {d : Int} : ∀ {l : List ByteArray} {n : Int}, 0 ≤ n → (∀ x ∈ l, 0 ≤ mxEb s d x) → n + smEb (mxEb s d) l ≤ 9223372036854775807 →
  l.foldl (fun n t => match idxC s.ty t with | some i => addW n (grtF (dirF s d) i) | none => n) n = n + smEb (mxEb s d) l
 | [], n, _, _, _ => by simp [smEb]
 | t :: r, n, h0, h1, h2 => by
  have h3 := h1 t (by simp)
  have h4 := smEb_nn (l := r) fun y hy => h1 y (by simp [hy])
  simp only [smEb] at h2 ⊢
  have e : (match idxC s.ty t with | some i => addW n (grtF (dirF s d) i) | none => n) = n + mxEb s d t := by
   have h5 : n + mxEb s d t ≤ 9223372036854775807 := by omega
   unfold mxEb at h3 h5 ⊢
   cases hi : idxC s.ty t with
   | none => simp
   | some i =>
    rw [hi] at h3 h5
    dsimp only at h3 h5 ⊢
    exact addW_ok (by simp only [inR]; omega)
  rw [List.foldl_cons, e, mx_foldEb (by omega) (fun y hy => h1 y (by simp [hy])) (by omega)]
  omega
theorem name_neEb {t : ByteArray} (h : nameF t = true) : (t.toList == (⟨#[]⟩ : ByteArray).toList) = false := by
 rw [beq_eq_false_iff_ne]
 intro e
 rw [ByteArray.toList_eq, ByteArray.toList_eq] at e
 unfold nameF at h
 simp only [Bool.and_eq_true, decide_eq_true_eq] at h
 have : t.size = 0 := by
  show t.data.size = 0
  rw [← Array.length_toList, e]; rfl
 omega
abbrev tsEb (g : Gr) : List ByteArray := srtC (tyL g.edges)
theorem dirEb {g : Gr} {d : Int} (hd : d = 1 ∨ d = 2) : dirF (stG g) d = sqC g d (tsEb g) := by rcases hd with rfl | rfl <;> rfl
theorem dir_atEb {g : Gr} {d : Int} (hd : d = 1 ∨ d = 2) {i : Nat} {u : ByteArray} (h : (tsEb g)[i]? = some u) : grtF (dirF (stG g) d) i = (sqF g u d).headD 0 := by
 rw [dirEb hd]
 refine grtF_at ?_
 show ((tsEb g).map fun s => sqF g s d)[i]? = _
 rw [List.getElem?_map, h]; rfl
theorem ts_hasEb {g : Gr} {e : Ed} (h : e ∈ g.edges) : ∃ u ∈ tsEb g, u.toList = e.ty.toList := srtC_mem (l := tyL g.edges) (List.mem_map.2 ⟨e, h, rfl⟩)
theorem mx_okEb {g : Gr} {d : Int} (hd : d = 1 ∨ d = 2) {t : ByteArray} (ht : nameF t = true) : 0 ≤ mxEb (stG g) d t ∧ mxEb (stG g) d t ≤ ctEb (tyB t) g.edges ∧
  ∀ n ∈ g.nodes, ctEb (fun e => tyB t e && nbI d e == n.id) g.edges ≤ mxEb (stG g) d t := by
 unfold mxEb
 cases hi : idxC (stG g).ty t with
 | none =>
  dsimp only
  have h0 : ∀ e ∈ g.edges, tyB t e = false := fun e hm => by
   rw [← Bool.not_eq_true]
   intro hb
   obtain ⟨u, hu, hue⟩ := ts_hasEb hm
   unfold idxC at hi
   rw [List.findIdx?_eq_none_iff] at hi
   have := hi ⟨u, cntE u g.edges⟩ (List.mem_map.2 ⟨u, hu, rfl⟩)
   unfold tyB at hb
   rw [beq_iff_eq] at hb
   rw [show (⟨u, cntE u g.edges⟩ : CT).nm = u from rfl, hue, hb] at this
   simp at this
  exact ⟨Int.le_refl _, ctEb_nn _ _, fun n _ => Int.le_of_eq (ctEb_zero fun e he => by rw [h0 e he]; rfl)⟩
 | some i =>
  dsimp only
  unfold idxC at hi
  obtain ⟨hl, h1, -⟩ := List.findIdx?_eq_some_iff_getElem.1 hi
  have hlT : i < (tsEb g).length := by simpa [stG, tyC] using hl
  obtain ⟨u, hu⟩ : ∃ u, (tsEb g)[i] = u := ⟨_, rfl⟩
  have hu2 : (tsEb g)[i]? = some u := by rw [List.getElem?_eq_getElem hlT, hu]
  have hue : u.toList = t.toList := by
   have h2 : (stG g).ty[i] = ⟨u, cntE u g.edges⟩ := by
    have : (stG g).ty[i]? = some ⟨u, cntE u g.edges⟩ := by
     show ((tsEb g).map fun s => (⟨s, cntE s g.edges⟩ : CT))[i]? = _
     rw [List.getElem?_map, hu2]; rfl
    rw [List.getElem?_eq_getElem hl] at this
    exact Option.some.inj this
   rw [h2] at h1
   exact eq_of_beq h1
  have hse : ∀ e, seB u e = tyB t e := fun e => by
   unfold seB tyB
   rw [hue, name_neEb ht, Bool.false_or]
  obtain ⟨q1, -, q3⟩ := sqF_head (g := g) (u := u) (d := d)
  rw [dir_atEb hd hu2]
  refine ⟨q1, ?_, fun n hn => ?_⟩
  ·cases h : sqF g u d with
   | nil => exact ctEb_nn _ _
   | cons a r =>
    have ha : a ∈ degL g u d g.nodes := sqF_mem.1 (by rw [h]; simp)
    obtain ⟨n, -, e⟩ := List.mem_map.1 (List.mem_filter.1 ha).1
    show a ≤ _
    rw [← e, cntM_ct]
    refine ctEb_le fun e _ he => ?_
    rw [Bool.and_eq_true] at he
    rw [← hse]; exact he.1
  ·have := q3 n hn
   rw [cntM_ct] at this
   refine Int.le_trans (ctEb_le fun e _ he => ?_) this
   rw [hse]; exact he
theorem maxF_okEb {g : Gr} (he : g.edges.length ≤ 4000) {d : Int} (hd : d = 1 ∨ d = 2) {ty : List ByteArray} (hr : riseF ty = true) (hn : ∀ t ∈ ty, nameF t = true) :
  0 ≤ maxF (stG g) ty d ∧ ∀ n ∈ g.nodes, ctEb (fun e => htF e ty && nbI d e == n.id) g.edges ≤ maxF (stG g) ty d := by
 cases hty : ty.length == 0 with
 | true =>
  have : ty = [] := by simpa using hty
  subst this
  have hmx : maxF (stG g) [] d = (List.range (stG g).ty.length).foldl (fun n i => addW n (grtF (dirF (stG g) d) i)) 0 := rfl
  rw [hmx]
  have hlen : (stG g).ty.length = (tsEb g).length := by simp [stG, tyC]
  have hTl : (tsEb g).length ≤ 4000 := Nat.le_trans (srtC_len _) (by rw [tyL, List.length_map]; exact he)
  have hsm : smEb (grtF (dirF (stG g) d)) (List.range (tsEb g).length) = smEb (fun u => (sqF g u d).headD 0) (tsEb g) := by
   have : (List.range (tsEb g).length).map (grtF (dirF (stG g) d)) = (tsEb g).map fun u => (sqF g u d).headD 0 := by
    refine List.ext_getElem? fun i => ?_
    rw [List.getElem?_map, List.getElem?_map]
    rcases Nat.lt_or_ge i (tsEb g).length with hi | hi
    ·rw [List.getElem?_range hi, List.getElem?_eq_getElem hi]
     show some _ = some _
     rw [dir_atEb hd (List.getElem?_eq_getElem hi)]
    ·rw [List.getElem?_eq_none (by simpa using hi), List.getElem?_eq_none hi]
     rfl
   have h1 := smEb_map (fun x : Int => x) (grtF (dirF (stG g) d)) (List.range (tsEb g).length)
   have h2 := smEb_map (fun x : Int => x) (fun u => (sqF g u d).headD 0) (tsEb g)
   rw [this] at h1
   exact h1.symm.trans h2
  have hnn : ∀ i ∈ List.range (tsEb g).length, 0 ≤ grtF (dirF (stG g) d) i := fun i hi => by
   rw [dir_atEb hd (List.getElem?_eq_getElem (List.mem_range.1 hi))]
   exact (sqF_head (g := g)).1
  have hb : smEb (fun u => (sqF g u d).headD 0) (tsEb g) ≤ (g.edges.length : Int) * ((tsEb g).length : Int) := smEb_bnd fun u _ => (sqF_head (g := g)).2.1
  have hb2 : (g.edges.length : Int) * ((tsEb g).length : Int) ≤ 4000 * 4000 := Int.mul_le_mul (by omega) (by omega) (by omega) (by omega)
  have hf := foldEb (f := grtF (dirF (stG g) d)) (l := List.range (tsEb g).length) (n := 0) (Int.le_refl _) hnn (by rw [hsm]; omega)
  rw [hlen, hf, hsm, Int.zero_add]
  refine ⟨smEb_nn fun u _ => (sqF_head (g := g)).1, fun n hn => ?_⟩
  refine Int.le_trans (ctEb_sum (q := fun u e => seB u e && nbI d e == n.id) (tsEb g) fun e hm hp => ?_) (smEb_le fun u _ => ?_)
  ·obtain ⟨u, hu, hue⟩ := ts_hasEb hm
   refine ⟨u, hu, ?_⟩
   rw [Bool.and_eq_true] at hp ⊢
   refine ⟨?_, hp.2⟩
   unfold seB
   rw [hue]; simp
  ·have := (sqF_head (g := g) (u := u) (d := d)).2.2 n hn
   rw [cntM_ct] at this
   exact this
 | false =>
  have hok := fun t ht => mx_okEb (g := g) hd (hn t ht)
  have h1 : smEb (mxEb (stG g) d) ty ≤ g.edges.length := Int.le_trans (smEb_le fun t ht => (hok t ht).2.1) (sm_typesEb (rise_neEb hr) g.edges)
  have hf := mx_foldEb (s := stG g) (d := d) (l := ty) (n := 0) (Int.le_refl _) (fun t ht => (hok t ht).1) (by omega)
  have hmx : maxF (stG g) ty d = 0 + smEb (mxEb (stG g) d) ty := by
   unfold maxF
   rw [hty, cond_false]
   exact hf
  rw [hmx, Int.zero_add]
  refine ⟨smEb_nn fun t ht => (hok t ht).1, fun n hm => ?_⟩
  refine Int.le_trans (ctEb_sum (q := fun t e => tyB t e && nbI d e == n.id) ty fun e _ hp => ?_) (smEb_le fun t ht => (hok t ht).2.2 n hm)
  rw [Bool.and_eq_true] at hp
  have hp1 := hp.1
  unfold htF at hp1
  have hne : ty.isEmpty = false := by cases ty with | nil => simp at hty | cons => rfl
  rw [hne, Bool.false_or] at hp1
  unfold hasF at hp1
  obtain ⟨t, ht, hte⟩ := List.any_eq_true.1 hp1
  refine ⟨t, ht, ?_⟩
  rw [Bool.and_eq_true]
  refine ⟨?_, hp.2⟩
  unfold tyB
  rw [eq_of_beq hte]; simp
theorem cntF_edEb (g : Gr) (t : ByteArray) : cntF (stG g).ty t = ctEb (tyB t) g.edges := by
 rw [← cntE_ct]
 unfold cntF
 split
 ·rename_i c hc
  have h1 := List.find?_some hc
  have h2 := List.mem_of_find?_eq_some hc
  obtain ⟨u, -, rfl⟩ := List.mem_map.1 h2
  exact cntE_same (eq_of_beq h1) g.edges
 ·rename_i hc
  rw [List.find?_eq_none] at hc
  rw [cntE_none fun e hm => ?_]
  rw [← Bool.not_eq_true]
  intro hb
  obtain ⟨u, hu, hue⟩ := ts_hasEb hm
  unfold tyB at hb
  rw [beq_iff_eq] at hb
  refine hc ⟨u, cntE u g.edges⟩ (List.mem_map.2 ⟨u, hu, rfl⟩) ?_
  show (u.toList == t.toList) = true
  rw [hue, hb]
  exact beq_self_eq_true _
theorem edgesF_okEb {g : Gr} (he : g.edges.length ≤ 4000) {ty : List ByteArray} (hr : riseF ty = true) : ctEb (fun e => htF e ty) g.edges ≤ edgesF (stG g) ty := by
 unfold edgesF
 cases hty : ty.length == 0 with
 | true => exact ctEb_len _ _
 | false =>
  rw [cond_false]
  have hs : smEb (fun t => cntF (stG g).ty t) ty = smEb (fun t => ctEb (tyB t) g.edges) ty := by
   congr 1; funext t; exact cntF_edEb g t
  have h1 := sm_typesEb (rise_neEb hr) g.edges
  rw [foldEb (f := fun t => cntF (stG g).ty t) (Int.le_refl _) (fun t _ => by rw [cntF_edEb]; exact ctEb_nn _ _) (by rw [hs]; omega), hs, Int.zero_add]
  refine ctEb_sum ty fun e _ hp => ?_
  unfold htF at hp
  have hne : ty.isEmpty = false := by cases ty with | nil => simp at hty | cons => rfl
  rw [hne, Bool.false_or] at hp
  unfold hasF at hp
  obtain ⟨t, ht, hte⟩ := List.any_eq_true.1 hp
  refine ⟨t, ht, ?_⟩
  unfold tyB
  rw [eq_of_beq hte]; simp
theorem hasF_sameEb {u s : ByteArray} (h : u.toList = s.toList) (l : List ByteArray) : hasF l u = hasF l s := by unfold hasF; rw [h]
theorem nodesF_okEb (g : Gr) (nm : ByteArray) : ctEb (fun n => hasF n.labels nm) g.nodes ≤ nodesF (stG g) nm := by
 unfold nodesF
 cases hnm : nm.toList == (⟨#[]⟩ : ByteArray).toList with
 | true => exact ctEb_len _ _
 | false =>
  rw [cond_false]
  unfold cntF
  split
  ·rename_i c hc
   have h1 := List.find?_some hc
   have h2 := List.mem_of_find?_eq_some hc
   obtain ⟨u, -, rfl⟩ := List.mem_map.1 h2
   show _ ≤ lbN u g.nodes
   rw [lbN_ct]
   exact ctEb_le fun n _ hn => by rw [hasF_sameEb (eq_of_beq h1)]; exact hn
  ·rename_i hc
   rw [List.find?_eq_none] at hc
   refine Int.le_of_eq (ctEb_zero fun n hm => ?_)
   rw [← Bool.not_eq_true]
   intro hb
   unfold hasF at hb
   obtain ⟨x, hx, hxe⟩ := List.any_eq_true.1 hb
   obtain ⟨u, hu, hue⟩ := srtC_mem (l := labL g.nodes) (s := x) (List.mem_flatMap.2 ⟨n, hm, hx⟩)
   refine hc ⟨u, lbN u g.nodes⟩ (List.mem_map.2 ⟨u, hu, rfl⟩) ?_
   show (u.toList == nm.toList) = true
   rw [hue, eq_of_beq hxe]
   exact beq_self_eq_true _
theorem nodesF_allEb (g : Gr) : nodesF (stG g) ⟨#[]⟩ = g.nodes.length := by
 unfold nodesF
 rw [beq_self_eq_true]
 rfl
theorem okEd_ltEb {q : Int} {g : Gr} {e : Ed} (h : okEd (some q) g e = 0) : q < e.id := by
 have h' : (bif decide (e.id ≤ q) then (26 : Int) else bif decide (e.id < 1) || decide (e.id ≥ g.ne) then (1 : Int) else bif !hasI g.nodes e.src || !hasI g.nodes e.dst then 10 else bif !nameF e.ty then 6 else partF [] e.props) = 0 := h
 cases hc : decide (e.id ≤ q) with
 | true => rw [hc] at h'; simp at h'
 | false => have := of_decide_eq_false hc; omega
theorem edgesC_idEb {g : Gr} : ∀ {l : List Ed} {p : Option Int}, edgesC g p l = 0 → (l.map Ed.id).Pairwise (· < ·) ∧ ∀ q, p = some q → ∀ e ∈ l, q < e.id
 | [], p, _ => by simp
 | e :: r, p, h => by
  rw [edgesC] at h
  cases hc : okEd p g e != 0 with
  | true =>
   rw [hc, cond_true] at h
   rw [h] at hc
   simp at hc
  | false =>
   rw [hc, cond_false] at h
   have h0 : okEd p g e = 0 := by simpa using hc
   obtain ⟨i1, i2⟩ := edgesC_idEb (l := r) (p := some e.id) h
   refine ⟨?_, fun q hq m hm => ?_⟩
   ·rw [List.map_cons, List.pairwise_cons]
    refine ⟨fun x hx => ?_, i1⟩
    obtain ⟨m, hm, rfl⟩ := List.mem_map.1 hx
    exact i2 _ rfl m hm
   ·have hk : q < e.id := by subst hq; exact okEd_ltEb h0
    rcases List.mem_cons.1 hm with e1 | e1
    ·rw [e1]; exact hk
    ·have := i2 _ rfl m e1
     omega
theorem hasI_exEb {l : List Nd} (hs : (l.map Nd.id).Pairwise (· < ·)) {x : Int} (h : hasI l x = true) : ∃ n ∈ l, n.id = x := by
 rw [hasI_find hs] at h
 unfold findN at h
 rw [List.find?_isSome] at h
 obtain ⟨n, hn, hx⟩ := h
 exact ⟨n, hn, by simpa using hx⟩
theorem chkG_edEb {g : Gr} (h : chkG g = 0) : (g.edges.map Ed.id).Pairwise (· < ·) ∧ ∀ e ∈ g.edges, (∃ n ∈ g.nodes, n.id = e.src) ∧ ∃ n ∈ g.nodes, n.id = e.dst := by
 unfold chkG at h
 cases c1 : decide (g.nodes.length > 2000) || decide (g.edges.length > 4000) with
 | true => rw [c1] at h; simp at h
 | false =>
 rw [c1, cond_false] at h
 cases c2 : decide (g.nn < 1) || decide (g.nn > 1000001) || (decide (g.ne < 1) || decide (g.ne > 1000001)) with
 | true => rw [c2] at h; simp at h
 | false =>
 rw [c2, cond_false] at h
 cases c3 : nodesC g.nn none g.nodes != 0 with
 | true =>
  rw [c3, cond_true] at h
  rw [h] at c3
  simp at c3
 | false =>
 rw [c3, cond_false] at h
 obtain ⟨n1, -, -⟩ := nodesC_s (l := g.nodes) (p := none) (by simpa using c3)
 refine ⟨(edgesC_idEb h).1, fun e he => ?_⟩
 obtain ⟨-, e2, e3⟩ := edgesC_s h e he
 exact ⟨hasI_exEb n1 e2, hasI_exEb n1 e3⟩
theorem plain_lEb {v : V} (h : plainF v = true) : v.l = [] := by
 unfold plainF at h
 simp only [Bool.and_eq_true, Bool.or_eq_true, beq_iff_eq] at h
 obtain ⟨hk, ho⟩ := h
 unfold Val.okV at ho
 rw [okN] at ho
 simp only [okFlat, Bool.and_eq_true, Bool.or_eq_true, beq_iff_eq, decide_eq_true_eq] at ho
 have : v.l.length = 0 := by omega
 exact List.eq_nil_of_length_eq_zero this
theorem part_narEb {ls : List ByteArray} {ps : List Pr} (h : partF ls ps = 0) : narP ps := by
 unfold partF at h
 cases c1 : decide (ls.length > 8) || decide (ps.length > 16) with
 | true => rw [c1] at h; simp at h
 | false =>
 rw [c1, cond_false] at h
 rw [Bool.or_eq_false_iff] at c1
 have := of_decide_eq_false c1.2
 refine ⟨by omega, fun p hp => ?_⟩
 have hpl : plainF p.v = true := by
  rw [← Bool.not_eq_false]
  intro hn
  have : (ps.any fun p => !plainF p.v) = true := List.any_eq_true.2 ⟨p, hp, by rw [hn]; rfl⟩
  rw [this] at h
  cases c2 : (ls.any fun s => !nameF s) || ((keyL ps).any fun s => !nameF s) with
  | true => rw [c2] at h; simp at h
  | false =>
   cases c3 : !riseF ls || !riseF (keyL ps) with
   | true => rw [c2, c3] at h; simp at h
   | false => rw [c2, c3] at h; simp at h
 have key : ∀ v : V, v.l = [] → nar v = true := fun v hv => by
  obtain ⟨k, n, d, s, l⟩ := v
  have hv : l = [] := hv
  subst hv
  rfl
 exact key p.v (plain_lEb hpl)
theorem okNd_partEb {p : Option Int} {nn : Int} {n : Nd} (h : okNd p nn n = 0) : partF n.labels n.props = 0 := by
 have rest : (bif decide (n.id < 1) || decide (n.id ≥ nn) then (1 : Int) else partF n.labels n.props) = 0 → partF n.labels n.props = 0 := fun h => by
  cases hd : decide (n.id < 1) || decide (n.id ≥ nn) with
  | true => rw [hd] at h; simp at h
  | false => rwa [hd, cond_false] at h
 cases p with
 | none => exact rest h
 | some p =>
  have h' : (bif decide (n.id ≤ p) then (26 : Int) else bif decide (n.id < 1) || decide (n.id ≥ nn) then 1 else partF n.labels n.props) = 0 := h
  cases hc : decide (n.id ≤ p) with
  | true => rw [hc] at h'; simp at h'
  | false => rw [hc, cond_false] at h'; exact rest h'
theorem nodesC_narEb {nn : Int} : ∀ {l : List Nd} {p : Option Int}, nodesC nn p l = 0 → ∀ n ∈ l, narP n.props
 | [], _, _, n, h => by cases h
 | x :: r, p, h, n, hn => by
  rw [nodesC] at h
  cases hc : okNd p nn x != 0 with
  | true =>
   rw [hc, cond_true] at h
   rw [h] at hc
   simp at hc
  | false =>
   rw [hc, cond_false] at h
   rcases List.mem_cons.1 hn with q | q
   ·rw [q]; exact part_narEb (okNd_partEb (by simpa using hc))
   ·exact nodesC_narEb h n q
theorem chkG_narEb {g : Gr} (h : chkG g = 0) : ∀ n ∈ g.nodes, narP n.props := by
 unfold chkG at h
 cases c1 : decide (g.nodes.length > 2000) || decide (g.edges.length > 4000) with
 | true => rw [c1] at h; simp at h
 | false =>
 rw [c1, cond_false] at h
 cases c2 : decide (g.nn < 1) || decide (g.nn > 1000001) || (decide (g.ne < 1) || decide (g.ne > 1000001)) with
 | true => rw [c2] at h; simp at h
 | false =>
 rw [c2, cond_false] at h
 cases c3 : nodesC g.nn none g.nodes != 0 with
 | true =>
  rw [c3, cond_true] at h
  rw [h] at c3
  simp at c3
 | false => exact nodesC_narEb (by simpa using c3)
def agrEb (V vs row c : List Int) : Prop := ∀ k, k < vs.length → vs.getD k 0 ∈ V → row.getD k 0 = c.getD (vs.getD k 0).toNat 0
theorem CovQ.joinEb {n : Nat} {S : List (List Int)} {V : List Int} {k m : Nat} (h : CovQ n S V k) (r : RVq) (hr : ∀ v ∈ r.vs, 0 ≤ v ∧ v < (n : Int))
  (hm : ∀ c : List Int, ∃ Dc : List (List Int), Dc.length ≤ m ∧ ∀ row ∈ r.rows, agrEb V r.vs row c → row ∈ Dc)
  (hs : ∀ t ∈ S, ∃ row ∈ r.rows, ∀ i, i < r.vs.length → row.getD i 0 = t.getD (r.vs.getD i 0).toNat 0) : CovQ n S (V ++ r.vs) (k * m) := by
 obtain ⟨C, h1, h2⟩ := h.ex
 obtain ⟨F, hF⟩ := Classical.axiomOfChoice hm
 refine ⟨fun v hv => ?_, C.flatMap fun c => (F c).map fun row => overQ n r.vs row c, ?_, fun t ht => ?_⟩
 ·rcases List.mem_append.1 hv with e | e
  ·exact h.lo v e
  ·exact hr v e
 ·have hl : ∀ C : List (List Int), (C.flatMap fun c => (F c).map fun row => overQ n r.vs row c).length ≤ C.length * m := fun C => by
   induction C with
   | nil => simp
   | cons c C ih =>
    rw [List.flatMap_cons, List.length_append, List.length_map, List.length_cons, Nat.succ_mul]
    have := (hF c).1
    omega
  exact Nat.le_trans (hl C) (Nat.mul_le_mul_right _ h1)
 ·obtain ⟨c, hc, ha⟩ := h2 t ht
  obtain ⟨row, hrow, hag⟩ := hs t ht
  have hin : row ∈ F c := (hF c).2 row hrow fun k hk hv => by rw [hag k hk]; exact ha _ hv
  refine ⟨overQ n r.vs row c, List.mem_flatMap.2 ⟨c, hc, List.mem_map.2 ⟨row, hin, rfl⟩⟩, fun v hv => ?_⟩
  have hvn : 0 ≤ v ∧ v < (n : Int) := by
   rcases List.mem_append.1 hv with e | e
   ·exact h.lo v e
   ·exact hr v e
  rw [overQ_get (by omega), show ((v.toNat : Nat) : Int) = v by omega]
  by_cases hin : r.vs.contains v = true
  ·rw [if_pos hin]
   obtain ⟨i1, i2⟩ := idxQ_ok hin
   rw [hag _ i1, i2]
  ·rw [if_neg hin]
   rcases List.mem_append.1 hv with e | e
   ·exact ha v e
   ·exact absurd (by simpa using e) hin
theorem eR_inEb {a : AT} : ∀ {l : List Ed} {r : List Int}, r ∈ eR a l → ∃ e ∈ l, (htF e a.ty = true ∧ okTu a.vs (idsE e) = true) ∧ r = tupTu a.vs (idsE e)
 | [], r, h => by simp [eR] at h
 | e :: l, r, h => by
  rw [eR] at h
  rcases List.mem_append.1 h with h | h
  ·cases hc : htF e a.ty && okTu a.vs (idsE e) with
   | false => rw [hc] at h; cases h
   | true =>
    rw [hc, cond_true, List.mem_singleton] at h
    rw [Bool.and_eq_true] at hc
    exact ⟨e, by simp, hc, h⟩
  ·obtain ⟨x, hx, h1, h2⟩ := eR_inEb h
   exact ⟨x, by simp [hx], h1, h2⟩
theorem nR_inEb {a : AT} : ∀ {l : List Nd} {r : List Int}, r ∈ nR a l → ∃ n ∈ l, holdF n a = true ∧ r = [n.id]
 | [], r, h => by simp [nR] at h
 | n :: l, r, h => by
  rw [nR] at h
  rcases List.mem_append.1 h with h | h
  ·cases hc : holdF n a with
   | false => rw [hc] at h; cases h
   | true =>
    rw [hc, cond_true, List.mem_singleton] at h
    exact ⟨n, by simp, hc, h⟩
  ·obtain ⟨x, hx, h1, h2⟩ := nR_inEb h
   exact ⟨x, by simp [hx], h1, h2⟩
theorem relF_inEb {g : Gr} {a : AT} {r : List Int} (h : r ∈ relF g a) : r ∈ rowsR g a := by
 unfold relF at h
 cases hok : okR g a with
 | false => rw [hok] at h; cases h
 | true => rwa [hok, cond_true, (sorZ_ok _ _ (Nat.le_refl _)).2] at h
theorem col_okEb {vs ids V c : List Int} (ho : okTu vs ids = true) (ha : agrEb V (vrsF vs) (tupTu vs ids) c) {i : Nat} (hi : i < vs.length) (hv : vs.getD i 0 ∈ V) : ids.getD i 0 = c.getD (vs.getD i 0).toNat 0 := by
 have hm : (vrsF vs).contains (vs.getD i 0) = true := by
  have := (vrs_mem vs (vs.getD i 0)).2 (getD_mem hi)
  simpa using this
 obtain ⟨k1, k2⟩ := idxQ_ok hm
 have h1 := ha _ k1 (by rw [k2]; exact hv)
 rw [k2] at h1
 rw [← h1]
 have h2 : valTu vs ids (vs.getD i 0) = ids.getD i 0 := by
  unfold okTu at ho
  exact eq_of_beq (List.all_eq_true.1 ho i (List.mem_range.2 hi))
 have h3 : (vrsF vs)[idxQ (vrsF vs) (vs.getD i 0)]? = some (vs.getD i 0) := by
  have k3 := k2
  rw [List.getD_eq_getElem?_getD, List.getElem?_eq_getElem k1, Option.getD_some] at k3
  rw [List.getElem?_eq_getElem k1, k3]
 unfold tupTu
 rw [List.getD_eq_getElem?_getD (l := List.map _ _), List.getElem?_map, h3]
 exact h2.symm
theorem ed_coverEb {g : Gr} {a : AT} (p : Ed → Bool) {m : Int} {V c : List Int} (hk : a.k = 3) (hm : ctEb p g.edges ≤ m)
  (hp : ∀ e ∈ g.edges, htF e a.ty = true → okTu a.vs (idsE e) = true → agrEb V (vrsF a.vs) (tupTu a.vs (idsE e)) c → p e = true) :
  ∃ Dc : List (List Int), Dc.length ≤ m.toNat ∧ ∀ row ∈ relF g a, agrEb V (vrsF a.vs) row c → row ∈ Dc := by
 refine ⟨(g.edges.filter p).map fun e => tupTu a.vs (idsE e), ?_, fun row hrow ha => ?_⟩
 ·have := ctEb_filter p g.edges
  rw [List.length_map]; omega
 ·have h := relF_inEb hrow
  unfold rowsR at h
  rw [show (a.k == 3) = true by simpa using hk, cond_true] at h
  obtain ⟨e, he, ⟨h1, h2⟩, rfl⟩ := eR_inEb h
  exact List.mem_map.2 ⟨e, List.mem_filter.2 ⟨he, hp e he h1 h2 ha⟩, rfl⟩
theorem nd_coverEb {g : Gr} {a : AT} (p : Nd → Bool) {m : Int} {V c : List Int} (hk : a.k ≠ 3) (hm : ctEb p g.nodes ≤ m) (hp : ∀ n ∈ g.nodes, holdF n a = true → p n = true) :
  ∃ Dc : List (List Int), Dc.length ≤ m.toNat ∧ ∀ row ∈ relF g a, agrEb V (vrsF a.vs) row c → row ∈ Dc := by
 refine ⟨(g.nodes.filter p).map fun n => [n.id], ?_, fun row hrow ha => ?_⟩
 ·have := ctEb_filter p g.nodes
  rw [List.length_map]; omega
 ·have h := relF_inEb hrow
  unfold rowsR at h
  rw [show (a.k == 3) = false by simpa using hk, cond_false] at h
  obtain ⟨n, hn, h1, rfl⟩ := nR_inEb h
  exact List.mem_map.2 ⟨n, List.mem_filter.2 ⟨hn, hp n hn h1⟩, rfl⟩
theorem max_cntEb {g : Gr} (hg : chkG g = 0) {d : Int} (hd : d = 1 ∨ d = 2) {ty : List ByteArray} (hr : riseF ty = true) (hn : ∀ t ∈ ty, nameF t = true) (id : Int) :
  ctEb (fun e => htF e ty && nbI d e == id) g.edges ≤ maxF (stG g) ty d := by
 obtain ⟨h0, h1⟩ := maxF_okEb (g := g) (chk_len hg).2 hd hr hn
 by_cases hex : ∃ e ∈ g.edges, (nbI d e == id) = true
 ·obtain ⟨e, he, hq⟩ := hex
  have hid : ∃ n ∈ g.nodes, n.id = id := by
   obtain ⟨p1, p2⟩ := (chkG_edEb hg).2 e he
   have hq := eq_of_beq hq
   rcases hd with rfl | rfl
   ·obtain ⟨n, hn, h⟩ := p1
    exact ⟨n, hn, by rw [h, ← hq]; rfl⟩
   ·obtain ⟨n, hn, h⟩ := p2
    exact ⟨n, hn, by rw [h, ← hq]; rfl⟩
  obtain ⟨n, hm, rfl⟩ := hid
  exact h1 n hm
 ·rw [ctEb_zero fun e he => ?_]
  ·exact h0
  ·cases hq : nbI d e == id with
   | true => exact absurd ⟨e, he, hq⟩ hex
   | false => rw [Bool.and_false]
theorem id_cntEb {x : Int} : ∀ {l : List Ed}, (l.map Ed.id).Pairwise (· < ·) → ctEb (fun e => e.id == x) l ≤ 1
 | [], _ => by simp [ctEb]
 | e :: r, h => by
  rw [List.map_cons, List.pairwise_cons] at h
  have ih := id_cntEb (x := x) h.2
  simp only [ctEb]
  cases hx : e.id == x with
  | false => simp only [cond_false]; omega
  | true =>
   have hx := eq_of_beq hx
   rw [ctEb_zero fun y hy => ?_]
   ·simp
   ·have := h.1 y.id (List.mem_map_of_mem hy)
    rw [beq_eq_false_iff_ne]; omega
theorem fac_okEb {g : Gr} (hg : chkG g = 0) (a : AT) (hs : shapeF a = true ∧ namF28 a = true) (V c : List Int) :
  ∃ Dc : List (List Int), Dc.length ≤ (atomF (stG g) a V).toNat ∧ ∀ row ∈ relF g a, agrEb V (vrsF a.vs) row c → row ∈ Dc := by
 obtain ⟨s1, s2, -⟩ := shape_arity hs.1
 have hk : a.k = 3 ∨ a.k = 1 ∨ a.k = 2 ∨ a.k = 4 := by
  rcases atk_cases a.k with h | h | h | h | ⟨h1, h2, h3, h4⟩
  ·exact .inl h
  ·exact .inr (.inl h)
  ·exact .inr (.inr (.inl h))
  ·exact .inr (.inr (.inr h))
  ·refine absurd ?_ s2
   unfold ariN
   rw [h1, h2, h3, h4]; rfl
 have h0 : (!(decide (a.k ≥ 1) && decide (a.k ≤ 4)) || a.vs.length != (bif a.k == 3 then 3 else 1)) = false := by
  rw [s1]
  rcases hk with h | h | h | h <;> rw [h] <;> rfl
 unfold atomF
 rw [h0, cond_false]
 cases hall : a.vs.all fun v => V.contains v with
 | true =>
  refine ⟨[(vrsF a.vs).map fun v => c.getD v.toNat 0], Nat.le_refl _, fun row hrow ha => ?_⟩
  rw [List.mem_singleton]
  have hl := (relF_row hrow).1
  refine List.ext_getElem? fun k => ?_
  rcases Nat.lt_or_ge k (vrsF a.vs).length with hk | hk
  ·have hv : (vrsF a.vs).getD k 0 ∈ V := by
    have := List.all_eq_true.1 hall _ ((vrs_mem a.vs _).1 (getD_mem hk))
    simpa using this
   have h1 := ha k hk hv
   rw [List.getElem?_map, List.getElem?_eq_getElem hk, List.getElem?_eq_getElem (show k < row.length by omega)]
   rw [List.getD_eq_getElem?_getD, List.getElem?_eq_getElem (show k < row.length by omega), Option.getD_some] at h1
   rw [h1, List.getD_eq_getElem?_getD (l := vrsF a.vs), List.getElem?_eq_getElem hk]
   rfl
  ·rw [List.getElem?_eq_none (by omega), List.getElem?_eq_none (by rw [List.length_map]; omega)]
 | false =>
 rw [cond_false]
 rcases hk with h | h | h | h
 ·have hv3 : a.vs.length = 3 := by rw [s1, h]; rfl
  have hr : riseF a.ty = true := by
   have hs1 := hs.1
   unfold shapeF at hs1
   cases c1 : ariN a.k == 0 || a.vs.length != ariN a.k with
   | true => rw [c1] at hs1; cases hs1
   | false =>
   cases c2 : a.vs.any fun v => decide (v < 0) with
   | true => rw [c1, c2] at hs1; cases hs1
   | false =>
   cases c3 : (a.k != 3 && decide (a.ty.length > 0)) || ((a.k != 1 && a.k != 2) && !nmE a.nm) with
   | true => rw [c1, c2, c3] at hs1; cases hs1
   | false =>
    rw [c1, c2, c3] at hs1
    rw [show (a.k == 2) = false by rw [h]; rfl] at hs1
    simp only [cond_false, Bool.and_eq_true] at hs1
    exact hs1.1
  have hn : ∀ t ∈ a.ty, nameF t = true := fun t ht => by
   have hs2 := hs.2
   unfold namF28 at hs2
   rw [Bool.and_eq_true] at hs2
   have h2 := hs2.2
   rw [Bool.not_eq_true', List.any_eq_false] at h2
   simpa using h2 t ht
  rw [show (a.k == 1) = false by rw [h]; rfl, cond_false, show (a.k != 3) = false by rw [h]; rfl, cond_false]
  cases hy : V.contains (a.vs.getD 1 0) with
  | true =>
   rw [cond_true]
   refine ed_coverEb (fun e => e.id == c.getD (a.vs.getD 1 0).toNat 0) (m := 1) h (id_cntEb (chkG_edEb hg).1) fun e _ _ ho ha => ?_
   rw [beq_iff_eq]
   exact col_okEb ho ha (i := 1) (by omega) (by simpa using hy)
  | false =>
  rw [cond_false]
  have p1 : V.contains (a.vs.getD 0 0) = true → ∃ Dc : List (List Int), Dc.length ≤ (maxF (stG g) a.ty 1).toNat ∧ ∀ row ∈ relF g a, agrEb V (vrsF a.vs) row c → row ∈ Dc := fun hx =>
   ed_coverEb (fun e => htF e a.ty && nbI 1 e == c.getD (a.vs.getD 0 0).toNat 0) h (max_cntEb hg (.inl rfl) hr hn _) fun e _ hht ho ha => by
    rw [hht, Bool.true_and, beq_iff_eq]
    exact col_okEb ho ha (i := 0) (by omega) (by simpa using hx)
  have p2 : V.contains (a.vs.getD 2 0) = true → ∃ Dc : List (List Int), Dc.length ≤ (maxF (stG g) a.ty 2).toNat ∧ ∀ row ∈ relF g a, agrEb V (vrsF a.vs) row c → row ∈ Dc := fun hx =>
   ed_coverEb (fun e => htF e a.ty && nbI 2 e == c.getD (a.vs.getD 2 0).toNat 0) h (max_cntEb hg (.inr rfl) hr hn _) fun e _ hht ho ha => by
    rw [hht, Bool.true_and, beq_iff_eq]
    exact col_okEb ho ha (i := 2) (by omega) (by simpa using hx)
  cases hx : V.contains (a.vs.getD 0 0) with
  | true =>
   cases hz : V.contains (a.vs.getD 2 0) with
   | true =>
    rw [Bool.and_true, cond_true]
    rcases Int.le_total (maxF (stG g) a.ty 1) (maxF (stG g) a.ty 2) with hle | hle
    ·rw [Int.min_eq_left hle]; exact p1 hx
    ·rw [Int.min_eq_right hle]; exact p2 hz
   | false => exact p1 hx
  | false =>
   rw [Bool.false_and, cond_false, cond_false]
   cases hz : V.contains (a.vs.getD 2 0) with
   | true => exact p2 hz
   | false =>
    rw [cond_false]
    exact ed_coverEb (fun e => htF e a.ty) h (edgesF_okEb (chk_len hg).2 hr) fun e _ hht _ _ => hht
 ·rw [show (a.k == 1) = true by rw [h]; rfl, cond_true]
  refine nd_coverEb (fun n => hasF n.labels a.nm) (by omega) (nodesF_okEb g a.nm) fun n _ hh => ?_
  unfold holdF at hh
  rwa [show (a.k == 1) = true by rw [h]; rfl, cond_true] at hh
 ·rw [show (a.k == 1) = false by rw [h]; rfl, cond_false, show (a.k != 3) = true by rw [h]; rfl, cond_true]
  exact nd_coverEb (fun _ => true) (by omega) (by rw [nodesF_allEb]; exact ctEb_len _ _) fun _ _ _ => rfl
 ·rw [show (a.k == 1) = false by rw [h]; rfl, cond_false, show (a.k != 3) = true by rw [h]; rfl, cond_true]
  exact nd_coverEb (fun _ => true) (by omega) (by rw [nodesF_allEb]; exact ctEb_len _ _) fun _ _ _ => rfl
theorem boundF_memEb {c : CJ} {set : Nat} {v : Int} : v ∈ boundF c set ↔ ∃ (i : Nat) (a : AT), c.aq[i]? = some a ∧ set.testBit i = true ∧ v ∈ a.vs := by
 unfold boundF
 rw [List.mem_flatMap]
 constructor
 ·rintro ⟨i, hi, h⟩
  cases hb : set.testBit i with
  | false => rw [hb] at h; cases h
  | true =>
   rw [hb, cond_true] at h
   cases ha : c.aq[i]? with
   | none => rw [ha] at h; cases h
   | some a => rw [ha] at h; exact ⟨i, a, ha, hb, h⟩
 ·rintro ⟨i, a, ha, hb, h⟩
  refine ⟨i, List.mem_range.2 (List.getElem?_eq_some_iff.1 ha).1, ?_⟩
  rw [hb, ha]; exact h
theorem cov_ordEb {g : Gr} (hg : chkG g = 0) {c : CJ} (hc : ChkQ c) (S : List (List Int)) (hsat : ∀ t ∈ S, ∀ a ∈ c.aq, satQ g a t) : ∀ (o : List Nat) (set k : Nat), fills c.aq.length set o →
  CovQ c.vs.length S (boundF c set) k → ∃ V, CovQ c.vs.length S V (k * costF (facF (stG g) c) set o) ∧ ∀ a ∈ c.aq, ∀ v ∈ a.vs, v ∈ V
 | [], set, k, hf, hcov => ⟨boundF c set, by rw [costF, Nat.mul_one]; exact hcov, fun a ha v hv => by
   obtain ⟨i, hi⟩ := List.getElem?_of_mem ha
   exact boundF_memEb.2 ⟨i, a, hi, hf i (List.getElem?_eq_some_iff.1 hi).1, hv⟩⟩
 | i :: r, set, k, hf, hcov => by
  obtain ⟨⟨hi, hb⟩, hf2⟩ := hf
  obtain ⟨a, ha⟩ : ∃ a, c.aq[i]? = some a := ⟨_, List.getElem?_eq_getElem hi⟩
  have hm := List.mem_of_getElem? ha
  have hfac : facF (stG g) c set i = (atomF (stG g) a (boundF c set)).toNat := by unfold facF; rw [ha]
  have hj := hcov.joinEb (relQ g a) (fun v hv => hc.rg a hm v ((vrs_mem a.vs v).1 hv)) (m := facF (stG g) c set i) (fun c' => by rw [hfac]; exact fac_okEb hg a (hc.sh a hm) _ c') (fun t ht => hsat t ht a hm)
  have hcov2 := cov_mem hj (W := boundF c (set + 2 ^ i)) fun v hv => by
   obtain ⟨j, b, hj1, hj2, hj3⟩ := boundF_memEb.1 hv
   rw [bit_add hb, Bool.or_eq_true] at hj2
   rcases hj2 with h | h
   ·exact List.mem_append_left _ (boundF_memEb.2 ⟨j, b, hj1, h, hj3⟩)
   ·rw [beq_iff_eq] at h
    subst h
    rw [ha] at hj1
    cases hj1
    exact List.mem_append_right _ ((vrs_mem a.vs v).2 hj3)
  obtain ⟨V, h1, h2⟩ := cov_ordEb hg hc S hsat r _ _ hf2 hcov2
  refine ⟨V, ?_, h2⟩
  rw [costF, ← Nat.mul_assoc]; exact h1
theorem rows_boundEb {g : Gr} (hi : idR g) (hg : chkG g = 0) {c : CJ} (hc0 : chkC c = 0) : (rowsQ g c).length ≤ rowsF (stG g) c := by
 have hc := chkQ_of hc0
 have hm := fun t => rowsQ_mem hi hg hc0 t
 obtain ⟨f1, f2⟩ := ord_att (facF (stG g) c) (n := c.aq.length) (missN c.aq.length 0) 0 1 (Nat.two_pow_pos _) rfl (Nat.one_mul _)
 obtain ⟨V, h1, h2⟩ := cov_ordEb hg hc (rowsQ g c) (fun t ht => ((hm t).1 ht).2) _ 0 1 f1 (cov_mem (CovQ.start _ _) fun v hv => by
  obtain ⟨j, b, -, hj2, -⟩ := boundF_memEb.1 hv
  rw [Nat.zero_testBit] at hj2
  cases hj2)
 rw [f2] at h1
 refine h1.len (risZ_nodup (rowsQ_ris g c)) (fun t ht => ((hm t).1 ht).1) fun j hj => ?_
 obtain ⟨a, ha, hv⟩ := hc.us j hj
 exact h2 a ha _ hv
theorem cov_fewEb {g : Gr} (hg : chkG g = 0) (h1 : g.nodes.length ≤ 12) (h2 : g.edges.length ≤ 12) {n : Nat} {S : List (List Int)} : ∀ (l : List AT) {V : List Int} {k : Nat}, (∀ a ∈ l, ∀ v ∈ a.vs, 0 ≤ v ∧ v < (n : Int)) → (∀ t ∈ S, ∀ a ∈ l, satQ g a t) →
  CovQ n S V k → ∃ W, CovQ n S W (k * 12 ^ l.length) ∧ (∀ v ∈ V, v ∈ W) ∧ ∀ a ∈ l, ∀ v ∈ a.vs, v ∈ W
 | [], V, k, _, _, h => ⟨V, by rw [List.length_nil, Nat.pow_zero, Nat.mul_one]; exact h, fun v h => h, fun a ha => by cases ha⟩
 | a :: l, V, k, hr, hs, h => by
  obtain ⟨-, r2, r3⟩ := relF_len hg a
  have hm : (relQ g a).rows.length ≤ 12 := by
   show (relF g a).length ≤ 12
   by_cases hk : a.k = 3
   ·have := r3 hk; omega
   ·have := r2 hk; omega
  have hj := h.join (relQ g a) (fun v hv => hr a (by simp) v ((vrs_mem a.vs v).1 hv)) hm fun t ht => hs t ht a (by simp)
  obtain ⟨W, w1, w2, w3⟩ := cov_fewEb hg h1 h2 l (fun b hb => hr b (by simp [hb])) (fun t ht b hb => hs t ht b (by simp [hb])) hj
  refine ⟨W, ?_, fun v hv => w2 v (List.mem_append_left _ hv), fun b hb v hv => ?_⟩
  ·rw [List.length_cons, Nat.pow_succ, Nat.mul_comm (12 ^ l.length), ← Nat.mul_assoc]; exact w1
  ·rcases List.mem_cons.1 hb with rfl | hb
   ·exact w2 v (List.mem_append_right _ ((vrs_mem b.vs v).2 hv))
   ·exact w3 b hb v hv
theorem rows_fewEb {g : Gr} (hi : idR g) (hg : chkG g = 0) {c : CJ} (hc0 : chkC c = 0) (h1 : g.nodes.length ≤ 12) (h2 : g.edges.length ≤ 12) (h3 : c.aq.length ≤ 5) : (rowsQ g c).length ≤ 248832 := by
 have hc := chkQ_of hc0
 have hm := fun t => rowsQ_mem hi hg hc0 t
 obtain ⟨W, w1, -, w3⟩ := cov_fewEb hg h1 h2 (S := rowsQ g c) c.aq hc.rg (fun t ht => ((hm t).1 ht).2) (CovQ.start c.vs.length (rowsQ g c))
 have hp : 12 ^ c.aq.length ≤ 12 ^ 5 := Nat.pow_le_pow_right (by decide) h3
 refine Nat.le_trans (w1.len (risZ_nodup (rowsQ_ris g c)) (fun t ht => ((hm t).1 ht).1) fun j hj => ?_) (by rw [Nat.one_mul]; exact hp)
 obtain ⟨a, ha, hv⟩ := hc.us j hj
 exact w3 a ha _ hv
theorem labL_lenEb : ∀ (l : List Nd), (∀ n ∈ l, n.labels.length ≤ 8) → (labL l).length ≤ 8 * l.length
 | [], _ => by simp [labL]
 | n :: r, h => by
  have h1 := h n (by simp)
  have h2 := labL_lenEb r fun m hm => h m (by simp [hm])
  unfold labL at h2 ⊢
  rw [List.flatMap_cons, List.length_append, List.length_cons]; omega
theorem cmp_leEb {m n : Nat} (h : m ≤ n) : decide (cmpN m n ≤ 0) = true := by
 unfold cmpN
 rw [decide_eq_true_eq]
 split
 ·omega
 ·split <;> omega
theorem idR_fitEb {g : Gr} (h : Fit (encGr g)) : idR g := fit_idP h
theorem rowsF_limEb {s : STA} (hs : Fit (encST s)) (c : CJ) (h : c.aq.length ≤ 7) : (lim (rowsF s c)).length ≤ 64 :=
 lim_of_le (Nat.le_trans (tb_lim h (fun set i => facF_le hs c set i) (Nat.two_pow_pos _)) (Nat.pow_le_pow_right (by decide) (show 7 ≤ 15 by decide)))
attribute [local irreducible] go SGo HasBody Ev ExtEv EvO EvS PGo RGo chkG stG rowsQ rowsF chkC
set_option maxRecDepth 20000 in
set_option maxHeartbeats 16000000 in
theorem eb_ev (g : Gr) (c : CJ) : Ev E 4 [encGr g, encCJ c] (.d (.bool true)) := Ev.fit fun hfit => by
 have hidr := idR_fitEb (hfit (encGr g) (by simp))
 clear hfit
 have hnn : (g.nodes.map encNd).length = g.nodes.length := by simp
 have hen : (g.edges.map encEd).length = g.edges.length := by simp
 have hC := gcheck_ev g
 cases hz : chkG g != 0 with
 | true =>
  have hO := of0_ev g (chkG g) hz hC
  refine ye2 func4 ntmps4 fun _ _ _=>?_
  repeat' (first | refine yz ?_ | refine yp b14 hO ?_ | refine yp b15 lives_ev ?_ | refine yx ?_ | (refine yy ?_ ?_ <;> intro _) | exact zD | exact zL)
 | false =>
 have hc0 : chkG g = 0 := by simpa using hz
 obtain ⟨q1, q2, q3, q4⟩ := chkG_0 hc0
 rw [hc0] at hC
 have hO := of_ev g hC q1 q2 q4 (Nat.le_trans (srtC_len _) (Nat.le_trans (labL_lenEb _ q4) (by omega))) (Nat.le_trans (srtC_len _) (by rw [tyL, List.length_map]; exact q2))
 have hcl : (c.vs.map D.str).length = c.vs.length := by simp
 have hal : (c.aq.map encAT).length = c.aq.length := by simp
 have hR := rows_ev (stG g) c (chkC c) (checkC_ev c)
 have hA := rows_evQ g c (chkG_narEb hc0)
 have hB : chkC c = 0 → c.aq.length ≤ 5 → g.nodes.length ≤ 12 → g.edges.length ≤ 12 → (rowsQ g c).length ≤ 248832 ∧ (rowsQ g c).length ≤ rowsF (stG g) c := fun h h1 h2 h3 => ⟨rows_fewEb hidr hc0 h h2 h3 h1, rows_boundEb hidr hc0 h⟩
 have hL : c.aq.length ≤ 7 → Fit (encST (stG g)) → (lim (rowsF (stG g) c)).length ≤ 64 := fun h hs => rowsF_limEb hs c h
 have hK : chkC c = 0 → OkC c := chk_okc
 clear hC hz hc0
 generalize rowsQ g c = R at *
 generalize chkC c = e at *
 unfold rowV at hR
 generalize rowsF (stG g) c = N at *
 obtain ⟨vs, ats⟩ := c
 dsimp only at *
 refine ye2 func4 ntmps4 fun _ _ _=>?_
 repeat' (first | refine yz ?_ | refine yp b14 hO ?_ | refine yx ?_ | exact zD | exact zL)
 cases c1 : decide (((g.nodes.map encNd).length : Int) > 8) with
 | true =>
  repeat' (first | refine yz ?_ | refine yp b15 lives_ev ?_ | refine yx ?_ | (refine yy ?_ ?_ <;> intro _) | exact zD | exact zL)
 | false =>
 repeat' (first | refine yz ?_ | refine yx ?_ | exact zD | exact zL)
 cases c2 : decide (((g.edges.map encEd).length : Int) > 12) with
 | true =>
  repeat' (first | refine yz ?_ | refine yp b15 lives_ev ?_ | refine yx ?_ | (refine yy ?_ ?_ <;> intro _) | exact zD | exact zL)
 | false =>
 repeat' (first | refine yz ?_ | refine yx ?_ | exact zD | exact zL)
 cases c3 : decide (((vs.map D.str).length : Int) > 5) with
 | true =>
  repeat' (first | refine yz ?_ | refine yp b15 lives_ev ?_ | refine yx ?_ | (refine yy ?_ ?_ <;> intro _) | exact zD | exact zL)
 | false =>
 repeat' (first | refine yz ?_ | refine yx ?_ | exact zD | exact zL)
 cases c4 : decide (((ats.map encAT).length : Int) > 5) with
 | true =>
  repeat' (first | refine yz ?_ | refine yp b15 lives_ev ?_ | refine yx ?_ | (refine yy ?_ ?_ <;> intro _) | exact zD | exact zL)
 | false =>
 have b1 : g.nodes.length ≤ 12 := by have := of_decide_eq_false c1; omega
 have b2 : g.edges.length ≤ 12 := by have := of_decide_eq_false c2; omega
 have b4 : ats.length ≤ 5 := by have := of_decide_eq_false c4; omega
 have hR := hR fun h => ⟨hK h, by omega⟩
 refine go_fitO 2 rfl fun hfs => ?_
 have hlm := hL (by omega) hfs
 cases c5 : e != 0 with
 | true =>
  have c5' : (e == 0) = false := by simpa using c5
  rw [c5', cond_false] at hR
  repeat' (first | refine yz ?_ | refine yp b16 hR ?_ | refine yp b15 lives_ev ?_ | refine yx ?_ | (refine yy ?_ ?_ <;> intro _) | exact zD | exact zL)
 | false =>
  obtain rfl : e = 0 := by simpa using c5
  rw [show ((0 : Int) == 0) = true from rfl, cond_true] at hR
  obtain ⟨m1, m2⟩ := hB rfl b4 b1 b2
  have hA := hA (by omega)
  have hrl : (rL R).length = R.length := by simp [rL]
  have hN := nof_ev ((rL R).length : Int)
  rw [Int.toNat_natCast] at hN
  have hM := ncmp_ev (rL R).length N (Nat.le_trans (lim_small (by omega)) (by decide)) hlm
  have hle := cmp_leEb (m := (rL R).length) (n := N) (by omega)
  generalize cmpN (rL R).length N = z at *
  clear hB hK hL hO
  repeat' (first | refine yz ?_ | refine yp b16 hR ?_ | refine yp b19 hA ?_ | refine yp b18 hN ?_ | refine yp b17 hM ?_ | refine yp b15 lives_ev ?_ | refine yx ?_ | (refine yy ?_ ?_ <;> intro _) | exact zD | exact zL)
end Go.Proofs.YtenpjlghikohmaaGreatDoor
