/- Clauses as canonical text: what both texts write, and how long it is; Small clauses, and what the checks grant of them; Properties of a pattern as text, by both texts; Node and edge patterns as text, by both texts; Edge patterns as text, by both texts; Edge patterns as text, by the specification. Conditions: each part's own, as it says. -/
import Derived.Test.YtmfjfclpdmpncaaGreatDoorGC
import Derived.Test.YtmfjfclpdmpncaaGreatDoorCB
import Derived.Test.YtmfjfclpdmpncaaGreatDoorFB
set_option linter.unusedVariables false
set_option linter.unusedSimpArgs false
/- Clauses as canonical text: what both texts write, and how long it is. Conditions: none; definitions and plain laws. -/
namespace Go.Proofs.YtmfjfclpdmpncaaGreatDoor
set_option maxRecDepth 4000
open Go Go.Abs Go.Val Go.RowKit

def bl (s : ByteArray) : List UInt8 := s.data.toList
theorem bl_len (s : ByteArray) : (bl s).length = s.size := by simp [bl]
theorem bs_bl (s : ByteArray) : bs (bl s) = s := bs_list s
/-- Whether a text is empty, as a comparison with the empty text says it. -/
theorem em_bs (x : List UInt8) : ((bs x).toList == (⟨#[]⟩ : ByteArray).toList) = x.isEmpty := by
  rw [ByteArray.toList_eq, ByteArray.toList_eq]
  show (x.toArray.toList == ([] : List UInt8)) = x.isEmpty
  cases x <;> rfl
theorem em_s0 (s : ByteArray) : s0B s = (bl s).isEmpty := by
  have h := em_bs (bl s)
  rw [bs_bl] at h
  exact h
theorem em_size {x : List UInt8} : x.isEmpty = decide (x.length = 0) := by cases x <;> simp
theorem flat_le (B : Nat) : ∀ xs : List (List UInt8), (∀ x ∈ xs, x.length ≤ B) → xs.flatten.length ≤ xs.length * B
  | [], _ => by simp
  | a :: r, h => by
    have h1 := h a (by simp)
    have h2 := flat_le B r fun x hx => h x (by simp [hx])
    rw [List.flatten_cons, List.length_append, List.length_cons, Nat.add_mul]
    omega
theorem join_le2 (B : Nat) (sep : List UInt8) (hs : sep.length ≤ 2) (xs : List (List UInt8)) (h : ∀ x ∈ xs, x.length ≤ B) : (Lib.join xs sep).length ≤ xs.length * (B + 2) := by
  refine Nat.le_trans (join_le sep hs xs) ?_
  induction xs with
  | nil => simp
  | cons a r ih =>
    have h1 := h a (by simp)
    have h2 := ih fun x hx => h x (by simp [hx])
    rw [List.map_cons, List.sum_cons, List.length_cons, Nat.add_mul]
    omega
/-! ## Patterns -/
def ppT (p : PP) : List UInt8 := bl p.key ++ [58, 32] ++ txE p.e
def prJ (l : List PP) : List UInt8 := [123] ++ Lib.join (l.map ppT) [44, 32] ++ [125]
def prT (l : List PP) : List UInt8 := bif l.length == 0 then [] else prJ l
/-- Two texts, with a blank between them if both are there. -/
def spT (a b : List UInt8) : List UInt8 := bif a.isEmpty || b.isEmpty then a ++ b else a ++ [32] ++ b
def lbL (l : List ByteArray) : List (List UInt8) := l.map fun s => [58] ++ bl s
def nsT (n : NP) : List UInt8 := bl n.vr ++ (lbL n.lb).flatten
def ndT (n : NP) : List UInt8 := [40] ++ spT (nsT n) (prT n.ps) ++ [41]
def tyT (l : List ByteArray) : List UInt8 := bif l.length == 0 then [] else [58] ++ Lib.join (l.map bl) [124]
def mwT (m : Int) : List UInt8 :=
  bif m == 2 then [84, 82, 65, 73, 76, 32] else
  bif m == 3 then [83, 73, 77, 80, 76, 69, 32] else
  bif m == 4 then [83, 72, 79, 82, 84, 69, 83, 84, 32] else
  bif m == 5 then [65, 78, 89, 32, 83, 72, 79, 82, 84, 69, 83, 84, 32] else []
def moT (e : EP) : List UInt8 := bif e.mode == 0 then [] else mwT e.mode ++ ([42] ++ Lib.itoa e.mn ++ [46, 46] ++ Lib.itoa e.mx)
def esT (e : EP) : List UInt8 := spT (spT (bl e.vr ++ tyT e.ty) (moT e)) (prT e.ps)
def edT (e : EP) : List UInt8 :=
  bif e.dir == 1 then [45, 91] ++ esT e ++ [93, 45, 62] else
  bif e.dir == 2 then [60, 45, 91] ++ esT e ++ [93, 45] else [45, 91] ++ esT e ++ [93, 45]
def pvT (p : PA) : List UInt8 := bif s0B p.vr then [] else bl p.vr ++ [32, 61, 32]
def paL (p : PA) : List (List UInt8) := List.zipWith (fun a n => a ++ ndT n) ([] :: p.es.map edT) p.ns
def paT (p : PA) : List UInt8 := pvT p ++ (paL p).flatten
/-! ## Clauses -/
def whT (l : List Ex) : List UInt8 := match l with | [] => [] | e :: _ => [32, 87, 72, 69, 82, 69, 32] ++ txE e
def bdT (w : List UInt8) (n : Int) : List UInt8 := bif decide (n < 0) then [] else [32] ++ w ++ [32] ++ Lib.itoa n
def skT : List UInt8 := [83, 75, 73, 80]
def lmT : List UInt8 := [76, 73, 77, 73, 84]
def itT (x : IT) : List UInt8 := txE x.e ++ [32, 65, 83, 32] ++ bl x.asn
def odT (x : SK) : List UInt8 := bif x.dc then txE x.e ++ [32, 68, 69, 83, 67] else txE x.e
def obT (l : List SK) : List UInt8 := bif l.length == 0 then [] else [32, 79, 82, 68, 69, 82, 32, 66, 89, 32] ++ Lib.join (l.map odT) [44, 32]
def dsT (b : Bool) : List UInt8 := bif b then [68, 73, 83, 84, 73, 78, 67, 84, 32] else []
def pjT (c : CL) : List UInt8 := dsT c.ds ++ Lib.join (c.it.map itT) [44, 32] ++ obT c.od ++ bdT skT c.sk ++ bdT lmT c.lm ++ whT c.wh
def rmF (x : SIt) : Bool := bif !(s0B x.lb) then x.off else x.e.op == 1 && x.e.v.k == 0
def asT (x : SIt) : List UInt8 :=
  bif !(s0B x.lb) then bl x.vr ++ [58] ++ bl x.lb else
  bif rmF x then bl x.vr ++ [46] ++ bl x.key else bl x.vr ++ [46] ++ bl x.key ++ [32, 61, 32] ++ txE x.e
/-- What stands ahead of an assignment; `p` is the one before. -/
def sepT (p : Option SIt) (x : SIt) : List UInt8 :=
  bif (match p with | none => false | some y => rmF y == rmF x) then [44, 32] else
  (bif p.isSome then [32] else []) ++ (bif rmF x then [82, 69, 77, 79, 86, 69, 32] else [83, 69, 84, 32])
def seL : Option SIt → List SIt → List (List UInt8)
  | _, [] => []
  | p, x :: r => (sepT p x ++ asT x) :: seL (some x) r
def seT (l : List SIt) : List UInt8 := (seL none l).flatten
def clT (c : CL) : List UInt8 :=
  bif c.k == 1 then (bif c.opt then [79, 80, 84, 73, 79, 78, 65, 76, 32] else []) ++ ([77, 65, 84, 67, 72, 32] ++ Lib.join (c.ps.map paT) [44, 32] ++ whT c.wh) else
  bif c.k == 2 then [85, 78, 87, 73, 78, 68, 32] ++ txE c.e ++ [32, 65, 83, 32] ++ bl c.nm else
  bif c.k == 3 then [87, 73, 84, 72, 32] ++ pjT c else
  bif c.k == 4 then [82, 69, 84, 85, 82, 78, 32] ++ pjT c else
  bif c.k == 5 then [67, 82, 69, 65, 84, 69, 32] ++ Lib.join (c.ps.map paT) [44, 32] else
  bif c.k == 6 then [77, 69, 82, 71, 69, 32] ++ Lib.join (c.ps.map paT) [44, 32] else
  bif c.k == 7 then seT c.st else
  (bif c.opt then [68, 69, 84, 65, 67, 72, 32] else []) ++ ([68, 69, 76, 69, 84, 69, 32] ++ Lib.join (c.ns.map bl) [44, 32])
/-! ## What is fit to be written -/
def TxX (e : Ex) : Prop := alE smN e ∧ nd e ≤ 400
structure TxP (l : List PP) : Prop where
  n : l.length ≤ 20
  k : ∀ p ∈ l, p.key.size ≤ 20
  e : ∀ p ∈ l, TxX p.e
structure TxN (x : NP) : Prop where
  v : x.vr.size ≤ 20
  n : x.lb.length ≤ 20
  l : ∀ s ∈ x.lb, s.size ≤ 20
  p : TxP x.ps
structure TxG (x : EP) : Prop where
  v : x.vr.size ≤ 20
  n : x.ty.length ≤ 20
  l : ∀ s ∈ x.ty, s.size ≤ 20
  mn : 0 ≤ x.mn ∧ x.mn ≤ 6
  mx : 0 ≤ x.mx ∧ x.mx ≤ 6
  p : TxP x.ps
structure TxA (p : PA) : Prop where
  v : p.vr.size ≤ 20
  n : p.ns.length = p.es.length + 1
  m : p.es.length ≤ 6
  ns : ∀ n ∈ p.ns, TxN n
  es : ∀ e ∈ p.es, TxG e
structure TxI (x : SIt) : Prop where
  v : x.vr.size ≤ 20
  l : x.lb.size ≤ 20
  k : x.key.size ≤ 20
  e : s0B x.lb = true → TxX x.e
structure TxC (c : CL) : Prop where
  pn : c.ps.length ≤ 8
  p : ∀ p ∈ c.ps, TxA p
  w : ∀ e ∈ c.wh, TxX e
  e : c.k = 2 → TxX c.e ∧ c.nm.size ≤ 20
  im : c.it.length ≤ 20
  i : ∀ x ∈ c.it, TxX x.e ∧ x.asn.size ≤ 20
  om : c.od.length ≤ 20
  o : ∀ x ∈ c.od, TxX x.e
  sk : -1 ≤ c.sk ∧ c.sk ≤ 1000000000000000
  lm : -1 ≤ c.lm ∧ c.lm ≤ 1000000000000000
  sm : c.st.length ≤ 20
  s : ∀ x ∈ c.st, TxI x
  nm : c.ns.length ≤ 20
  n : ∀ s ∈ c.ns, s.size ≤ 20
theorem txx_le {e : Ex} (h : TxX e) : (txE e).length ≤ 400000 := by
  have := tx_le e h.1
  have := h.2
  omega
theorem pp_le {p : PP} (hk : p.key.size ≤ 20) (h : TxX p.e) : (ppT p).length ≤ 400022 := by
  have := txx_le h
  have := bl_len p.key
  simp only [ppT, List.length_append, List.length_cons, List.length_nil]
  omega
theorem prj_le {l : List PP} (h : TxP l) : (Lib.join (l.map ppT) [44, 32]).length ≤ 8000480 := by
  have h1 := join_le2 400022 [44, 32] (by simp) (l.map ppT) (by
    intro x hx
    obtain ⟨p, hp, rfl⟩ := List.mem_map.1 hx
    exact pp_le (h.k p hp) (h.e p hp))
  have := h.n
  rw [List.length_map] at h1
  omega
theorem pr_le {l : List PP} (h : TxP l) : (prT l).length ≤ 8000482 := by
  have := prj_le h
  unfold prT prJ
  cases l.length == 0 <;> simp only [cond_true, cond_false, List.length_append, List.length_cons, List.length_nil] <;> omega
theorem sp_le (a b : List UInt8) : (spT a b).length ≤ a.length + b.length + 1 := by
  unfold spT
  cases a.isEmpty || b.isEmpty <;> simp only [cond_true, cond_false, List.length_append, List.length_cons, List.length_nil] <;> omega
theorem ns_le {n : NP} (h : TxN n) : (nsT n).length ≤ 440 := by
  have h1 := flat_le 21 (lbL n.lb) (by
    intro x hx
    obtain ⟨s, hs, rfl⟩ := List.mem_map.1 hx
    have := h.l s hs
    have := bl_len s
    simp only [List.length_append, List.length_cons, List.length_nil]
    omega)
  have h2 : (lbL n.lb).length = n.lb.length := by simp [lbL]
  have := h.n
  have := h.v
  have := bl_len n.vr
  simp only [nsT, List.length_append]
  rw [h2] at h1
  omega
theorem nd_le {n : NP} (h : TxN n) : (ndT n).length ≤ 8001000 := by
  have := sp_le (nsT n) (prT n.ps)
  have := ns_le h
  have := pr_le h.p
  simp only [ndT, List.length_append, List.length_cons, List.length_nil]
  omega
theorem ty_le {l : List ByteArray} (hn : l.length ≤ 20) (h : ∀ s ∈ l, s.size ≤ 20) : (Lib.join (l.map bl) [124]).length ≤ 440 := by
  have h1 := join_le2 20 [124] (by simp) (l.map bl) (by
    intro x hx
    obtain ⟨s, hs, rfl⟩ := List.mem_map.1 hx
    have := h s hs
    have := bl_len s
    omega)
  rw [List.length_map] at h1
  omega
theorem ty_le2 {l : List ByteArray} (hn : l.length ≤ 20) (h : ∀ s ∈ l, s.size ≤ 20) : (tyT l).length ≤ 441 := by
  have := ty_le hn h
  unfold tyT
  cases l.length == 0 <;> simp only [cond_true, cond_false, List.length_append, List.length_cons, List.length_nil] <;> omega
theorem mw_le (m : Int) : (mwT m).length ≤ 13 := by
  unfold mwT
  repeat' (rw [Bool.cond_eq_ite]; split)
  all_goals simp
theorem ita_le {n : Int} (h : -1 ≤ n ∧ n ≤ 1000000000000000) : (Lib.itoa n).length ≤ 21 := itoa_len (by simp only [inR]; omega)
theorem mo_le {e : EP} (h : TxG e) : (moT e).length ≤ 100 := by
  have := mw_le e.mode
  have := h.mn
  have := h.mx
  have := ita_le (n := e.mn) (by omega)
  have := ita_le (n := e.mx) (by omega)
  unfold moT
  cases e.mode == 0 <;> simp only [cond_true, cond_false, List.length_append, List.length_cons, List.length_nil] <;> omega
theorem es_le {e : EP} (h : TxG e) : (esT e).length ≤ 8001900 := by
  have := sp_le (spT (bl e.vr ++ tyT e.ty) (moT e)) (prT e.ps)
  have := sp_le (bl e.vr ++ tyT e.ty) (moT e)
  have := ty_le2 h.n h.l
  have := mo_le h
  have := pr_le h.p
  have := h.v
  have := bl_len e.vr
  unfold esT
  rw [List.length_append] at *
  omega
theorem ed_le {e : EP} (h : TxG e) : (edT e).length ≤ 8002000 := by
  have := es_le h
  unfold edT
  repeat' (rw [Bool.cond_eq_ite]; split)
  all_goals (simp only [List.length_append, List.length_cons, List.length_nil]; omega)
theorem pal_at {p : PA} {i : Nat} {n : NP} {a : List UInt8} (h1 : ([] :: p.es.map edT)[i]? = some a) (h2 : p.ns[i]? = some n) : (paL p)[i]? = some (a ++ ndT n) := by
  unfold paL
  rw [List.getElem?_zipWith, h1, h2]
theorem pal_len {p : PA} (h : p.ns.length = p.es.length + 1) : (paL p).length = p.ns.length := by
  unfold paL
  rw [List.length_zipWith, List.length_cons, List.length_map]
  omega
theorem zip_mem {α β γ : Type} (f : α → β → γ) : ∀ (a : List α) (b : List β) (x : γ), x ∈ List.zipWith f a b → ∃ u ∈ a, ∃ v ∈ b, x = f u v
  | [], b, x, h => by simp at h
  | u :: a, [], x, h => by simp at h
  | u :: a, v :: b, x, h => by
    rw [List.zipWith_cons_cons] at h
    rcases List.mem_cons.1 h with rfl | h
    · exact ⟨u, by simp, v, by simp, rfl⟩
    · obtain ⟨u', h1, v', h2, e⟩ := zip_mem f a b x h
      exact ⟨u', by simp [h1], v', by simp [h2], e⟩
theorem pal_le {p : PA} (h : TxA p) : ∀ x ∈ paL p, x.length ≤ 16003000 := by
  intro x hx
  obtain ⟨a, ha, n, hn, rfl⟩ := zip_mem _ _ _ _ hx
  have h1 := nd_le (h.ns n hn)
  rw [List.length_append]
  rcases List.mem_cons.1 ha with rfl | ha
  · rw [List.length_nil]; omega
  · obtain ⟨e, he, rfl⟩ := List.mem_map.1 ha
    have := ed_le (h.es e he)
    omega
theorem flat_take_le (L : List (List UInt8)) (i : Nat) : (L.take i).flatten.length ≤ L.flatten.length := by
  conv => rhs; rw [← List.take_append_drop i L, List.flatten_append, List.length_append]
  omega
theorem paf_le {p : PA} (h : TxA p) : (paL p).flatten.length ≤ 112021000 := by
  have h1 := flat_le 16003000 (paL p) (pal_le h)
  have h2 := pal_len h.n
  have := h.n
  have := h.m
  omega
theorem pa_le {p : PA} (h : TxA p) : (paT p).length ≤ 112022000 := by
  have := paf_le h
  have := h.v
  have := bl_len p.vr
  unfold paT pvT
  cases s0B p.vr <;> simp only [cond_true, cond_false, List.length_append, List.length_cons, List.length_nil] <;> omega
theorem pas_le {l : List PA} (hn : l.length ≤ 8) (h : ∀ p ∈ l, TxA p) : (Lib.join (l.map paT) [44, 32]).length ≤ 896176016 := by
  have h1 := join_le2 112022000 [44, 32] (by simp) (l.map paT) (by
    intro x hx
    obtain ⟨p, hp, rfl⟩ := List.mem_map.1 hx
    exact pa_le (h p hp))
  rw [List.length_map] at h1
  omega
theorem wh_le {l : List Ex} (h : ∀ e ∈ l, TxX e) : (whT l).length ≤ 400007 := by
  match l, h with
  | [], _ => simp [whT]
  | e :: r, h =>
    have := txx_le (h e (by simp))
    simp only [whT, List.length_append, List.length_cons, List.length_nil]
    omega
theorem bd_le {w : List UInt8} (hw : w.length ≤ 5) {n : Int} (h : -1 ≤ n ∧ n ≤ 1000000000000000) : (bdT w n).length ≤ 28 := by
  have := ita_le h
  unfold bdT
  cases decide (n < 0) <;> simp only [cond_true, cond_false, List.length_append, List.length_cons, List.length_nil] <;> omega
theorem it_le {l : List IT} (hn : l.length ≤ 20) (h : ∀ x ∈ l, TxX x.e ∧ x.asn.size ≤ 20) : (Lib.join (l.map itT) [44, 32]).length ≤ 8000600 := by
  have h1 := join_le2 400024 [44, 32] (by simp) (l.map itT) (by
    intro x hx
    obtain ⟨p, hp, rfl⟩ := List.mem_map.1 hx
    have := txx_le (h p hp).1
    have := (h p hp).2
    have := bl_len p.asn
    simp only [itT, List.length_append, List.length_cons, List.length_nil]
    omega)
  rw [List.length_map] at h1
  omega
theorem od1_le {x : SK} (h : TxX x.e) : (odT x).length ≤ 400005 := by
  have := txx_le h
  unfold odT
  cases x.dc <;> simp only [cond_true, cond_false, List.length_append, List.length_cons, List.length_nil] <;> omega
theorem od_le {l : List SK} (hn : l.length ≤ 20) (h : ∀ x ∈ l, TxX x.e) : (Lib.join (l.map odT) [44, 32]).length ≤ 8000600 := by
  have h1 := join_le2 400005 [44, 32] (by simp) (l.map odT) (by
    intro x hx
    obtain ⟨p, hp, rfl⟩ := List.mem_map.1 hx
    exact od1_le (h p hp))
  rw [List.length_map] at h1
  omega
theorem ob_le {l : List SK} (hn : l.length ≤ 20) (h : ∀ x ∈ l, TxX x.e) : (obT l).length ≤ 8000610 := by
  have := od_le hn h
  unfold obT
  cases l.length == 0 <;> simp only [cond_true, cond_false, List.length_append, List.length_cons, List.length_nil] <;> omega
theorem ds_le (b : Bool) : (dsT b).length ≤ 9 := by cases b <;> simp [dsT]
theorem pj_le {c : CL} (h : TxC c) : (pjT c).length ≤ 17000000 := by
  have := ds_le c.ds
  have := it_le h.im h.i
  have := ob_le h.om h.o
  have := bd_le (w := skT) (by simp [skT]) h.sk
  have := bd_le (w := lmT) (by simp [lmT]) h.lm
  have := wh_le h.w
  simp only [pjT, List.length_append]
  omega
theorem as_le {x : SIt} (h : TxI x) : (asT x).length ≤ 400044 := by
  have := h.v
  have := h.l
  have := h.k
  have := bl_len x.vr
  have := bl_len x.lb
  have := bl_len x.key
  have he := h.e
  unfold asT
  cases hl : s0B x.lb with
  | false => simp only [Bool.not_false, cond_true, List.length_append, List.length_cons, List.length_nil]; omega
  | true =>
    have := txx_le (he hl)
    cases rmF x <;> simp only [Bool.not_true, cond_true, cond_false, List.length_append, List.length_cons, List.length_nil] <;> omega
theorem sep_le (p : Option SIt) (x : SIt) : (sepT p x).length ≤ 8 := by
  unfold sepT
  cases p with
  | none => cases rmF x <;> simp
  | some y =>
    dsimp only [Option.isSome_some]
    cases rmF x <;> cases rmF y <;> simp
theorem sel_le : ∀ (p : Option SIt) (l : List SIt), (∀ x ∈ l, TxI x) → ∀ y ∈ seL p l, y.length ≤ 400052
  | _, [], _, y, h => by simp [seL] at h
  | p, x :: r, hx, y, h => by
    rw [seL] at h
    rcases List.mem_cons.1 h with rfl | h
    · have := sep_le p x
      have := as_le (hx x (by simp))
      rw [List.length_append]
      omega
    · exact sel_le (some x) r (fun z hz => hx z (by simp [hz])) y h
theorem sel_len : ∀ (p : Option SIt) (l : List SIt), (seL p l).length = l.length
  | _, [] => rfl
  | p, x :: r => by rw [seL, List.length_cons, sel_len, List.length_cons]
/-- The assignment before number `i`. -/
def preS (p : Option SIt) (l : List SIt) (i : Nat) : Option SIt := if i = 0 then p else l[i - 1]?
theorem sel_at : ∀ (p : Option SIt) (l : List SIt) (i : Nat) (x : SIt), l[i]? = some x → (seL p l)[i]? = some (sepT (preS p l i) x ++ asT x)
  | _, [], i, x, h => by simp at h
  | p, y :: r, 0, x, h => by
    rw [List.getElem?_cons_zero] at h
    cases h
    rw [seL, List.getElem?_cons_zero]
    rfl
  | p, y :: r, i + 1, x, h => by
    rw [List.getElem?_cons_succ] at h
    rw [seL, List.getElem?_cons_succ, sel_at (some y) r i x h]
    have key : preS (some y) r i = preS p (y :: r) (i + 1) := by
      unfold preS
      cases i <;> simp
    rw [key]
theorem se_le {l : List SIt} (hn : l.length ≤ 20) (h : ∀ x ∈ l, TxI x) : (seT l).length ≤ 8001040 := by
  have h1 := flat_le 400052 (seL none l) (sel_le none l h)
  rw [sel_len] at h1
  unfold seT
  omega
theorem nms_le {l : List ByteArray} (hn : l.length ≤ 20) (h : ∀ s ∈ l, s.size ≤ 20) : (Lib.join (l.map bl) [44, 32]).length ≤ 440 := by
  have h1 := join_le2 20 [44, 32] (by simp) (l.map bl) (by
    intro x hx
    obtain ⟨s, hs, rfl⟩ := List.mem_map.1 hx
    have := h s hs
    have := bl_len s
    omega)
  rw [List.length_map] at h1
  omega
theorem cl_le {c : CL} (h : TxC c) : (clT c).length ≤ 900000000 := by
  have := pas_le h.pn h.p
  have := wh_le h.w
  have := pj_le h
  have := se_le h.sm h.s
  have := nms_le h.nm h.n
  have he : c.k = 2 → (txE c.e).length ≤ 400000 := fun e => txx_le (h.e e).1
  have hb : c.k = 2 → (bl c.nm).length ≤ 20 := fun e => by rw [bl_len]; exact (h.e e).2
  unfold clT
  cases hk : c.k == 2 with
  | true =>
    have hk' : c.k = 2 := by simpa using hk
    have := he hk'
    have := hb hk'
    have e1 : (c.k == 1) = false := by rw [hk']; rfl
    rw [e1]
    simp only [cond_true, cond_false, List.length_append, List.length_cons, List.length_nil]
    omega
  | false =>
    cases c.opt <;> cases c.k == 1 <;> cases c.k == 3 <;> cases c.k == 4 <;> cases c.k == 5 <;> cases c.k == 6 <;> cases c.k == 7 <;> simp only [cond_true, cond_false, List.length_append, List.length_cons, List.length_nil] <;> omega
end Go.Proofs.YtmfjfclpdmpncaaGreatDoor

/- Small clauses, and what the checks grant of them. Conditions: none; plain laws. -/
namespace Go.Proofs.YtmfjfclpdmpncaaGreatDoor
set_option maxRecDepth 4000
open Go Go.Abs Go.Val Go.RowKit

/-! ## Small expressions -/
theorem wt_ok : ∀ (m : Nat) (e : Ex) (left : Int), 0 ≤ wtE m e left → (nd e : Int) + wtE m e left ≤ left ∧ alE (fun e => e.nm.size ≤ 200) e ∧ dp e ≤ m := by
  intro m
  induction m with
  | zero => intro e left h; simp only [wtE] at h; omega
  | succ m ih =>
    intro e left h
    simp only [wtE] at h ⊢
    cases hh : wtH e (left - 1) with
    | true => rw [hh] at h; simp only [cond_true] at h; omega
    | false =>
      rw [hh] at h
      simp only [cond_false] at h ⊢
      unfold wtH at hh
      simp only [Bool.or_eq_false_iff, decide_eq_false_iff_not] at hh
      have key : ∀ (l : List Ex) (left : Int), 0 ≤ wtL (wtE m) l left → (ndL l : Int) + wtL (wtE m) l left ≤ left ∧ alL (fun e => e.nm.size ≤ 200) l ∧ dpL l ≤ m := by
        intro l
        induction l with
        | nil => intro left h; simp only [wtL, ndL, dpL]; exact ⟨by omega, trivial, by omega⟩
        | cons x r ihr =>
          intro left h
          simp only [wtL] at h ⊢
          cases hd : decide (wtE m x left < 0) with
          | true => rw [hd] at h; simp only [cond_true] at h; omega
          | false =>
            rw [hd] at h
            simp only [cond_false] at h ⊢
            have h0 := of_decide_eq_false hd
            obtain ⟨a1, a2, a3⟩ := ih x left (by omega)
            obtain ⟨b1, b2, b3⟩ := ihr _ h
            rw [ndL, dpL]
            exact ⟨by omega, ⟨a2, b2⟩, by omega⟩
      obtain ⟨b1, b2, b3⟩ := key e.ks _ h
      rw [nd_eq, dp_eq]
      refine ⟨by omega, ?_, by omega⟩
      cases e
      exact ⟨by have := hh.2.2.1; omega, b2⟩
theorem fit_al : ∀ e : Ex, Fit (encE e) → alE (fun e => inR .i64 e.v.n) e := by
  refine xind (P := fun e => Fit (encE e) → alE (fun e => inR .i64 e.v.n) e) fun op v nm ds ks ih h => ?_
  obtain ⟨-, h2, -, -, h5⟩ := fit_encE h
  exact ⟨(fit_enc h2).2.1, alL_of fun x hx => ih x hx (h5 x hx)⟩
/-- An expression that is small enough. -/
def ltE (e : Ex) : Prop := nd e ≤ 400 ∧ dp e ≤ 40 ∧ alE (fun e => e.nm.size ≤ 200) e
def ltB (e : Ex) : Bool := decide (wtE 40 e 400 ≥ 0)
theorem lt_of {e : Ex} (h : ltB e = true) : ltE e := by
  have h0 := of_decide_eq_true h
  obtain ⟨h1, h2, h3⟩ := wt_ok 40 e 400 h0
  exact ⟨by omega, h3, h2⟩
theorem chk_ok {e : Ex} (h : chkF e = 0) : alE okN e := by
  unfold chkF at h
  cases g1 : decide (dp e > 24) with
  | true => rw [g1] at h; simp at h
  | false =>
    rw [g1] at h
    cases g2 : decide (nd e > 300) with
    | true => rw [g2] at h; simp at h
    | false => rw [g2] at h; exact vis_ok e false h
theorem sm_of {e : Ex} (hf : Fit (encE e)) (hl : ltE e) (hc : chkF e = 0) : alE smN e :=
  alE_imp (fun e h => ⟨h.1.1, h.1.2, h.2⟩) e (alE_and e (alE_and e (chk_ok hc) hl.2.2) (fit_al e hf))
theorem txx_of {e : Ex} (hf : Fit (encE e)) (hl : ltE e) (hc : chkF e = 0) : TxX e := ⟨sm_of hf hl hc, hl.1⟩
theorem lt_okEx {e : Ex} (h : ltE e) : okEx e := ⟨by have := h.2.1; omega, by have := h.1; omega⟩
theorem word_le {s : ByteArray} (h : wordF s = true) : s.size ≤ 20 := by
  unfold wordF nameF at h
  simp only [Bool.and_eq_true, decide_eq_true_eq] at h
  exact h.1.2.1
theorem s0_size {s : ByteArray} (h : s0B s = true) : s.size = 0 := by
  rw [em_s0, em_size, bl_len] at h
  exact of_decide_eq_true h
theorem free_le {s : ByteArray} (h : freeF s = true) : s.size ≤ 20 := by
  unfold freeF at h
  rcases Bool.or_eq_true_iff.1 h with h | h
  · have := s0_size h; omega
  · exact word_le h
/-! ## What fits -/
def cE (e : Ex) : List D := [.int e.op, .int e.v.k, .int e.v.n, .int e.v.d, .str e.v.s, .sl (kids e.v), .str e.nm, .bool e.ds, .sl (kidsE e)]
theorem fit_sub {l : List D} {e : Ex} (h : Fit (.agg l)) (hm : ∀ c ∈ cE e, c ∈ l) : Fit (encE e) := Fit.agg _ fun c hc => h.aggs c (hm c hc)
theorem fit_PP {p : PP} (h : Fit (encPP p)) : Fit (encE p.e) := fit_sub h fun c hc => List.mem_cons_of_mem _ hc
theorem fit_PPs {l : List PP} (h : Fit (.sl (l.map encPP))) : ∀ p ∈ l, Fit (encE p.e) := fun p hp => fit_PP ((fitc_map h).2 p hp)
theorem fit_NP {n : NP} (h : Fit (encNP n)) : ∀ p ∈ n.ps, Fit (encE p.e) := fit_PPs (h.aggs _ (by simp))
theorem fit_EP {n : EP} (h : Fit (encEP n)) : ∀ p ∈ n.ps, Fit (encE p.e) := fit_PPs (h.aggs _ (by simp))
structure FxA (p : PA) : Prop where
  n : ∀ n ∈ p.ns, ∀ q ∈ n.ps, Fit (encE q.e)
  e : ∀ n ∈ p.es, ∀ q ∈ n.ps, Fit (encE q.e)
theorem fit_PA {p : PA} (h : Fit (encPA p)) : FxA p :=
  ⟨fun n hn => fit_NP ((fitc_map (h.aggs (.sl (p.ns.map encNP)) (by simp))).2 n hn), fun n hn => fit_EP ((fitc_map (h.aggs (.sl (p.es.map encEP)) (by simp))).2 n hn)⟩
theorem fit_IT {x : IT} (h : Fit (encIT x)) : Fit (encE x.e) := fit_sub h fun c hc => by
  simp only [cE, List.mem_cons, List.not_mem_nil, or_false] at hc ⊢
  rcases hc with h | h | h | h | h | h | h | h | h <;> simp [h]
theorem fit_SK {x : SK} (h : Fit (encSK x)) : Fit (encE x.e) := fit_sub h fun c hc => by
  simp only [cE, List.mem_cons, List.not_mem_nil, or_false] at hc ⊢
  rcases hc with h | h | h | h | h | h | h | h | h <;> simp [h]
theorem fit_SI {x : SIt} (h : Fit (encSI x)) : Fit (encE x.e) := fit_sub h fun c hc => by
  simp only [cE, List.mem_cons, List.not_mem_nil, or_false] at hc ⊢
  rcases hc with h | h | h | h | h | h | h | h | h <;> simp [h]
structure FxC (c : CL) : Prop where
  p : ∀ p ∈ c.ps, FxA p
  w : ∀ e ∈ c.wh, Fit (encE e)
  e : Fit (encE c.e)
  i : ∀ x ∈ c.it, Fit (encE x.e)
  o : ∀ x ∈ c.od, Fit (encE x.e)
  s : ∀ x ∈ c.st, Fit (encE x.e)
theorem fit_CL {c : CL} (h : Fit (encCL c)) : FxC c := by
  refine ⟨fun p hp => fit_PA ((fitc_map (h.aggs (.sl (c.ps.map encPA)) (by simp))).2 p hp), fun e he => ?_, fit_sub h fun x hc => ?_, fun x hx => fit_IT ((fitc_map (h.aggs (.sl (c.it.map encIT)) (by simp))).2 x hx), fun x hx => fit_SK ((fitc_map (h.aggs (.sl (c.od.map encSK)) (by simp))).2 x hx), fun x hx => fit_SI ((fitc_map (h.aggs (.sl (c.st.map encSI)) (by simp))).2 x hx)⟩
  · exact (fit_encEL (h.aggs (.sl (encEL c.wh)) (by simp))).2 e he
  · simp only [cE, List.mem_cons, List.not_mem_nil, or_false] at hc ⊢
    rcases hc with h | h | h | h | h | h | h | h | h <;> simp [h]
/-! ## Small patterns -/
structure LtP (l : List PP) : Prop where
  n : l.length ≤ 20
  e : ∀ p ∈ l, ltE p.e
structure LtA (p : PA) : Prop where
  nn : p.ns.length ≤ 10
  en : p.es.length ≤ 10
  n : ∀ n ∈ p.ns, LtP n.ps ∧ n.lb.length ≤ 20
  e : ∀ e ∈ p.es, LtP e.ps ∧ e.ty.length ≤ 20
structure LtC (c : CL) : Prop where
  pn : c.ps.length ≤ 8
  p : ∀ p ∈ c.ps, LtA p
  e : ltE c.e
  wn : c.wh.length ≤ 4
  w : ∀ e ∈ c.wh, ltE e
  im : c.it.length ≤ 20
  i : ∀ x ∈ c.it, ltE x.e
  om : c.od.length ≤ 20
  o : ∀ x ∈ c.od, ltE x.e
  sm : c.st.length ≤ 20
  s : ∀ x ∈ c.st, ltE x.e
  nm : c.ns.length ≤ 20
theorem partG_inN : ∀ (ns : List NP) (es : List EP), ∀ n ∈ ns, ptN n ∈ partG ns es
  | [], _, n, h => by simp at h
  | a :: r, [], n, h => by
    rw [partG]
    rcases List.mem_cons.1 h with rfl | h
    · exact List.mem_cons_self
    · exact List.mem_cons_of_mem _ (partG_inN r [] n h)
  | a :: r, e :: q, n, h => by
    rw [partG]
    rcases List.mem_cons.1 h with rfl | h
    · exact List.mem_cons_self
    · exact List.mem_cons_of_mem _ (List.mem_cons_of_mem _ (partG_inN r q n h))
theorem partG_inE : ∀ (ns : List NP) (es : List EP), es.length ≤ ns.length → ∀ e ∈ es, ptE e ∈ partG ns es
  | _, [], _, e, h => by simp at h
  | [], a :: q, hl, e, h => by simp at hl
  | a :: r, b :: q, hl, e, h => by
    rw [partG]
    rcases List.mem_cons.1 h with rfl | h
    · exact List.mem_cons_of_mem _ List.mem_cons_self
    · exact List.mem_cons_of_mem _ (List.mem_cons_of_mem _ (partG_inE r q (by simpa using hl) e h))
theorem partG_of : ∀ (ns : List NP) (es : List EP), ∀ x ∈ partG ns es, (∃ n ∈ ns, x = ptN n) ∨ ∃ e ∈ es, x = ptE e
  | [], es, x, h => by cases es <;> simp [partG] at h
  | a :: r, [], x, h => by
    rw [partG] at h
    rcases List.mem_cons.1 h with rfl | h
    · exact .inl ⟨a, by simp, rfl⟩
    · rcases partG_of r [] x h with ⟨n, hn, rfl⟩ | ⟨e, he, rfl⟩
      · exact .inl ⟨n, by simp [hn], rfl⟩
      · simp at he
  | a :: r, b :: q, x, h => by
    rw [partG] at h
    rcases List.mem_cons.1 h with rfl | h
    · exact .inl ⟨a, by simp, rfl⟩
    · rcases List.mem_cons.1 h with rfl | h
      · exact .inr ⟨b, by simp, rfl⟩
      · rcases partG_of r q x h with ⟨n, hn, rfl⟩ | ⟨e, he, rfl⟩
        · exact .inl ⟨n, by simp [hn], rfl⟩
        · exact .inr ⟨e, by simp [he], rfl⟩
theorem lta_ok {p : PA} (h : LtA p) : OkPA p := by
  have hp : ∀ x ∈ partG p.ns p.es, LtP x.ps := by
    intro x hx
    rcases partG_of _ _ x hx with ⟨n, hn, rfl⟩ | ⟨e, he, rfl⟩
    · exact (h.n n hn).1
    · exact (h.e e he).1
  have hl := partG_len p.ns p.es
  refine ⟨by have := h.nn; omega, ?_, fun e he => ?_⟩
  · have key : ∀ L : List PT, (∀ x ∈ L, LtP x.ps) → (exsF L).length ≤ 20 * L.length := by
      intro L
      induction L with
      | nil => intro _; simp [exsF]
      | cons a r ih =>
        intro hL
        have h1 := (hL a (by simp)).n
        have h2 := ih fun x hx => hL x (by simp [hx])
        rw [exsF_cons, List.length_append, List.length_map, List.length_cons]
        omega
    have := key _ hp
    have := h.nn
    omega
  · obtain ⟨x, hx, hq⟩ := List.mem_flatMap.1 he
    obtain ⟨q, hq2, rfl⟩ := List.mem_map.1 hq
    exact lt_okEx ((hp x hx).e q hq2)
theorem firE_zero : ∀ {l : List Ex}, firE l = 0 → ∀ e ∈ l, chkF e = 0
  | [], _, e, h => by simp at h
  | a :: r, h, e, he => by
    rw [firE] at h
    cases hz : chkF a != 0 with
    | true => rw [hz] at h; simp at hz; exact absurd h hz
    | false =>
      rw [hz] at h
      rcases List.mem_cons.1 he with rfl | he
      · simpa using hz
      · exact firE_zero h e he
/-- A pattern that the check accepts. -/
theorem path_ok {p : PA} {cr : Bool} (h : pathF p cr = 0) : longF p = false ∧ p.ns.length = p.es.length + 1 ∧ (∀ e ∈ p.es, hopF e = true) ∧ freeF p.vr = true ∧ (∀ x ∈ partG p.ns p.es, badN x = false) ∧ ∀ x ∈ partG p.ns p.es, ∀ q ∈ x.ps, chkF q.e = 0 := by
  unfold pathF at h
  cases c1 : longF p with
  | true => rw [c1] at h; simp at h
  | false =>
    rw [c1, cond_false] at h
    cases c2 : (p.ns.length != p.es.length + 1 || p.es.any fun e => !hopF e) with
    | true => rw [c2] at h; simp at h
    | false =>
      rw [c2, cond_false] at h
      cases c3 : (!(freeF p.vr) || (partG p.ns p.es).any badN) with
      | true => rw [c3] at h; simp at h
      | false =>
        rw [c3, cond_false] at h
        cases c4 : (partG p.ns p.es).any badRs with
        | true => rw [c4] at h; simp at h
        | false =>
          rw [c4, cond_false] at h
          cases c5 : firE (exsF (partG p.ns p.es)) != 0 with
          | true => rw [c5, cond_true] at h; simp at c5; exact absurd h c5
          | false =>
            simp only [bne_eq_false_iff_eq] at c5
            rw [Bool.or_eq_false_iff] at c2 c3
            refine ⟨rfl, by simpa using c2.1, fun e he => ?_, by simpa using c3.1, fun x hx => ?_, fun x hx q hq => firE_zero c5 _ (exs_mem hx hq)⟩
            · have := List.any_eq_false.1 c2.2 e he
              simpa using this
            · have := List.any_eq_false.1 c3.2 x hx
              simpa using this
theorem txa_of {p : PA} {cr : Bool} (hf : FxA p) (hl : LtA p) (h : pathF p cr = 0) : TxA p := by
  obtain ⟨h1, h2, h3, h4, h5, h6⟩ := path_ok h
  have hm : p.es.length ≤ 6 := by
    unfold longF at h1
    simp only [Bool.or_eq_false_iff, decide_eq_false_iff_not] at h1
    omega
  have bad : ∀ x ∈ partG p.ns p.es, x.nm.size ≤ 20 ∧ (∀ s ∈ x.ns, s.size ≤ 20) ∧ ∀ q ∈ x.ps, q.key.size ≤ 20 := by
    intro x hx
    have := h5 x hx
    unfold badN at this
    simp only [Bool.or_eq_false_iff, Bool.not_eq_false'] at this
    refine ⟨free_le this.1, fun s hs => word_le (List.all_eq_true.1 this.2.1 s hs), fun q hq => word_le (List.all_eq_true.1 this.2.2 q.key (List.mem_map.2 ⟨q, hq, rfl⟩))⟩
  refine ⟨free_le h4, h2, hm, fun n hn => ?_, fun e he => ?_⟩
  · have hx := partG_inN p.ns p.es n hn
    obtain ⟨b1, b2, b3⟩ := bad _ hx
    obtain ⟨l1, l2⟩ := hl.n n hn
    exact ⟨b1, l2, b2, ⟨l1.n, b3, fun q hq => txx_of (hf.n n hn q hq) (l1.e q hq) (h6 _ hx q hq)⟩⟩
  · have hx := partG_inE p.ns p.es (by omega) e he
    obtain ⟨b1, b2, b3⟩ := bad _ hx
    obtain ⟨l1, l2⟩ := hl.e e he
    have hh := h3 e he
    unfold hopF at hh
    have hb : (0 ≤ e.mn ∧ e.mn ≤ 6) ∧ 0 ≤ e.mx ∧ e.mx ≤ 6 := by
      cases k1 : ((decide (e.dir < 1) || decide (e.dir > 3)) || (decide (e.mode < 0) || decide (e.mode > 5))) with
      | true => rw [k1] at hh; simp at hh
      | false =>
        rw [k1, cond_false] at hh
        cases k2 : e.mode == 0 with
        | true => rw [k2, cond_true] at hh; simp at hh; omega
        | false => rw [k2, cond_false] at hh; simp at hh; omega
    exact ⟨b1, l2, b2, hb.1, hb.2, ⟨l1.n, b3, fun q hq => txx_of (hf.e e he q hq) (l1.e q hq) (h6 _ hx q hq)⟩⟩
theorem firI_zero : ∀ {l : List Int}, firI l = 0 → ∀ e ∈ l, e = 0
  | [], _, e, h => by simp at h
  | a :: r, h, e, he => by
    rw [firI] at h
    cases hz : a != 0 with
    | true => rw [hz] at h; simp at hz; exact absurd h hz
    | false =>
      rw [hz] at h
      rcases List.mem_cons.1 he with rfl | he
      · simpa using hz
      · exact firI_zero h e he
theorem wrd_le {s : ByteArray} (h : wrdI s = 0) : s.size ≤ 20 := by
  unfold wrdI at h
  cases hw : wordF s with
  | true => exact word_le hw
  | false => rw [hw] at h; simp at h
theorem set_ok {x : SIt} (hf : Fit (encE x.e)) (hl : ltE x.e) (h : setF x = 0) : TxI x := by
  unfold setF at h
  cases c1 : (!(s0B x.lb) && (!(s0B x.key) || !(zeroF x.e)) || s0B x.lb && x.off) with
  | true => rw [c1] at h; simp at h
  | false =>
    rw [c1, cond_false] at h
    cases c2 : (!(wordF x.vr) || (!(s0B x.lb) && !(wordF x.lb) || s0B x.lb && !(wordF x.key))) with
    | true => rw [c2] at h; simp at h
    | false =>
      rw [c2, cond_false] at h
      simp only [Bool.or_eq_false_iff, Bool.not_eq_false'] at c1 c2
      refine ⟨word_le c2.1, ?_, ?_, fun hb => ?_⟩
      · cases hb : s0B x.lb with
        | true => have := s0_size hb; omega
        | false =>
          have := c2.2.1
          rw [hb] at this
          exact word_le (by simpa using this)
      · cases hb : s0B x.lb with
        | true =>
          have := c2.2.2
          rw [hb] at this
          exact word_le (by simpa using this)
        | false =>
          have := c1.1
          rw [hb] at this
          have h0 : s0B x.key = true := by
            cases hk : s0B x.key with
            | true => rfl
            | false => rw [hk] at this; simp at this
          have := s0_size h0
          omega
      · rw [hb, cond_true] at h
        exact txx_of hf hl h
theorem txc_of {c : CL} (hf : FxC c) (hl : LtC c) (h : clauF c = 0) : (1 ≤ c.k ∧ c.k ≤ 8) ∧ TxC c := by
  unfold clauF at h
  cases c1 : ((decide (c.k < 1) || decide (c.k > 8)) || strayF c) with
  | true => rw [c1] at h; simp at h
  | false =>
    rw [c1, cond_false] at h
    cases c2 : crowdF c with
    | true => rw [c2] at h; simp at h
    | false =>
      rw [c2, cond_false] at h
      have hz := firI_zero h
      rw [Bool.or_eq_false_iff] at c1
      have hsk : (-1 ≤ c.sk ∧ c.sk ≤ 1000000000000000) ∧ -1 ≤ c.lm ∧ c.lm ≤ 1000000000000000 := by
        have hs := c1.2
        unfold strayF at hs
        dsimp only at hs
        revert hs
        generalize (c.opt && !(c.k == 1 || c.k == 8) || c.ds && !(c.k == 3 || c.k == 4)) = a1
        generalize (decide (c.ps.length > 0) && !(c.k == 1 || (c.k == 5 || c.k == 6)) || decide (c.wh.length > 0) && !(c.k == 1 || c.k == 3)) = a2
        generalize (!(c.k == 2) && (!(zeroF c.e) || !(s0B c.nm)) || !(c.k == 3 || c.k == 4) && (decide (c.it.length > 0) || decide (c.od.length > 0))) = a3
        generalize (!(c.k == 3 || c.k == 4) && (!(absF c.sk) || !(absF c.lm))) = a4
        cases a1 <;> cases a2 <;> cases a3 <;> cases a4 <;> simp [Bool.cond_eq_ite] <;> omega
      refine ⟨by simp at c1; omega, ⟨hl.pn, fun p hp => ?_, fun e he => ?_, fun hk => ?_, hl.im, fun x hx => ?_, hl.om, fun x hx => ?_, hsk.1, hsk.2, hl.sm, fun x hx => ?_, hl.nm, fun s hs => ?_⟩⟩
      · exact txa_of (hf.p p hp) (hl.p p hp) (hz (pathF p (c.k == 5)) (by simp only [List.mem_append]; refine .inl (.inl (.inl (.inl (.inl (.inl ?_))))); exact List.mem_map.2 ⟨p, hp, rfl⟩))
      · exact txx_of (hf.w e he) (hl.w e he) (hz (chkF e) (by simp only [List.mem_append]; refine .inl (.inl (.inl (.inl (.inl (.inr ?_))))); exact List.mem_map.2 ⟨e, he, rfl⟩))
      · have hb : (c.k == 2) = true := by rw [hk]; rfl
        rw [hb, cond_true] at hz
        exact ⟨txx_of hf.e hl.e (hz (chkF c.e) (by simp)), wrd_le (hz (wrdI c.nm) (by simp))⟩
      · refine ⟨txx_of (hf.i x hx) (hl.i x hx) (hz (chkF x.e) ?_), wrd_le (hz (wrdI x.asn) ?_)⟩ <;> (simp only [List.mem_append]; refine .inl (.inl (.inl (.inr ?_))); exact List.mem_flatMap.2 ⟨x, hx, by simp⟩)
      · exact txx_of (hf.o x hx) (hl.o x hx) (hz (chkF x.e) (by simp only [List.mem_append]; refine .inl (.inl (.inr ?_)); exact List.mem_map.2 ⟨x, hx, rfl⟩))
      · exact set_ok (hf.s x hx) (hl.s x hx) (hz (setF x) (by simp only [List.mem_append]; refine .inl (.inr ?_); exact List.mem_map.2 ⟨x, hx, rfl⟩))
      · exact wrd_le (hz (wrdI s) (by simp only [List.mem_append]; refine .inr ?_; exact List.mem_map.2 ⟨s, hs, rfl⟩))
theorem queG_zero (n : Nat) : ∀ (i : Nat) (l : List CL), (queG n i l).2 = 0 → ∀ c ∈ l, clauF c = 0
  | _, [], _, c, h => by simp at h
  | i, a :: r, h, c, hc => by
    rw [queG] at h
    cases c1 : clauF a != 0 with
    | true => rw [c1] at h; simp at c1; exact absurd h c1
    | false =>
      rw [c1, cond_false] at h
      cases c2 : (decide (i + 1 < n) && a.k == 4 || i + 1 == n && decide (a.k ≤ 3)) with
      | true => rw [c2] at h; simp at h
      | false =>
        rw [c2, cond_false] at h
        rcases List.mem_cons.1 hc with rfl | hc
        · simpa using c1
        · exact queG_zero n (i + 1) r h c hc
theorem queF_zero {q : List CL} (h : (queF q).2 = 0) : q.length ≤ 12 ∧ ∀ c ∈ q, clauF c = 0 := by
  unfold queF at h
  cases c1 : (q.length == 0 || decide (q.length > 12)) with
  | true => rw [c1] at h; simp at h
  | false =>
    rw [c1, cond_false] at h
    rw [Bool.or_eq_false_iff, decide_eq_false_iff_not] at c1
    exact ⟨by omega, queG_zero _ _ _ h⟩
end Go.Proofs.YtmfjfclpdmpncaaGreatDoor

/- Properties of a pattern as text, by both texts. Conditions: properties that the check accepts, of bounded size. -/
namespace Go.Proofs.YtmfjfclpdmpncaaGreatDoor
set_option maxRecDepth 4000
open Go Go.Abs Go.Val Go.RowKit
attribute [local irreducible] go SGo HasBody Ev ExtEv EvO EvS RGo

theorem ba_ex {a b : ByteArray} (h : a.data.toList = b.data.toList) : a = b := ByteArray.ext (Array.toList_inj.1 h)
theorem strD_at {α : Type} {f : α → List UInt8} {l : List α} {i : Nat} {x : α} (h : l[i]? = some x) : strD ((l.take (i + 1)).map f) = strD ((l.take i).map f) ++ [.str (bs (f x))] := by
  rw [List.take_add_one, h]
  simp [strD]
structure SDx {α : Type} (l : List α) where
  i : Nat
  hi : i ≤ l.length
/-- strings.Join over texts. -/
theorem joind_ev (xs : List (List UInt8)) (sep : List UInt8) (hN : xs.length ≤ 1000000) (hlen : (Lib.join xs sep).length ≤ 140737488355328) : Ev E 57 [.sl (strD xs), .str (bs sep)] (.d (.str (bs (Lib.join xs sep)))) := by
  have e1 : (xs.map bs).map D.str = strD xs := by simp [strD]
  have e2 : (xs.map bs).map (·.data.toList) = xs := by
    rw [List.map_map]
    conv => rhs; rw [← List.map_id xs]
    exact List.map_congr_left fun x _ => bs_data x
  have hj := join_ev (xs.map bs) (bs sep) (by simp; omega) (by rw [e2, bs_data]; omega)
  rw [e1, e2, bs_data] at hj
  exact hj
theorem txx_ev {e : Ex} (h : TxX e) : Ev E 109 [encE e] (.d (.str (bs (txE e)))) := expr_ev e h.1 (by have := h.2; omega)
theorem rtxx_ev {e : Ex} (h : TxX e) : Ev E 124 [encE e] (.d (.str (bs (txE e)))) := rexpr_ev e h.1 (by have := h.2; omega)
def pbT (l : List PP) (b : Bool) : List UInt8 := bif b && !(l.length == 0) then [32] ++ prT l else prT l
theorem bs_pp (x : PP) : bs (ppT x) = x.key ++ ⟨#[58, 32]⟩ ++ bs (txE x.e) := by
  apply ba_ex
  simp [bs, bl, ppT]
set_option maxHeartbeats 1000000 in
theorem fprops_ev (l : List PP) (b : Bool) (h : TxP l) : Ev E 291 [.sl (l.map encPP), .bool b] (.d (.str (bs (pbT l b)))) := by
  have hle : (l.map encPP).length = l.length := by simp
  have hn := h.n
  cases hl : l.length == 0 with
  | true =>
    have e : bs (pbT l b) = ⟨#[]⟩ := by unfold pbT prT; rw [hl]; cases b <;> rfl
    have g0 : (((l.map encPP).length : Int) == 0) = true := by rw [hle]; simpa using hl
    rw [e]
    refine enter2 Tryz.func291 Tryz.ntmps291 rfl rfl fun w0 F0 O => ?_
    repeat' (first | refine zS rfl ?_ | refine qA ?_ | refine qB rfl ?_ | refine qD ?_ | refine zT rfl ?_ | refine qL rfl rfl ?_ | exact zD)
  | false =>
    have g0 : (((l.map encPP).length : Int) == 0) = false := by rw [hle]; simpa using hl
    have hj := joind_ev (l.map ppT) [44, 32] (by have := h.n; rw [List.length_map]; omega) (by have := prj_le h; omega)
    have zj : (bs (Lib.join (l.map ppT) [44, 32])).size ≤ 8000480 := by rw [bs_size]; exact prj_le h
    have e : bs (pbT l b) = bif b then ⟨#[32]⟩ ++ (⟨#[123]⟩ ++ bs (Lib.join (l.map ppT) [44, 32]) ++ ⟨#[125]⟩) else ⟨#[123]⟩ ++ bs (Lib.join (l.map ppT) [44, 32]) ++ ⟨#[125]⟩ := by
      unfold pbT prT prJ
      rw [hl]
      cases b <;> (apply ba_ex; simp [bs])
    have y1 : (⟨#[32]⟩ : ByteArray).size = 1 := rfl
    have y2 : (⟨#[123]⟩ : ByteArray).size = 1 := rfl
    have y3 : (⟨#[125]⟩ : ByteArray).size = 1 := rfl
    have y4 : (⟨#[58, 32]⟩ : ByteArray).size = 2 := rfl
    rw [e]
    refine enter2 Tryz.func291 Tryz.ntmps291 rfl rfl fun w0 F0 O => ?_
    repeat' (first | refine zS rfl ?_ | refine qA ?_ | refine qB rfl ?_ | refine qD ?_ | refine qE ?_ | refine qF ?_ | refine zU rfl ?_)
    refine go_loop_ (α := SDx l) (fun p => ⟨[(5, rowK 0 (strD ((l.take p.i).map ppT))), (1, .d (.bool b)), (12, .d (.sl (l.map encPP))), (13, .d (.int (l.map encPP).length)), (14, .d (.int p.i))], rowO 9 1 (strD ((l.take p.i).map ppT))⟩) (fun p => l.length - p.i) ⟨0, by omega⟩ ((zle 0)) ?_
    rintro ⟨i, hi⟩
    dsimp only
    have hol : (strD ((l.take i).map ppT)).length ≤ 1000000 := by have := h.n; simp [strD]; omega
    rcases Nat.lt_or_ge i l.length with hlt | hge
    · have g1 : decide ((i : Int) < ((l.map encPP).length : Int)) = true := by rw [hle]; simpa using hlt
      have hx0 := List.getElem?_eq_getElem hlt
      generalize l[i] = x at hx0
      have hx := map_c (f := encPP) hx0
      have hm := List.mem_of_getElem? hx0
      have ht := txx_ev (h.e x hm)
      have zt : (bs (txE x.e)).size ≤ 400000 := by rw [bs_size]; exact txx_le (h.e x hm)
      have zk := h.k x hm
      have hnx := strD_at (f := ppT) hx0
      rw [bs_pp] at hnx
      generalize strD ((l.take i).map ppT) = o at *
      match o, hol with
      | [], hol =>
        dsimp only [rowK, rowO]
        repeat' (first | refine qR0 (id := 7) [9] (by kernel_rfl) (by kernel_rfl) (by repeat (first | exact trivial | refine ⟨⟨rfl, rfl⟩, ?_⟩ | refine ⟨trivial, ?_⟩)) ?_ | refine rgF (id := 7) (i := 0) 9 (by kernel_rfl) rfl ?_ | refine rgF (id := 7) (i := 10) 1 (by kernel_rfl) rfl ?_ | refine rgN ?_ | refine zS rfl ?_ | refine qA ?_ | refine qB rfl ?_ | refine qD ?_ | refine qE ?_ | refine qF ?_ | refine qG ?_ | refine qI (encPP x) rfl (guardX_ok rfl) rfl rfl rfl rfl rfl rfl (by first | omega | decide) hx ?_ | refine qP rfl rfl rfl rfl rfl rfl b109 (ht) ?_ | refine rgS (id := 7) (i := 9) rfl rfl rfl rfl (⟨by simp, fun d hd => by (obtain rfl := List.mem_singleton.1 hd; rfl), by (show (0 + 1) * 16 ≤ 140737488355328; omega), by (show 0 + 1 ≤ 9223372036854775807; omega)⟩) (by repeat (first | exact trivial | refine ⟨⟨rfl, rfl⟩, ?_⟩ | refine ⟨trivial, ?_⟩)) ?_ | refine zT rfl ?_)
        refine go_stop ?_
        refine ⟨⟨i + 1, by omega⟩, by dsimp only; omega, ?_⟩
        dsimp only
        rw [hnx]
        exact (zren [1])
      | a :: q, hol =>
        dsimp only [rowK, rowO]
        repeat' (first | refine qR0 (id := 7) [9] (by kernel_rfl) (by kernel_rfl) (by repeat (first | exact trivial | refine ⟨⟨rfl, rfl⟩, ?_⟩ | refine ⟨trivial, ?_⟩)) ?_ | refine rgF (id := 7) (i := 0) 9 (by kernel_rfl) rfl ?_ | refine rgF (id := 7) (i := 10) 1 (by kernel_rfl) rfl ?_ | refine rgN ?_ | refine zS rfl ?_ | refine qA ?_ | refine qB rfl ?_ | refine qD ?_ | refine qE ?_ | refine qF ?_ | refine qG ?_ | refine qI (encPP x) rfl (guardX_ok rfl) rfl rfl rfl rfl rfl rfl (by first | omega | decide) hx ?_ | refine qP rfl rfl rfl rfl rfl rfl b109 (ht) ?_ | refine rgS (id := 7) (i := 9) rfl rfl rfl rfl (⟨by simp, fun d hd => by (obtain rfl := List.mem_singleton.1 hd; rfl), by (show ((a :: q).length + 1) * 16 ≤ 140737488355328; omega), by (show (a :: q).length + 1 ≤ 9223372036854775807; omega)⟩) (by repeat (first | exact trivial | refine ⟨⟨rfl, rfl⟩, ?_⟩ | refine ⟨trivial, ?_⟩)) ?_ | refine zT rfl ?_)
        refine go_stop ?_
        refine ⟨⟨i + 1, by omega⟩, by dsimp only; omega, ?_⟩
        dsimp only
        rw [hnx]
        exact (zren [2])
    · have g1 : decide ((i : Int) < ((l.map encPP).length : Int)) = false := by rw [hle]; simp; omega
      rw [List.take_of_length_le hge]
      generalize strD (l.map ppT) = o at *
      cases b with
      | true =>
        match o, hj with
        | [], hj =>
          dsimp only [rowK, rowO]
          repeat' (first | refine zS rfl ?_ | refine qA ?_ | refine qB rfl ?_ | refine qD ?_ | refine qH rfl ?_ | refine qP rfl rfl rfl rfl rfl rfl b57 (hj) ?_ | refine zT rfl ?_ | refine zU rfl ?_ | refine qL rfl rfl ?_ | exact zD)
        | a :: q, hj =>
          dsimp only [rowK, rowO]
          refine qA ?_
          refine go_frz 0 rfl ?_
          repeat' (first | refine zS rfl ?_ | refine qA ?_ | refine qB rfl ?_ | refine qD ?_ | refine qH rfl ?_ | refine qP rfl rfl rfl rfl rfl rfl b57 (hj) ?_ | refine zT rfl ?_ | refine zU rfl ?_ | refine qL rfl rfl ?_ | exact zD)
      | false =>
        match o, hj with
        | [], hj =>
          dsimp only [rowK, rowO]
          repeat' (first | refine zS rfl ?_ | refine qA ?_ | refine qB rfl ?_ | refine qD ?_ | refine qE ?_ | refine qH rfl ?_ | refine qP rfl rfl rfl rfl rfl rfl b57 (hj) ?_ | refine zU rfl ?_ | refine qL rfl rfl ?_ | exact zD)
        | a :: q, hj =>
          dsimp only [rowK, rowO]
          refine qA ?_
          refine go_frz 0 rfl ?_
          repeat' (first | refine zS rfl ?_ | refine qA ?_ | refine qB rfl ?_ | refine qD ?_ | refine qE ?_ | refine qH rfl ?_ | refine qP rfl rfl rfl rfl rfl rfl b57 (hj) ?_ | refine zU rfl ?_ | refine qL rfl rfl ?_ | exact zD)
set_option maxHeartbeats 1000000 in
theorem gprops_ev (l : List PP) (h : TxP l) : Ev E 359 [.sl (l.map encPP)] (.d (.str (bs (prT l)))) := by
  have hle : (l.map encPP).length = l.length := by simp
  cases hl : l.length == 0 with
  | true =>
    have e : bs (prT l) = ⟨#[]⟩ := by unfold prT; rw [hl]; rfl
    have g0 : (((l.map encPP).length : Int) == 0) = true := by rw [hle]; simpa using hl
    rw [e]
    refine enter1 Tryz.func359 Tryz.ntmps359 rfl rfl fun w0 F0 O => ?_
    repeat' (first | refine zS rfl ?_ | refine qA ?_ | refine qB rfl ?_ | refine qD ?_ | refine zT rfl ?_ | refine qL rfl rfl ?_ | exact zD)
  | false =>
    have g0 : (((l.map encPP).length : Int) == 0) = false := by rw [hle]; simpa using hl
    have hlen := prj_le h
    have e : prT l = prJ l := by unfold prT; rw [hl]; rfl
    have y2 : (⟨#[44, 32]⟩ : ByteArray).size = 2 := rfl
    have y3 : (⟨#[125]⟩ : ByteArray).size = 1 := rfl
    have y4 : (⟨#[58, 32]⟩ : ByteArray).size = 2 := rfl
    have hn := h.n
    rw [e]
    refine enter1 Tryz.func359 Tryz.ntmps359 rfl rfl fun w0 F0 O => ?_
    repeat' (first | refine zS rfl ?_ | refine qA ?_ | refine qB rfl ?_ | refine qD ?_ | refine qE ?_ | refine qF ?_ | refine zU rfl ?_)
    refine go_loop_ (α := SJ (l.map ppT) [44, 32]) (fun p => ⟨[(0, .d (.sl (l.map encPP))), (3, .d (.str (bs ([123] ++ p.s)))), (4, .d (.int p.i))], []⟩) (fun p => l.length - p.i) ⟨0, [], by omega, fun _ => rfl, fun h => absurd rfl h⟩ ((zle 0)) ?_
    rintro ⟨i, s, hi, h0, h1⟩
    dsimp only
    rw [List.length_map] at hi
    rcases Nat.lt_or_ge i l.length with hlt | hge
    · have g1 : decide ((i : Int) < ((l.map encPP).length : Int)) = true := by rw [hle]; simpa using hlt
      have hx0 := List.getElem?_eq_getElem hlt
      generalize l[i] = x at hx0
      have hx := map_c (f := encPP) hx0
      have hm := List.mem_of_getElem? hx0
      have hmm : (l.map ppT)[i]? = some (ppT x) := by rw [List.getElem?_map, hx0]; rfl
      have ht := rtxx_ev (h.e x hm)
      have zt : (bs (txE x.e)).size ≤ 400000 := by rw [bs_size]; exact txx_le (h.e x hm)
      have zk := h.k x hm
      by_cases hi0 : i = 0
      · subst hi0
        have hs0 := h0 rfl
        subst hs0
        have g2 : decide (((0 : Nat) : Int) > 0) = false := rfl
        have z2 : (bs ([123] ++ [])).size = 1 := rfl
        have e1 : bs ([123] ++ []) ++ x.key ++ ⟨#[58, 32]⟩ ++ bs (txE x.e) = bs ([123] ++ ([] ++ ppT x)) := by
          apply ba_ex
          simp [bs, bl, ppT]
        repeat' (first | refine zS rfl ?_ | refine qA ?_ | refine qB rfl ?_ | refine qC (by kernel_rfl) ?_ | refine qD ?_ | refine qE ?_ | refine qF ?_ | refine qG ?_ | refine qI (encPP x) rfl (guardX_ok rfl) rfl rfl rfl rfl rfl rfl (by first | omega | decide) hx ?_ | refine qP rfl rfl rfl rfl rfl rfl b124 (ht) ?_ | refine zT rfl ?_ | refine zU rfl ?_)
        refine go_stop ?_
        rw [e1]
        exact ⟨⟨1, [] ++ ppT x, by rw [List.length_map]; omega, fun h => by omega, fun _ => by have := drop_at hmm; rw [List.drop_zero] at this; rw [List.nil_append]; conv => rhs; rw [this, Lib.join_cons]⟩, by dsimp only; omega, (zle 0)⟩
      · have g2 : decide ((i : Int) > 0) = true := by simp; omega
        have h1' := h1 hi0
        rw [joinTail_at hmm] at h1'
        have hll : s.length ≤ 8000480 := by
          have := congrArg List.length h1'
          simp only [List.length_append] at this
          omega
        have z2 : (bs ([123] ++ s)).size ≤ 8000481 := by rw [bs_size, List.length_append]; simp; omega
        have e1 : bs ([123] ++ s) ++ ⟨#[44, 32]⟩ ++ x.key ++ ⟨#[58, 32]⟩ ++ bs (txE x.e) = bs ([123] ++ (s ++ [44, 32] ++ ppT x)) := by
          apply ba_ex
          simp [bs, bl, ppT]
        repeat' (first | refine zS rfl ?_ | refine qA ?_ | refine qB rfl ?_ | refine qC (by kernel_rfl) ?_ | refine qD ?_ | refine qE ?_ | refine qF ?_ | refine qG ?_ | refine qI (encPP x) rfl (guardX_ok rfl) rfl rfl rfl rfl rfl rfl (by first | omega | decide) hx ?_ | refine qP rfl rfl rfl rfl rfl rfl b124 (ht) ?_ | refine zT rfl ?_)
        refine go_stop ?_
        rw [e1]
        exact ⟨⟨i + 1, s ++ [44, 32] ++ ppT x, by rw [List.length_map]; omega, fun h => by omega, fun _ => by rw [← h1']; simp only [List.append_assoc]⟩, by dsimp only; omega, (zle 0)⟩
    · have g1 : decide ((i : Int) < ((l.map encPP).length : Int)) = false := by rw [hle]; simp; omega
      have hi0 : i ≠ 0 := by
        have : l.length ≠ 0 := by simpa using hl
        omega
      have es : Lib.join (l.map ppT) [44, 32] = s := by
        rw [← h1 hi0, List.drop_eq_nil_of_le (by rw [List.length_map]; omega)]
        simp [Lib.joinTail]
      have e1 : bs (prJ l) = bs ([123] ++ s) ++ ⟨#[125]⟩ := by
        unfold prJ
        rw [es]
        apply ba_ex
        simp [bs]
      have z2 : (bs ([123] ++ s)).size ≤ 8000481 := by rw [bs_size, List.length_append, ← es]; simp; omega
      rw [e1]
      repeat' (first | refine zS rfl ?_ | refine qA ?_ | refine qB rfl ?_ | refine qD ?_ | refine qH rfl ?_ | refine zU rfl ?_ | refine qL rfl rfl ?_ | exact zD)
theorem sp_bs (a b : List UInt8) : bs (spT a b) = bif (bs a).toList == (⟨#[]⟩ : ByteArray).toList || (bs b).toList == (⟨#[]⟩ : ByteArray).toList then bs a ++ bs b else bs a ++ ⟨#[32]⟩ ++ bs b := by
  rw [em_bs, em_bs]
  unfold spT
  cases a.isEmpty || b.isEmpty
  · apply ba_ex; simp [bs]
  · apply ba_ex; simp [bs]
theorem spaced_ev (a b : List UInt8) (ha : a.length ≤ 1000000000) (hb : b.length ≤ 1000000000) : Ev E 357 [.str (bs a), .str (bs b)] (.d (.str (bs (spT a b)))) := by
  have za : (bs a).size ≤ 1000000000 := by rw [bs_size]; exact ha
  have zb : (bs b).size ≤ 1000000000 := by rw [bs_size]; exact hb
  have y1 : (⟨#[32]⟩ : ByteArray).size = 1 := rfl
  rw [sp_bs]
  generalize bs a = x at *
  generalize bs b = y at *
  refine enter2 Tryz.func357 Tryz.ntmps357 rfl rfl fun w0 F0 O => ?_
  repeat' (first | refine zS rfl ?_ | refine qA ?_ | refine qB rfl ?_ | refine qD ?_ | refine qE ?_ | refine zT rfl ?_ | refine qL rfl rfl ?_ | (refine qY rfl rfl rfl rfl ?_ ?_ <;> intro _) | (refine qV rfl ?_ ?_ <;> intro _))
  all_goals (refine congrArg D.str ?_; try simp only [cond_false, cond_true] at *) <;> (simp only [*, Bool.true_or, Bool.or_true, Bool.false_or, Bool.or_self, cond_true, cond_false])
end Go.Proofs.YtmfjfclpdmpncaaGreatDoor

/- Node and edge patterns as text, by both texts. Conditions: patterns that the check accepts, of bounded size. -/
namespace Go.Abs
/-- The two ways of a condition come to one value. -/
theorem go_cutC {C : Cx} {r : List It} {s : St} {Q : Exit → St → Prop} {α : Type} (t : Nat) {a b : Code} {c : Code} (S : α → St) (b0 : α) (h1 : go C (.code (.cond (.tmp t) a b) :: .stop (fun s' => ∃ b, b = b0 ∧ Le C s' (S b)) :: .code c :: r) s Q)
    (h2 : go C (.code c :: r) (S b0) Q) : go C (.code (.cond (.tmp t) a b) :: .code c :: r) s Q := by
  refine go_cut _ h1 ?_
  rintro s' ⟨b, rfl, hl⟩
  exact go_weaken hl h2
end Go.Abs
namespace Go.Proofs.YtmfjfclpdmpncaaGreatDoor
set_option maxRecDepth 4000
open Go Go.Abs Go.Val Go.RowKit
attribute [local irreducible] go SGo HasBody Ev ExtEv EvO EvS RGo

theorem flat_at {L : List (List UInt8)} {i : Nat} {y : List UInt8} (h : L[i]? = some y) : (L.take (i + 1)).flatten = (L.take i).flatten ++ y := by
  rw [List.take_add_one, h]
  simp
theorem prT_empty (l : List PP) : (prT l).isEmpty = (l.length == 0) := by
  unfold prT prJ
  cases l.length == 0 <;> simp
theorem sp_pb (S : List UInt8) (l : List PP) : S ++ pbT l (!S.isEmpty) = spT S (prT l) := by
  unfold spT pbT
  rw [prT_empty]
  cases hS : S.isEmpty
  · cases hl : l.length == 0
    · simp
    · simp
  · simp
theorem pb_le {l : List PP} (h : TxP l) (b : Bool) : (pbT l b).length ≤ 8000483 := by
  have := pr_le h
  unfold pbT
  cases b && !(l.length == 0) <;> simp only [cond_true, cond_false, List.length_append, List.length_cons, List.length_nil] <;> omega
set_option maxHeartbeats 1000000 in
theorem fnode_ev (n : NP) (h : TxN n) : Ev E 210 [encNP n] (.d (.str (bs (ndT n)))) := by
  obtain ⟨vr, lb, ps⟩ := n
  have hle : (lb.map D.str).length = lb.length := by simp
  have hlv := h.v
  have hln := h.n
  have hlb := h.l
  have hns := ns_le h
  have hp := fprops_ev ps (!((bs (nsT ⟨vr, lb, ps⟩)).toList == (⟨#[]⟩ : ByteArray).toList)) h.p
  have zp := pb_le h.p (!((bs (nsT ⟨vr, lb, ps⟩)).toList == (⟨#[]⟩ : ByteArray).toList))
  dsimp only at hlv hln hlb hp zp
  have y1 : (⟨#[58]⟩ : ByteArray).size = 1 := rfl
  have y2 : (⟨#[40]⟩ : ByteArray).size = 1 := rfl
  have y3 : (⟨#[41]⟩ : ByteArray).size = 1 := rfl
  have e0 : bs (bl vr ++ ((lbL lb).take 0).flatten) = vr := by rw [List.take_zero]; apply ba_ex; simp [bs, bl]
  refine enter1 Tryz.func210 Tryz.ntmps210 rfl rfl fun w0 F0 O => ?_
  repeat' (first | refine zS rfl ?_ | refine qA ?_ | refine qB rfl ?_ | refine qD ?_ | refine qF ?_)
  refine go_loop_ (α := SDx lb) (fun p => ⟨[(3, .d (.str (bs (bl vr ++ ((lbL lb).take p.i).flatten)))), (1, .ptr 0 0), (9, .d (.sl (lb.map .str))), (10, .d (.int (lb.map D.str).length)), (11, .d (.int p.i))], [oNP ⟨vr, lb, ps⟩]⟩) (fun p => lb.length - p.i) ⟨0, by omega⟩ (by dsimp only; rw [e0]; exact (zle 1)) ?_
  rintro ⟨i, hi⟩
  dsimp only
  rcases Nat.lt_or_ge i lb.length with hlt | hge
  · have g1 : decide ((i : Int) < ((lb.map D.str).length : Int)) = true := by rw [hle]; simpa using hlt
    have hx0 := List.getElem?_eq_getElem hlt
    generalize lb[i] = x at hx0
    have hx := map_c (f := D.str) hx0
    have zx := hlb x (List.mem_of_getElem? hx0)
    have hfl := flat_at (L := lbL lb) (i := i) (y := [58] ++ bl x) (by rw [lbL, List.getElem?_map, hx0]; rfl)
    have zs : (bs (bl vr ++ ((lbL lb).take i).flatten)).size ≤ 440 := by
      have := flat_take_le (lbL lb) i
      rw [bs_size]
      simp only [nsT, List.length_append] at hns ⊢
      omega
    have e1 : bs (bl vr ++ ((lbL lb).take (i + 1)).flatten) = bs (bl vr ++ ((lbL lb).take i).flatten) ++ (⟨#[58]⟩ ++ x) := by
      rw [hfl]
      apply ba_ex
      simp [bs, bl]
    repeat' (first | refine zS rfl ?_ | refine qA ?_ | refine qB rfl ?_ | refine qD ?_ | refine qE ?_ | refine qF ?_ | refine qG ?_ | refine qI (.str x) rfl (guardX_ok rfl) rfl rfl rfl rfl rfl rfl (by first | omega | decide) hx ?_ | refine zT rfl ?_)
    refine go_stop ?_
    rw [← e1]
    exact ⟨⟨i + 1, by omega⟩, by dsimp only; omega, (zle 1)⟩
  · have g1 : decide ((i : Int) < ((lb.map D.str).length : Int)) = false := by rw [hle]; simp; omega
    have e1 : bl vr ++ ((lbL lb).take i).flatten = nsT ⟨vr, lb, ps⟩ := by rw [List.take_of_length_le (by simp [lbL]; omega)]; rfl
    have e2 : bs (ndT ⟨vr, lb, ps⟩) = ⟨#[40]⟩ ++ bs (nsT ⟨vr, lb, ps⟩) ++ bs (pbT ps (!((bs (nsT ⟨vr, lb, ps⟩)).toList == (⟨#[]⟩ : ByteArray).toList))) ++ ⟨#[41]⟩ := by
      rw [em_bs]
      unfold ndT
      rw [← sp_pb]
      apply ba_ex
      simp [bs]
    rw [e1, e2]
    rw [← bs_size] at hns zp
    repeat' (first | refine zS rfl ?_ | refine qA ?_ | refine qB rfl ?_ | refine qD ?_ | refine qH rfl ?_ | refine qP rfl rfl rfl rfl rfl rfl b291 (hp) ?_ | refine zU rfl ?_ | refine qL rfl rfl ?_ | exact zD)
set_option maxHeartbeats 1000000 in
theorem gnode_ev (n : NP) (h : TxN n) : Ev E 296 [encNP n] (.d (.str (bs (ndT n)))) := by
  obtain ⟨vr, lb, ps⟩ := n
  have hle : (lb.map D.str).length = lb.length := by simp
  have hlv := h.v
  have hln := h.n
  have hlb := h.l
  have hns := ns_le h
  have hp := gprops_ev ps h.p
  have zp := pr_le h.p
  have hsp := spaced_ev (nsT ⟨vr, lb, ps⟩) (prT ps) (by omega) (by dsimp only at zp; omega)
  have zsp := sp_le (nsT ⟨vr, lb, ps⟩) (prT ps)
  dsimp only at hlv hln hlb hp zp
  have y1 : (⟨#[58]⟩ : ByteArray).size = 1 := rfl
  have y2 : (⟨#[40]⟩ : ByteArray).size = 1 := rfl
  have y3 : (⟨#[41]⟩ : ByteArray).size = 1 := rfl
  have e0 : bs (bl vr ++ ((lbL lb).take 0).flatten) = vr := by rw [List.take_zero]; apply ba_ex; simp [bs, bl]
  refine enter1 Tryz.func296 Tryz.ntmps296 rfl rfl fun w0 F0 O => ?_
  repeat' (first | refine zS rfl ?_ | refine qA ?_ | refine qB rfl ?_ | refine qD ?_ | refine qF ?_)
  refine go_loop_ (α := SDx lb) (fun p => ⟨[(3, .d (.str (bs (bl vr ++ ((lbL lb).take p.i).flatten)))), (1, .ptr 0 0), (4, .d (.int p.i))], [oNP ⟨vr, lb, ps⟩]⟩) (fun p => lb.length - p.i) ⟨0, by omega⟩ (by dsimp only; rw [e0]; exact (zle 1)) ?_
  rintro ⟨i, hi⟩
  dsimp only
  rcases Nat.lt_or_ge i lb.length with hlt | hge
  · have g1 : decide ((i : Int) < ((lb.map D.str).length : Int)) = true := by rw [hle]; simpa using hlt
    have hx0 := List.getElem?_eq_getElem hlt
    generalize lb[i] = x at hx0
    have hx := map_c (f := D.str) hx0
    have zx := hlb x (List.mem_of_getElem? hx0)
    have hfl := flat_at (L := lbL lb) (i := i) (y := [58] ++ bl x) (by rw [lbL, List.getElem?_map, hx0]; rfl)
    have zs : (bs (bl vr ++ ((lbL lb).take i).flatten)).size ≤ 440 := by
      have := flat_take_le (lbL lb) i
      rw [bs_size]
      simp only [nsT, List.length_append] at hns ⊢
      omega
    have e1 : bs (bl vr ++ ((lbL lb).take (i + 1)).flatten) = bs (bl vr ++ ((lbL lb).take i).flatten) ++ ⟨#[58]⟩ ++ x := by
      rw [hfl]
      apply ba_ex
      simp [bs, bl]
    repeat' (first | refine zS rfl ?_ | refine qA ?_ | refine qB rfl ?_ | refine qD ?_ | refine qE ?_ | refine qF ?_ | refine qG ?_ | refine qI (.str x) rfl (guardX_ok rfl) rfl rfl rfl rfl rfl rfl (by first | omega | decide) hx ?_ | refine zT rfl ?_)
    refine go_stop ?_
    rw [← e1]
    exact ⟨⟨i + 1, by omega⟩, by dsimp only; omega, (zle 1)⟩
  · have g1 : decide ((i : Int) < ((lb.map D.str).length : Int)) = false := by rw [hle]; simp; omega
    have e1 : bl vr ++ ((lbL lb).take i).flatten = nsT ⟨vr, lb, ps⟩ := by rw [List.take_of_length_le (by simp [lbL]; omega)]; rfl
    have e2 : bs (ndT ⟨vr, lb, ps⟩) = ⟨#[40]⟩ ++ bs (spT (nsT ⟨vr, lb, ps⟩) (prT ps)) ++ ⟨#[41]⟩ := by
      unfold ndT
      apply ba_ex
      simp [bs]
    rw [e1, e2]
    rw [← bs_size] at zsp
    repeat' (first | refine zS rfl ?_ | refine qA ?_ | refine qB rfl ?_ | refine qD ?_ | refine qH rfl ?_ | refine qP rfl rfl rfl rfl rfl rfl b359 (hp) ?_ | refine qP rfl rfl rfl rfl rfl rfl b357 (hsp) ?_ | refine zU rfl ?_ | refine qL rfl rfl ?_ | exact zD)
theorem fmode_ev (m : Int) : Ev E 290 [.int m] (.d (.str (bs (mwT m)))) := by
  refine enter1 Tryz.func290 Tryz.ntmps290 rfl rfl fun w0 F0 O => ?_
  repeat' (first | refine zS rfl ?_ | refine qA ?_ | refine qB rfl ?_ | refine qD ?_ | refine qE ?_ | refine qF ?_ | refine qG ?_ | refine qL rfl rfl ?_ | (refine qV rfl ?_ ?_ <;> intro _))
  all_goals (refine congrArg D.str ?_; simp_all [mwT, Bool.cond_eq_ite]; rfl)
theorem vInt_rng {n : Int} (h : -1 ≤ n ∧ n ≤ 1000000000000000) : Val.okV (vInt n) = true := by
  unfold Val.okV vInt
  rw [okN_flat 8 2 _ _ _ _ (by omega) (by omega)]
  have h1 : decide (-1000000000000000 ≤ n) = true := by simp; omega
  have h2 : decide (n ≤ 1000000000000000) = true := by simp; omega
  simp only [okFlat, V.k, V.n, V.d, V.s, V.l]
  simp_all
  exact ⟨beq_self_eq_true ByteArray.empty.toList, by unfold inM; simp; omega⟩
theorem digit_ev {n : Int} (h : -1 ≤ n ∧ n ≤ 1000000000000000) : Ev E 297 [.int n] (.d (.str (bs (Lib.itoa n)))) := digits_ev n (vInt_rng h)
theorem itoab_ev (n : Int) : Ev E 211 [.int n] (.d (.str (bs (Lib.itoa n)))) := itoa_ev n
theorem gmode_ev (e : EP) (h : TxG e) : Ev E 358 [encEP e] (.d (.str (bs (moT e)))) := by
  obtain ⟨vr, ty, dir, mode, mn, mx, ps⟩ := e
  have hmn := h.mn
  have hmx := h.mx
  dsimp only at hmn hmx
  have d1 := digit_ev (n := mn) (by omega)
  have d2 := digit_ev (n := mx) (by omega)
  have z1 := ita_le (n := mn) (by omega)
  have z2 := ita_le (n := mx) (by omega)
  rw [← bs_size] at z1 z2
  have y1 : (⟨#[42]⟩ : ByteArray).size = 1 := rfl
  have y2 : (⟨#[46, 46]⟩ : ByteArray).size = 2 := rfl
  have y3 : (⟨#[84, 82, 65, 73, 76, 32]⟩ : ByteArray).size = 6 := rfl
  have y4 : (⟨#[83, 73, 77, 80, 76, 69, 32]⟩ : ByteArray).size = 7 := rfl
  have y5 : (⟨#[83, 72, 79, 82, 84, 69, 83, 84, 32]⟩ : ByteArray).size = 9 := rfl
  have y6 : (⟨#[65, 78, 89, 32, 83, 72, 79, 82, 84, 69, 83, 84, 32]⟩ : ByteArray).size = 13 := rfl
  have e : bs (moT ⟨vr, ty, dir, mode, mn, mx, ps⟩) = bif mode == 0 then ⟨#[]⟩ else bs (mwT mode) ++ (⟨#[42]⟩ ++ bs (Lib.itoa mn) ++ ⟨#[46, 46]⟩ ++ bs (Lib.itoa mx)) := by
    unfold moT
    dsimp only
    cases mode == 0
    · apply ba_ex; simp [bs]
    · rfl
  rw [e]
  refine enter1 Tryz.func358 Tryz.ntmps358 rfl rfl fun w0 F0 O => ?_
  repeat' (first | refine zS rfl ?_ | refine qA ?_ | refine qB rfl ?_ | refine qC (by kernel_rfl) ?_ | refine qD ?_ | refine qE ?_ | refine qF ?_ | refine qG ?_ | refine qP (d := 6) rfl rfl rfl rfl rfl rfl b297 (d1) ?_ | refine qP (d := 11) rfl rfl rfl rfl rfl rfl b297 (d2) ?_ | refine qL rfl rfl ?_ | (refine qV rfl ?_ ?_ <;> intro _))
  all_goals (refine congrArg D.str ?_; clear d1 d2 e h hmn hmx z1 z2 y1 y2 y3 y4 y5 y6; simp_all [mwT, Bool.cond_eq_ite])
  all_goals first | rfl | (apply ba_ex; simp [bs]; done) | skip
end Go.Proofs.YtmfjfclpdmpncaaGreatDoor

/- Edge patterns as text, by both texts. Conditions: patterns that the check accepts, of bounded size. -/
namespace Go.Proofs.YtmfjfclpdmpncaaGreatDoor
set_option maxRecDepth 4000
open Go Go.Abs Go.Val Go.RowKit
attribute [local irreducible] go SGo HasBody Ev ExtEv EvO EvS RGo

def tyS (e : EP) : List UInt8 := bl e.vr ++ tyT e.ty
def spS (s : List UInt8) : List UInt8 := bif s.isEmpty then [] else s ++ [32]
def moS (e : EP) : List UInt8 := spT (tyS e) (moT e)
theorem tys_le {e : EP} (h : TxG e) : (tyS e).length ≤ 461 := by
  have := ty_le2 h.n h.l
  have := h.v
  have := bl_len e.vr
  unfold tyS
  rw [List.length_append]
  omega
theorem mos_le {e : EP} (h : TxG e) : (moS e).length ≤ 600 := by
  have := tys_le h
  have := mo_le h
  have := sp_le (tyS e) (moT e)
  unfold moS
  omega
theorem moT_ne (e : EP) (h : (e.mode == 0) = false) : (moT e).isEmpty = false := by
  unfold moT
  rw [h]
  cases mwT e.mode <;> simp
theorem spS_sp (s t : List UInt8) (h : t.isEmpty = false) : spS s ++ t = spT s t := by
  unfold spS spT
  rw [h]
  cases hs : s.isEmpty with
  | true =>
    have : s = [] := by cases s <;> simp_all
    subst this
    rfl
  | false => simp
set_option maxHeartbeats 4000000 in
theorem fedge_ev (e : EP) (h : TxG e) : Ev E 209 [encEP e] (.d (.str (bs (edT e)))) := by
  obtain ⟨S1, hS1⟩ : ∃ s, tyS e = s := ⟨_, rfl⟩
  obtain ⟨S2, hS2⟩ : ∃ s, moS e = s := ⟨_, rfl⟩
  obtain ⟨S3, hS3⟩ : ∃ s, esT e = s := ⟨_, rfl⟩
  have z1 := tys_le h
  have z2 := mos_le h
  have z3 := es_le h
  have zj := ty_le h.n h.l
  have zv := h.v
  have j1 := joind_ev (e.ty.map bl) [124] (by have := h.n; rw [List.length_map]; omega) (by omega)
  have ej : strD (e.ty.map bl) = e.ty.map D.str := by
    simp only [strD, List.map_map]
    refine List.map_congr_left fun s _ => ?_
    show D.str (bs (bl s)) = D.str s
    rw [bs_bl]
  rw [ej] at j1
  have hp := fprops_ev e.ps (!((bs S2).toList == (⟨#[]⟩ : ByteArray).toList)) h.p
  have zp := pb_le h.p (!((bs S2).toList == (⟨#[]⟩ : ByteArray).toList))
  have hm := fmode_ev e.mode
  have zm := mw_le e.mode
  have hmn := h.mn
  have hmx := h.mx
  have d1 := itoab_ev e.mn
  have d2 := itoab_ev e.mx
  have q1 := ita_le (n := e.mn) (by omega)
  have q2 := ita_le (n := e.mx) (by omega)
  have l3 : (!((bs S1).toList == (⟨#[]⟩ : ByteArray).toList)) = true → bs S1 ++ ⟨#[32]⟩ = bs (spS S1) := by
    rw [em_bs]
    intro he
    unfold spS
    rw [Bool.not_eq_true'] at he
    rw [he]
    apply ba_ex; simp [bs]
  have l4 : (!((bs S1).toList == (⟨#[]⟩ : ByteArray).toList)) = false → bs S1 = bs (spS S1) := by
    rw [em_bs]
    intro he
    unfold spS
    rw [Bool.not_eq_false'] at he
    rw [he]
    have : S1 = [] := by cases S1 <;> simp_all
    rw [this]; rfl
  have l5 : (!(e.mode == 0)) = true → bs (spS S1) ++ (bs (mwT e.mode) ++ ⟨#[42]⟩ ++ bs (Lib.itoa e.mn) ++ ⟨#[46, 46]⟩ ++ bs (Lib.itoa e.mx)) = bs S2 := by
    intro he
    rw [Bool.not_eq_true'] at he
    rw [← hS2, moS, ← spS_sp _ _ (moT_ne e he), hS1]
    unfold moT
    rw [he]
    apply ba_ex; simp [bs]
  have l6 : (!(e.mode == 0)) = false → bs S1 = bs S2 := by
    intro he
    rw [Bool.not_eq_false'] at he
    rw [← hS2, moS, hS1]
    unfold moT spT
    rw [he]
    simp
  have l7 : bs S2 ++ bs (pbT e.ps (!((bs S2).toList == (⟨#[]⟩ : ByteArray).toList))) = bs S3 := by
    rw [em_bs, bs_append, sp_pb, ← hS3, ← hS2]
    rfl
  have l8 : (e.dir == 1) = true → ⟨#[45, 91]⟩ ++ bs S3 ++ ⟨#[93, 45, 62]⟩ = bs (edT e) := by
    intro he
    unfold edT
    rw [he, hS3]
    apply ba_ex; simp [bs]
  have l9 : (e.dir == 1) = false → (e.dir == 2) = true → ⟨#[60, 45, 91]⟩ ++ bs S3 ++ ⟨#[93, 45]⟩ = bs (edT e) := by
    intro he he2
    unfold edT
    rw [he, he2, hS3]
    apply ba_ex; simp [bs]
  have l10 : (e.dir == 1) = false → (e.dir == 2) = false → ⟨#[45, 91]⟩ ++ bs S3 ++ ⟨#[93, 45]⟩ = bs (edT e) := by
    intro he he2
    unfold edT
    rw [he, he2, hS3]
    apply ba_ex; simp [bs]
  have l1 : decide (((e.ty.map D.str).length : Int) > 0) = true → e.vr ++ (⟨#[58]⟩ ++ bs (Lib.join (e.ty.map bl) [124])) = bs S1 := by
    intro he
    have : (e.ty.length == 0) = false := by simp at he ⊢; intro h0; rw [h0] at he; simp at he
    rw [← hS1]
    unfold tyS tyT
    rw [this]
    apply ba_ex; simp [bs, bl]
  have l2 : decide (((e.ty.map D.str).length : Int) > 0) = false → e.vr = bs S1 := by
    intro he
    have : (e.ty.length == 0) = true := by simp at he ⊢; exact he
    rw [← hS1]
    unfold tyS tyT
    rw [this]
    apply ba_ex; simp [bs, bl]
  rw [hS1] at z1
  rw [hS2] at z2
  rw [hS3] at z3
  rw [← bs_size] at z1 z2 z3 zj zp zm q1 q2
  have z4 : (bs (spS S1)).size ≤ 470 := by
    have : (spS S1).length ≤ S1.length + 1 := by unfold spS; cases S1.isEmpty <;> simp
    rw [bs_size] at z1 ⊢
    omega
  generalize bs (edT e) = R at *
  obtain ⟨vr, ty, dir, mode, mn, mx, ps⟩ := e
  dsimp only at *
  have y1 : (⟨#[58]⟩ : ByteArray).size = 1 := rfl
  have y2 : (⟨#[32]⟩ : ByteArray).size = 1 := rfl
  have y3 : (⟨#[42]⟩ : ByteArray).size = 1 := rfl
  have y4 : (⟨#[46, 46]⟩ : ByteArray).size = 2 := rfl
  have y5 : (⟨#[45, 91]⟩ : ByteArray).size = 2 := rfl
  have y6 : (⟨#[93, 45, 62]⟩ : ByteArray).size = 3 := rfl
  have y7 : (⟨#[60, 45, 91]⟩ : ByteArray).size = 3 := rfl
  have y8 : (⟨#[93, 45]⟩ : ByteArray).size = 2 := rfl
  clear hS1 hS2 hS3 ej h hmn hmx
  generalize bs (Lib.join (ty.map bl) [124]) = J at *
  generalize bs (pbT ps (!((bs S2).toList == (⟨#[]⟩ : ByteArray).toList))) = PB at *
  generalize bs (mwT mode) = MW at *
  generalize bs (Lib.itoa mn) = I1 at *
  generalize bs (Lib.itoa mx) = I2 at *
  generalize bs (spS S1) = T1 at *
  generalize bs S1 = B1 at *
  generalize bs S2 = B2 at *
  generalize bs S3 = B3 at *
  refine enter1 Tryz.func209 Tryz.ntmps209 rfl rfl fun w0 F0 O => ?_
  repeat' (first | (refine go_cutC 9 (fun b => ⟨[(3, .d (.str b)), (1, .ptr 0 0)], [oEP ⟨vr, ty, dir, mode, mn, mx, ps⟩]⟩) B1 ?_ ?_) | (refine go_cutC 18 (fun b => ⟨[(3, .d (.str b)), (1, .ptr 0 0)], [oEP ⟨vr, ty, dir, mode, mn, mx, ps⟩]⟩) B2 ?_ ?_) | (refine go_cutC 20 (fun b => ⟨[(3, .d (.str b)), (1, .ptr 0 0)], [oEP ⟨vr, ty, dir, mode, mn, mx, ps⟩]⟩) T1 ?_ ?_) | refine go_cutR 8 (fun b => ⟨[(3, .d (.str b)), (1, .ptr 0 0)], [oEP ⟨vr, ty, dir, mode, mn, mx, ps⟩]⟩) (B3) ?_ ?_ | refine zS rfl ?_ | refine qA ?_ | refine qB rfl ?_ | refine qC (by kernel_rfl) ?_ | refine qD ?_ | refine qE ?_ | refine qF ?_ | refine qG ?_ | refine qP rfl rfl rfl rfl rfl rfl b57 (j1) ?_ | refine qP rfl rfl rfl rfl rfl rfl b290 (hm) ?_ | refine qP (d := 30) rfl rfl rfl rfl rfl rfl b211 (d1) ?_ | refine qP (d := 35) rfl rfl rfl rfl rfl rfl b211 (d2) ?_ | refine qP rfl rfl rfl rfl rfl rfl b291 (hp) ?_ | refine go_stop ⟨_, ?_, (zle 1)⟩ | refine qL rfl rfl ?_ | (refine qV rfl ?_ ?_ <;> intro _))
  all_goals first | exact l1 (by assumption) | exact l2 (by assumption) | exact l3 (by assumption) | exact l4 (by assumption) | exact l5 (by assumption) | exact l6 (by assumption) | exact l7 | exact congrArg D.str (l8 (by assumption)) | exact congrArg D.str (l9 (by assumption) (by assumption)) | exact congrArg D.str (l10 (by assumption) (by assumption)) | skip
end Go.Proofs.YtmfjfclpdmpncaaGreatDoor

/- Edge patterns as text, by the specification. Conditions: patterns that the check accepts, of bounded size. -/
namespace Go.Proofs.YtmfjfclpdmpncaaGreatDoor
set_option maxRecDepth 4000
open Go Go.Abs Go.Val Go.RowKit
attribute [local irreducible] go SGo HasBody Ev ExtEv EvO EvS RGo

def tyH (i : Nat) : List UInt8 := if i = 0 then [] else [58]
set_option maxHeartbeats 4000000 in
theorem gedge_ev (e : EP) (h : TxG e) : Ev E 295 [encEP e] (.d (.str (bs (edT e)))) := by
  have z1 := tys_le h
  have z2 := mos_le h
  have z3 := es_le h
  have zmo := mo_le h
  have zpr := pr_le h.p
  have hp := gprops_ev e.ps h.p
  have hm := gmode_ev e h
  have s1 := spaced_ev (tyS e) (moT e) (by omega) (by omega)
  have s2 := spaced_ev (moS e) (prT e.ps) (by omega) (by omega)
  rw [show spT (tyS e) (moT e) = moS e from rfl] at s1
  rw [show spT (moS e) (prT e.ps) = esT e from rfl] at s2
  have hty := h.l
  have htn := h.n
  have zj := ty_le h.n h.l
  have htys : bs (tyS e) = bs (bl e.vr ++ tyT e.ty) := rfl
  have l8 : (e.dir == 1) = true → ⟨#[45, 91]⟩ ++ bs (esT e) ++ ⟨#[93, 45]⟩ ++ ⟨#[62]⟩ = bs (edT e) := by
    intro he
    unfold edT
    rw [he]
    apply ba_ex; simp [bs]
  have l9 : (e.dir == 1) = false → (e.dir == 2) = true → ⟨#[60]⟩ ++ (⟨#[45, 91]⟩ ++ bs (esT e) ++ ⟨#[93, 45]⟩) = bs (edT e) := by
    intro he he2
    unfold edT
    rw [he, he2]
    apply ba_ex; simp [bs]
  have l10 : (e.dir == 1) = false → (e.dir == 2) = false → ⟨#[45, 91]⟩ ++ bs (esT e) ++ ⟨#[93, 45]⟩ = bs (edT e) := by
    intro he he2
    unfold edT
    rw [he, he2]
    apply ba_ex; simp [bs]
  have hvr := h.v
  rw [← bs_size] at z1 z2 z3 zmo zpr
  generalize bs (edT e) = R at *
  generalize bs (esT e) = B3 at *
  generalize bs (moS e) = B2 at *
  generalize bs (tyS e) = B1 at *
  generalize bs (moT e) = MO at *
  generalize bs (prT e.ps) = PR at *
  obtain ⟨vr, ty, dir, mode, mn, mx, ps⟩ := e
  dsimp only at *
  clear h
  have hle : (ty.map D.str).length = ty.length := by simp
  have y1 : (⟨#[58]⟩ : ByteArray).size = 1 := rfl
  have y2 : (⟨#[124]⟩ : ByteArray).size = 1 := rfl
  have y5 : (⟨#[45, 91]⟩ : ByteArray).size = 2 := rfl
  have y6 : (⟨#[93, 45]⟩ : ByteArray).size = 2 := rfl
  have y7 : (⟨#[60]⟩ : ByteArray).size = 1 := rfl
  have y8 : (⟨#[62]⟩ : ByteArray).size = 1 := rfl
  have e0 : bs (bl vr ++ tyH 0 ++ []) = vr := by apply ba_ex; simp [bs, bl, tyH]
  refine enter1 Tryz.func295 Tryz.ntmps295 rfl rfl fun w0 F0 O => ?_
  repeat' (first | refine zS rfl ?_ | refine qA ?_ | refine qB rfl ?_ | refine qD ?_ | refine qF ?_)
  refine go_loop_ (α := SJ (ty.map bl) [124]) (fun p => ⟨[(1, .ptr 0 0), (3, .d (.str (bs (bl vr ++ tyH p.i ++ p.s)))), (4, .d (.int p.i))], [oEP ⟨vr, ty, dir, mode, mn, mx, ps⟩]⟩) (fun p => ty.length - p.i) ⟨0, [], by omega, fun _ => rfl, fun h => absurd rfl h⟩ (by dsimp only; rw [e0]; exact (zle 1)) ?_
  rintro ⟨i, s, hi, h0, h1⟩
  dsimp only
  rw [List.length_map] at hi
  rcases Nat.lt_or_ge i ty.length with hlt | hge
  · have g1 : decide ((i : Int) < ((ty.map D.str).length : Int)) = true := by rw [hle]; simpa using hlt
    have hx0 := List.getElem?_eq_getElem hlt
    generalize ty[i] = x at hx0
    have hx := map_c (f := D.str) hx0
    have hm2 := List.mem_of_getElem? hx0
    have hmm : (ty.map bl)[i]? = some (bl x) := by rw [List.getElem?_map, hx0]; rfl
    have zx := hty x hm2
    by_cases hi0 : i = 0
    · subst hi0
      have hs0 := h0 rfl
      subst hs0
      have g2 : (((0 : Nat) : Int) == 0) = true := rfl
      have e1 : vr ++ ⟨#[58]⟩ ++ x = bs (bl vr ++ tyH 1 ++ ([] ++ bl x)) := by apply ba_ex; simp [bs, bl, tyH]
      rw [e0]
      repeat' (first | refine zS rfl ?_ | refine qA ?_ | refine qB rfl ?_ | refine qD ?_ | refine qE ?_ | refine qF ?_ | refine qG ?_ | refine qI (.str x) rfl (guardX_ok rfl) rfl rfl rfl rfl rfl rfl (by first | omega | decide) hx ?_ | refine zT rfl ?_)
      refine go_stop ?_
      rw [e1]
      exact ⟨⟨1, [] ++ bl x, by rw [List.length_map]; omega, fun h => by omega, fun _ => by have := drop_at hmm; rw [List.drop_zero] at this; rw [List.nil_append]; conv => rhs; rw [this, Lib.join_cons]⟩, by dsimp only; omega, (zle 1)⟩
    · have g2 : ((i : Int) == 0) = false := by simp; omega
      have h1' := h1 hi0
      rw [joinTail_at hmm] at h1'
      have hll : s.length ≤ 440 := by
        have := congrArg List.length h1'
        simp only [List.length_append] at this
        omega
      have zs : (bs (bl vr ++ tyH i ++ s)).size ≤ 470 := by
        rw [bs_size, List.length_append, List.length_append, bl_len]
        have : (tyH i).length ≤ 1 := by unfold tyH; split <;> simp
        omega
      have e1 : bs (bl vr ++ tyH i ++ s) ++ ⟨#[124]⟩ ++ x = bs (bl vr ++ tyH (i + 1) ++ (s ++ [124] ++ bl x)) := by
        have t1 : tyH i = [58] := by unfold tyH; rw [if_neg hi0]
        have t2 : tyH (i + 1) = [58] := by unfold tyH; rw [if_neg (by omega)]
        rw [t1, t2]
        apply ba_ex; simp [bs, bl]
      repeat' (first | refine zS rfl ?_ | refine qA ?_ | refine qB rfl ?_ | refine qD ?_ | refine qE ?_ | refine qF ?_ | refine qG ?_ | refine qI (.str x) rfl (guardX_ok rfl) rfl rfl rfl rfl rfl rfl (by first | omega | decide) hx ?_ | refine zT rfl ?_ | refine zU rfl ?_)
      refine go_stop ?_
      rw [e1]
      exact ⟨⟨i + 1, s ++ [124] ++ bl x, by rw [List.length_map]; omega, fun h => by omega, fun _ => by rw [← h1']; simp only [List.append_assoc]⟩, by dsimp only; omega, (zle 1)⟩
  · have g1 : decide ((i : Int) < ((ty.map D.str).length : Int)) = false := by rw [hle]; simp; omega
    have e1 : bs (bl vr ++ tyH i ++ s) = B1 := by
      rw [htys]
      by_cases hi0 : i = 0
      · have : ty = [] := List.eq_nil_of_length_eq_zero (by omega)
        rw [this, hi0, h0 hi0]
        apply ba_ex; simp [bs, bl, tyH, tyT]
      · have e := h1 hi0
        rw [List.drop_eq_nil_of_le (by rw [List.length_map]; omega)] at e
        simp only [Lib.joinTail, List.append_nil] at e
        have t1 : tyH i = [58] := by unfold tyH; rw [if_neg hi0]
        have t2 : (ty.length == 0) = false := by simp; intro h; rw [h] at hi; simp at hi; omega
        unfold tyT
        rw [t1, t2, ← e]
        apply ba_ex; simp [bs, bl]
    rw [e1]
    clear hty htn zj
    repeat' (first | refine zS rfl ?_ | refine qA ?_ | refine qB rfl ?_ | refine qC (by kernel_rfl) ?_ | refine qD ?_ | refine qE ?_ | refine qH rfl ?_ | refine qP rfl rfl rfl rfl rfl rfl b358 (hm) ?_ | refine qP (d := 30) rfl rfl rfl rfl rfl rfl b357 (s1) ?_ | refine qP rfl rfl rfl rfl rfl rfl b359 (hp) ?_ | refine qP (d := 34) rfl rfl rfl rfl rfl rfl b357 (s2) ?_ | refine zU rfl ?_ | refine qL rfl rfl ?_ | (refine qV rfl ?_ ?_ <;> intro _))
    all_goals first | exact congrArg D.str (l8 (by assumption)) | exact congrArg D.str (l9 (by assumption) (by assumption)) | exact congrArg D.str (l10 (by assumption) (by assumption)) | skip
end Go.Proofs.YtmfjfclpdmpncaaGreatDoor
