/- Graphs and bindings as data, and the reference's look-ups in them; Membership in lists of names, by the library; Copies of lists of names and of properties, by the library; Copies of values and of properties, and the look-up of nodes, edges and properties, by the program. Conditions: each part's own, as it says. -/
import Derived.Test.YtjgmakalledclaaGreatDoorMA
import Derived.Test.YtjgmakalledclaaGreatDoorGB
import Derived.Test.YtjgmakalledclaaGreatDoorMB
import Derived.Test.YtjgmakalledclaaGreatDoorGC
set_option linter.unusedVariables false
set_option linter.unusedSimpArgs false
namespace Go.Proofs.YtjgmakalledclaaGreatDoor
set_option maxRecDepth 4000
open Go Go.Abs Go.Val Go.Proofs.Tryz
attribute [local irreducible] go SGo HasBody Ev ExtEv EvO EvS
structure Pr where
 key : ByteArray
 v : V
structure Nd where
 id : Int
 labels : List ByteArray
 props : List Pr
structure Ed where
 id : Int
 src : Int
 dst : Int
 ty : ByteArray
 props : List Pr
structure Gr where
 nodes : List Nd
 edges : List Ed
 nn : Int
 ne : Int
structure Bd where
 name : ByteArray
 v : V
def encPr (p : Pr) : D := .agg [.str p.key, .int p.v.k, .int p.v.n, .int p.v.d, .str p.v.s, .sl (kids p.v)]
def encNd (n : Nd) : D := .agg [.int n.id, .sl (n.labels.map .str), .sl (n.props.map encPr)]
def encEd (e : Ed) : D := .agg [.int e.id, .int e.src, .int e.dst, .str e.ty, .sl (e.props.map encPr)]
def encGr (g : Gr) : D := .agg [.sl (g.nodes.map encNd), .sl (g.edges.map encEd), .int g.nn, .int g.ne]
def encBd (b : Bd) : D := .agg [.str b.name, .int b.v.k, .int b.v.n, .int b.v.d, .str b.v.s, .sl (kids b.v)]
theorem map_at {α β : Type} {l : List α} {f : α → β} {i : Nat} {x : α} (h : l[i]? = some x) : (l.map f)[(i : Int).toNat]? = some (f x) := by
 rw [Int.toNat_natCast, List.getElem?_map, h]; rfl
theorem fit_map {α : Type} {l : List α} {f : α → D} (h : Fit (.sl (l.map f))) : l.length ≤ 9223372036854775807 ∧ ∀ x ∈ l, Fit (f x) := by
 have h5 := h.sls
 rw [List.length_map] at h5
 exact ⟨h5.1, fun x hx => h5.2 _ (List.mem_map_of_mem hx)⟩
theorem fit_gr {g : Gr} (h : Fit (encGr g)) : Fit (.sl (g.nodes.map encNd)) ∧ Fit (.sl (g.edges.map encEd)) :=
 ⟨h.aggs _ (by simp), h.aggs _ (by simp)⟩
structure SFd {α : Type} (l : List α) (f : α → Bool) where
 i : Nat
 hi : i ≤ l.length
 ok : l.find? f = (l.drop i).find? f
theorem find_at {α : Type} {l : List α} {f : α → Bool} {i : Nat} {x : α} (h : l[i]? = some x) : (l.drop i).find? f = bif f x then some x else (l.drop (i + 1)).find? f := by
 rw [drop_at h, List.find?_cons]
 cases f x <;> rfl
def nd0 : Nd := ⟨0, [], []⟩
def ed0 : Ed := ⟨0, 0, 0, ⟨#[]⟩, []⟩
def findN (l : List Nd) (id : Int) : Option Nd := l.find? fun n => n.id == id
def findE (l : List Ed) (id : Int) : Option Ed := l.find? fun n => n.id == id
def findP (l : List Pr) (k : ByteArray) : V := match l.find? fun p => p.key.toList == k.toList with | some p => p.v | none => vNull
def hasF (l : List ByteArray) (s : ByteArray) : Bool := l.any fun x => x.toList == s.toList
def idxF (s : ByteArray) : List ByteArray → Nat → Int
 | [], _ => -1
 | x :: r, i => bif s.toList == x.toList then (i : Int) else idxF s r (i + 1)
theorem idxF_ge (s : ByteArray) : ∀ (l : List ByteArray) (i : Nat), decide (idxF s l i ≥ 0) = hasF l s
 | [], i => rfl
 | x :: r, i => by
  rw [idxF, hasF, List.any_cons]
  have hc : (x.toList == s.toList) = (s.toList == x.toList) := by
   rw [Bool.eq_iff_iff, beq_iff_eq, beq_iff_eq]; exact ⟨fun h => h.symm, fun h => h.symm⟩
  rw [hc]
  cases s.toList == x.toList with
  | true => simp
  | false => rw [cond_false, Bool.false_or]; exact idxF_ge s r (i + 1)
theorem idxF_at {l : List ByteArray} {s x : ByteArray} {i : Nat} (h : l[i]? = some x) : idxF s (l.drop i) i = bif s.toList == x.toList then (i : Int) else idxF s (l.drop (i + 1)) (i + 1) := by
 rw [drop_at h]; rfl
structure SIx (l : List ByteArray) (s : ByteArray) where
 i : Nat
 hi : i ≤ l.length
 ok : idxF s l 0 = idxF s (l.drop i) i
theorem sindex_ev (l : List ByteArray) (s : ByteArray) : Ev E 274 [.sl (l.map .str), .str s] (.d (.int (idxF s l 0))) := Ev.fit fun hfit => by
 obtain ⟨hmax, -⟩ := fit_map (l := l) (f := D.str) (hfit _ (by simp))
 have hle : (l.map D.str).length = l.length := by simp
 refine ye2 func274 ntmps274 fun _ _ _=>?_
 repeat' (refine yz ?_)
 refine go_loop_ (α := SIx l s) (fun p => ⟨[(0, .d (.sl (l.map .str))), (1, .d (.str s)), (6, .d (.sl (l.map .str))), (7, .d (.int (l.map D.str).length)), (8, .d (.int p.i))], []⟩) (fun p => l.length - p.i) ⟨0, by omega, rfl⟩ (zle 0) ?_
 rintro ⟨i, hi, ok⟩
 dsimp only
 rcases Nat.lt_or_ge i l.length with hlt | hge
 ·have g1 : decide ((i : Int) < ((l.map D.str).length : Int)) = true := by rw [hle]; simpa using hlt
  have hx0 := List.getElem?_eq_getElem hlt
  generalize l[i] = x at hx0
  have hx := map_at (f := D.str) hx0
  rw [ok, idxF_at hx0]
  cases hc : s.toList == x.toList with
  | true =>
   repeat' (first | refine yz ?_ | refine yi (.str x) hx ?_ | exact zD)
  | false =>
   repeat' (first | refine yz ?_ | refine yi (.str x) hx ?_)
   refine go_stop ?_
   exact ⟨⟨i + 1, by omega, by rw [ok, idxF_at hx0, hc]; rfl⟩, by dsimp only; omega, (zle 0)⟩
 ·have g1 : decide ((i : Int) < ((l.map D.str).length : Int)) = false := by rw [hle]; simp; omega
  rw [ok, List.drop_eq_nil_of_le hge]
  repeat' (first | refine yz ?_ | exact zD)
theorem scontains_ev (l : List ByteArray) (s : ByteArray) : Ev E 230 [.sl (l.map .str), .str s] (.d (.bool (hasF l s))) := by
 have h := sindex_ev l s
 rw [← idxF_ge s l 0]
 refine ye2 func230 ntmps230 fun _ _ _=>?_
 repeat' (first | refine yz ?_ | refine yp b274 h ?_ | exact zD)
theorem hasLabel_ev (n : Nd) (s : ByteArray) : Ev E 195 [encNd n, .str s] (.d (.bool (hasF n.labels s))) := by
 have h := scontains_ev n.labels s
 refine ye2 func195 ntmps195 fun _ _ _=>?_
 repeat' (first | refine yz ?_ | refine yp b230 h ?_ | exact zD)
theorem cloneS0_ev : Ev E 228 [.sl []] (.d (.sl [])) := by
 refine ye1 func228 ntmps228 fun _ _ _=>?_
 repeat' (first | refine yz ?_ | (refine go_condm rfl (fun _ => ?_) ?_) | refine go_append0 rfl rfl rfl rfl rfl rfl rfl rfl ?_ | exact zD)
theorem cloneS_evO (l : List ByteArray) (h0 : l ≠ []) (hn : l.length ≤ 2000000) : EvO E 228 [.sl (l.map .str)] 9 1 (l.map .str) := by
 have hle : (l.map D.str).length = l.length := by simp
 have hne : l.map D.str ≠ [] := by simpa using h0
 have hc : ∀ d ∈ l.map D.str, d.cells.length = 1 := fun d hd => by
  obtain ⟨u, -, rfl⟩ := List.mem_map.1 hd
  rfl
 generalize l.map D.str = xs at *
 refine enterO1 func228 ntmps228 rfl rfl fun w0 F0 O => ?_
 repeat' (first | refine go_buildOwn rfl rfl rfl rfl rfl rfl rfl (by decide) (by decide) ?_ | refine yz ?_ | (refine go_condm rfl (fun h => absurd h hne) ?_))
 refine qS rfl ⟨hne, hc, by (show (0 + xs.length) * 16 ≤ 140737488355328; omega), by (show 0 + xs.length ≤ 9223372036854775807; omega)⟩ ?_
 repeat' (first | refine yz ?_ | exact zL)
theorem cloneS_ev (l : List ByteArray) (hn : l.length ≤ 2000000) : Ev E 228 [.sl (l.map .str)] (.d (.sl (l.map .str))) := by
 by_cases h0 : l = []
 ·subst h0; exact cloneS0_ev
 ·exact (cloneS_evO l h0 hn).ev
theorem cloneP0_ev : Ev E 272 [.sl []] (.d (.sl [])) := by
 refine ye1 func272 ntmps272 fun _ _ _=>?_
 repeat' (first | refine yz ?_ | (refine go_condm rfl (fun _ => ?_) ?_) | refine go_append0 rfl rfl rfl rfl rfl rfl rfl rfl ?_ | exact zD)
theorem encPr_cells (l : List Pr) : ∀ d ∈ l.map encPr, d.cells.length = 6 := fun d hd => by
 obtain ⟨u, -, rfl⟩ := List.mem_map.1 hd
 rfl
theorem cloneP_evO (l : List Pr) (h0 : l ≠ []) (hn : l.length ≤ 2000000) : EvO E 272 [.sl (l.map encPr)] 163 6 (l.map encPr) := by
 have hle : (l.map encPr).length = l.length := by simp
 have hne : l.map encPr ≠ [] := by simpa using h0
 have hc := encPr_cells l
 generalize l.map encPr = xs at *
 refine enterO1 func272 ntmps272 rfl rfl fun w0 F0 O => ?_
 repeat' (first | refine go_buildOwn rfl rfl rfl rfl rfl rfl rfl (by decide) (by decide) ?_ | refine yz ?_ | (refine go_condm rfl (fun h => absurd h hne) ?_))
 refine qS rfl ⟨hne, hc, by (show (0 + xs.length) * 80 ≤ 140737488355328; omega), by (show 0 + xs.length ≤ 9223372036854775807; omega)⟩ ?_
 repeat' (first | refine yz ?_ | exact zL)
open Go.RowKit
attribute [local irreducible] RGo
theorem set_same {α : Type} {l : List α} {i : Nat} {x : α} (h : l[i]? = some x) : l.set i x = l := by
 refine List.ext_getElem? fun j => ?_
 rw [List.getElem?_set]
 split
 ·rename_i hij
  subst hij
  rw [if_pos (List.getElem?_eq_some_iff.1 h).1, h]
 ·rfl
theorem cloneValue_ev (v : V) : nar v = true → Ev E 273 [enc v] (.d (enc v)) := by
 refine vind (P := fun v => nar v = true → Ev E 273 [enc v] (.d (enc v))) (fun k n d s l ih hn => ?_) v
 obtain ⟨hl, hm⟩ := nar_l hn
 simp only [V.l] at hl hm
 show Ev E 273 [.agg [.int k, .int n, .int d, .str s, .sl (encL l)]] (.d (.agg [.int k, .int n, .int d, .str s, .sl (encL l)]))
 have hle : (encL l).length = l.length := encL_len _
 by_cases h0 : l = []
 ·subst h0
  show Ev E 273 [.agg [.int k, .int n, .int d, .str s, .sl []]] (.d (.agg [.int k, .int n, .int d, .str s, .sl []]))
  refine ye1 func273 ntmps273 fun _ _ _=>?_
  repeat' (first | refine yz ?_ | refine yp b87 clone0_ev ?_ | refine yx ?_ | (refine yy ?_ ?_ <;> intro _) | exact zD | exact zL)
  refine go_loop_ (α := Unit) (fun _ => ⟨[(1, .ptr 0 0), (2, .ptr 1 0), (10, .d (.int 0)), (11, .d (.int 0))], [.var 35 (.cs [.d (.int k), .d (.int n), .d (.int d), .d (.str s), .d (.sl [])]), .var 35 (.cs [.d (.int 0), .d (.int 0), .d (.int 0), .d (.str ⟨#[]⟩), .nilS])]⟩) (fun _ => 0) () (zle 2) ?_
  rintro -
  have g1 : decide ((0 : Int) < 0) = false := rfl
  repeat' (first | refine yz ?_ | refine yx ?_ | (refine yy ?_ ?_ <;> intro _) | exact zD | exact zL)
 ·have hc := clone_ev l h0 hl
  refine ye1 func273 ntmps273 fun _ _ _=>?_
  repeat' (first | refine yz ?_ | refine go_callO rfl rfl rfl rfl rfl rfl b87 (hc) ?_ | refine yx ?_ | (refine yy ?_ ?_ <;> intro _) | exact zD | exact zL)
  refine go_loop_ (α := Fin (l.length + 1)) (fun p => ⟨[(1, .ptr 0 0), (2, .ptr 1 0), (10, .d (.int (encL l).length)), (11, .d (.int p.val))], [.var 35 (.cs [.d (.int k), .d (.int n), .d (.int d), .d (.str s), .own 2]), .var 35 (.cs [.d (.int 0), .d (.int 0), .d (.int 0), .d (.str ⟨#[]⟩), .nilS]), .row 35 5 (encL l)]⟩) (fun p => l.length - p.val) ⟨0, by omega⟩ (zle 3) ?_
  rintro ⟨i, hi⟩
  dsimp only
  rcases Nat.lt_or_ge i l.length with hlt | hge
  ·have g1 : decide ((i : Int) < ((encL l).length : Int)) = true := by rw [hle]; simpa using hlt
   have hx0 := List.getElem?_eq_getElem hlt
   generalize l[i] = x at hx0
   have hx : (encL l)[(i : Int).toNat]? = some (enc x) := encL_get (by rw [Int.toNat_natCast]; exact hx0)
   have hmem := List.mem_of_getElem? hx0
   have hcx := ih x hmem (narL_mem hm x hmem)
   have hset : (encL l).set (i : Int).toNat (subD (enc x) 0 (enc x)) = encL l := set_same hx
   repeat' (first | refine yq 5 [10] ?_ | refine yf 5 0 10 ?_ | refine yw ?_ | refine rgN ?_ | refine yv ?_ | refine yz ?_ | refine qW (enc x) rfl rfl rfl rfl rfl rfl hx rfl ?_ | refine yp b273 hcx ?_ | refine yx ?_ | (refine yy ?_ ?_ <;> intro _) | exact zD | exact zL)
   refine go_stop ?_
   refine ⟨⟨i + 1, by omega⟩, by dsimp only; omega, ?_⟩
   show Le _ ⟨_, [_, _, .row 35 5 ((encL l).set (i : Int).toNat (subD (enc x) 0 (enc x)))]⟩ _
   rw [hset]
   exact (zle 3)
  ·have g1 : decide ((i : Int) < ((encL l).length : Int)) = false := by rw [hle]; simp; omega
   repeat' (first | refine yz ?_ | refine yx ?_ | (refine yy ?_ ?_ <;> intro _) | exact zD | exact zL)
   refine go_frzS 2 rfl ?_
   repeat' (first | refine yz ?_ | refine yx ?_ | (refine yy ?_ ?_ <;> intro _) | exact zD | exact zL)
def narP (l : List Pr) : Prop := l.length ≤ 2000000 ∧ ∀ p ∈ l, nar p.v = true
theorem cloneProps_ev (l : List Pr) (hn : narP l) : Ev E 227 [.sl (l.map encPr)] (.d (.sl (l.map encPr))) := by
 have hle : (l.map encPr).length = l.length := by simp
 have hmax := hn.1
 by_cases h0 : l = []
 ·subst h0
  show Ev E 227 [.sl []] (.d (.sl []))
  refine ye1 func227 ntmps227 fun _ _ _=>?_
  repeat' (first | refine yz ?_ | refine yp b272 cloneP0_ev ?_ | refine yx ?_ | (refine yy ?_ ?_ <;> intro _) | exact zD | exact zL)
  refine go_loop_ (α := Unit) (fun _ => ⟨[(3, .d (.sl [])), (8, .d (.int 0)), (9, .d (.int 0))], []⟩) (fun _ => 0) () (zle 0) ?_
  rintro -
  have g1 : decide ((0 : Int) < 0) = false := rfl
  repeat' (first | refine yz ?_ | refine yx ?_ | (refine yy ?_ ?_ <;> intro _) | exact zD | exact zL)
 ·have hc := cloneP_evO l h0 hn.1
  refine ye1 func227 ntmps227 fun _ _ _=>?_
  repeat' (first | refine yz ?_ | refine go_callO rfl rfl rfl rfl rfl rfl b272 (hc) ?_ | refine yx ?_ | (refine yy ?_ ?_ <;> intro _) | exact zD | exact zL)
  refine go_loop_ (α := Fin (l.length + 1)) (fun p => ⟨[(3, .own 0), (8, .d (.int (l.map encPr).length)), (9, .d (.int p.val))], [.row 163 6 (l.map encPr)]⟩) (fun p => l.length - p.val) ⟨0, by omega⟩ (zle 1) ?_
  rintro ⟨i, hi⟩
  dsimp only
  rcases Nat.lt_or_ge i l.length with hlt | hge
  ·have g1 : decide ((i : Int) < ((l.map encPr).length : Int)) = true := by rw [hle]; simpa using hlt
   have hx0 := List.getElem?_eq_getElem hlt
   generalize l[i] = x at hx0
   have hx := map_at (f := encPr) hx0
   have hcx := cloneValue_ev x.v (hn.2 x (List.mem_of_getElem? hx0))
   have hset : (l.map encPr).set (i : Int).toNat (subD (encPr x) 1 (enc x.v)) = l.map encPr := set_same hx
   repeat' (first | refine yz ?_ | refine qW (encPr x) rfl rfl rfl rfl rfl rfl hx rfl ?_ | refine qZ (encPr x) rfl rfl rfl rfl rfl rfl hx rfl rfl rfl ?_ | refine yp b273 hcx ?_ | refine yx ?_ | (refine yy ?_ ?_ <;> intro _) | exact zD | exact zL)
   refine go_stop ?_
   refine ⟨⟨i + 1, by omega⟩, by dsimp only; omega, ?_⟩
   show Le _ ⟨_, [.row 163 6 ((l.map encPr).set (i : Int).toNat (subD (encPr x) 1 (enc x.v)))]⟩ _
   rw [hset]
   exact (zle 1)
  ·have g1 : decide ((i : Int) < ((l.map encPr).length : Int)) = false := by rw [hle]; simp; omega
   repeat' (first | refine yz ?_ | refine yx ?_ | (refine yy ?_ ?_ <;> intro _) | exact zD | exact zL)
   refine go_frz 0 rfl ?_
   repeat' (first | refine yz ?_ | refine yx ?_ | (refine yy ?_ ?_ <;> intro _) | exact zD | exact zL)
theorem gprop_ev (l : List Pr) (key : ByteArray) (hn : narP l) : Ev E 229 [.sl (l.map encPr), .str key] (.d (enc (findP l key))) := by
 have hle : (l.map encPr).length = l.length := by simp
 have hmax := hn.1
 unfold findP
 refine ye2 func229 ntmps229 fun _ _ _=>?_
 repeat' (first | refine yz ?_ | refine yx ?_ | (refine yy ?_ ?_ <;> intro _) | exact zD | exact zL)
 refine go_loop_ (α := SFd l fun p => p.key.toList == key.toList) (fun p => ⟨[(1, .d (.str key)), (4, .ptr 0 0), (7, .d (.sl (l.map encPr))), (8, .d (.int (l.map encPr).length)), (9, .d (.int p.i))], [.var 35 (.cs [.d (.int 0), .d (.int 0), .d (.int 0), .d (.str ⟨#[]⟩), .nilS])]⟩) (fun p => l.length - p.i) ⟨0, by omega, rfl⟩ (zle 1) ?_
 rintro ⟨i, hi, ok⟩
 dsimp only
 rcases Nat.lt_or_ge i l.length with hlt | hge
 ·have g1 : decide ((i : Int) < ((l.map encPr).length : Int)) = true := by rw [hle]; simpa using hlt
  have hx0 := List.getElem?_eq_getElem hlt
  generalize l[i] = x at hx0
  have hx := map_at (f := encPr) hx0
  have hcx := cloneValue_ev x.v (hn.2 x (List.mem_of_getElem? hx0))
  rw [ok, find_at hx0]
  cases hc : x.key.toList == key.toList with
  | true =>
   repeat' (first | refine yz ?_ | refine yi (encPr x) hx ?_ | refine yp b273 hcx ?_ | refine yx ?_ | (refine yy ?_ ?_ <;> intro _) | exact zD | exact zL)
  | false =>
   repeat' (first | refine yz ?_ | refine yi (encPr x) hx ?_ | refine yx ?_ | (refine yy ?_ ?_ <;> intro _) | exact zD | exact zL)
   refine go_stop ?_
   exact ⟨⟨i + 1, by omega, by rw [ok, find_at hx0, hc]; rfl⟩, by dsimp only; omega, (zle 1)⟩
 ·have g1 : decide ((i : Int) < ((l.map encPr).length : Int)) = false := by rw [hle]; simp; omega
  rw [ok, List.drop_eq_nil_of_le hge]
  repeat' (first | refine yz ?_ | refine yp b32 null_ev ?_ | refine yx ?_ | (refine yy ?_ ?_ <;> intro _) | exact zD | exact zL)
def narN (n : Nd) : Prop := n.labels.length ≤ 2000000 ∧ narP n.props
theorem gnode_ev (g : Gr) (id : Int) (hn : ∀ n ∈ g.nodes, narN n) : Ev E 192 [encGr g, .int id] (.tup [encNd ((findN g.nodes id).getD nd0), .bool (findN g.nodes id).isSome]) := Ev.fit fun hfit => by
 obtain ⟨f1, -⟩ := fit_gr (g := g) (hfit _ (by simp))
 obtain ⟨hmax, -⟩ := fit_map f1
 have hle : (g.nodes.map encNd).length = g.nodes.length := by simp
 unfold findN
 refine ye2 func192 ntmps192 fun _ _ _=>?_
 repeat' (first | refine yz ?_ | refine yx ?_ | (refine yy ?_ ?_ <;> intro _) | exact zD | exact zL)
 refine go_loop_ (α := SFd g.nodes fun n => n.id == id) (fun p => ⟨[(1, .d (.int id)), (4, .ptr 1 0), (9, .d (.sl (g.nodes.map encNd))), (10, .d (.int (g.nodes.map encNd).length)), (11, .d (.int p.i))], [.var 41 (.w (.d (encGr g))), .var 115 (.cs [.d (.int 0), .nilS, .nilS])]⟩) (fun p => g.nodes.length - p.i) ⟨0, by omega, rfl⟩ (zle 2) ?_
 rintro ⟨i, hi, ok⟩
 dsimp only
 rcases Nat.lt_or_ge i g.nodes.length with hlt | hge
 ·have g1 : decide ((i : Int) < ((g.nodes.map encNd).length : Int)) = true := by rw [hle]; simpa using hlt
  have hx0 := List.getElem?_eq_getElem hlt
  generalize g.nodes[i] = x at hx0
  have hx := map_at (f := encNd) hx0
  obtain ⟨n1, n2⟩ := hn x (List.mem_of_getElem? hx0)
  have hc1 := cloneS_ev x.labels n1
  have hc2 := cloneProps_ev x.props n2
  rw [ok, find_at hx0]
  cases hc : x.id == id with
  | true =>
   obtain rfl : x.id = id := by simpa using hc
   repeat' (first | refine yq 5 [8] ?_ | refine yf 5 0 8 ?_ | refine yw ?_ | refine yf 5 9 1 ?_ | refine rgN ?_ | refine yv ?_ | refine yz ?_ | refine yi (encNd x) hx ?_ | refine yp b228 hc1 ?_ | refine yp b227 hc2 ?_ | refine yx ?_ | (refine yy ?_ ?_ <;> intro _) | exact zD | exact zL)
  | false =>
   repeat' (first | refine yz ?_ | refine yi (encNd x) hx ?_ | refine yx ?_ | (refine yy ?_ ?_ <;> intro _) | exact zD | exact zL)
   refine go_stop ?_
   exact ⟨⟨i + 1, by omega, by rw [ok, find_at hx0, hc]; rfl⟩, by dsimp only; omega, (zle 2)⟩
 ·have g1 : decide ((i : Int) < ((g.nodes.map encNd).length : Int)) = false := by rw [hle]; simp; omega
  rw [ok, List.drop_eq_nil_of_le hge]
  repeat' (first | refine yz ?_ | refine yx ?_ | (refine yy ?_ ?_ <;> intro _) | exact zD | exact zL)
theorem gedge_ev (g : Gr) (id : Int) (hn : ∀ e ∈ g.edges, narP e.props) : Ev E 191 [encGr g, .int id] (.tup [encEd ((findE g.edges id).getD ed0), .bool (findE g.edges id).isSome]) := Ev.fit fun hfit => by
 obtain ⟨-, f1⟩ := fit_gr (g := g) (hfit _ (by simp))
 obtain ⟨hmax, -⟩ := fit_map f1
 have hle : (g.edges.map encEd).length = g.edges.length := by simp
 unfold findE
 refine ye2 func191 ntmps191 fun _ _ _=>?_
 repeat' (first | refine yz ?_ | refine yx ?_ | (refine yy ?_ ?_ <;> intro _) | exact zD | exact zL)
 refine go_loop_ (α := SFd g.edges fun n => n.id == id) (fun p => ⟨[(1, .d (.int id)), (4, .ptr 1 0), (9, .d (.sl (g.edges.map encEd))), (10, .d (.int (g.edges.map encEd).length)), (11, .d (.int p.i))], [.var 41 (.w (.d (encGr g))), .var 118 (.cs [.d (.int 0), .d (.int 0), .d (.int 0), .d (.str ⟨#[]⟩), .nilS])]⟩) (fun p => g.edges.length - p.i) ⟨0, by omega, rfl⟩ (zle 2) ?_
 rintro ⟨i, hi, ok⟩
 dsimp only
 rcases Nat.lt_or_ge i g.edges.length with hlt | hge
 ·have g1 : decide ((i : Int) < ((g.edges.map encEd).length : Int)) = true := by rw [hle]; simpa using hlt
  have hx0 := List.getElem?_eq_getElem hlt
  generalize g.edges[i] = x at hx0
  have hx := map_at (f := encEd) hx0
  have hc2 := cloneProps_ev x.props (hn x (List.mem_of_getElem? hx0))
  rw [ok, find_at hx0]
  cases hc : x.id == id with
  | true =>
   repeat' (first | refine yz ?_ | refine yi (encEd x) hx ?_ | refine yp b227 hc2 ?_ | refine yx ?_ | (refine yy ?_ ?_ <;> intro _) | exact zD | exact zL)
  | false =>
   repeat' (first | refine yz ?_ | refine yi (encEd x) hx ?_ | refine yx ?_ | (refine yy ?_ ?_ <;> intro _) | exact zD | exact zL)
   refine go_stop ?_
   exact ⟨⟨i + 1, by omega, by rw [ok, find_at hx0, hc]; rfl⟩, by dsimp only; omega, (zle 2)⟩
 ·have g1 : decide ((i : Int) < ((g.edges.map encEd).length : Int)) = false := by rw [hle]; simp; omega
  rw [ok, List.drop_eq_nil_of_le hge]
  repeat' (first | refine yz ?_ | refine yx ?_ | (refine yy ?_ ?_ <;> intro _) | exact zD | exact zL)
end Go.Proofs.YtjgmakalledclaaGreatDoor
