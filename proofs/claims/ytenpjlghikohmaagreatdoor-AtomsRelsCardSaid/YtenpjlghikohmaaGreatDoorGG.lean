/- Graphs and bindings as data, and the reference's look-ups in them; Membership in lists of names, by the library; Copies of lists of names and of properties, by the library; Copies of values and of properties, and the look-up of nodes, edges and properties, by the program; The reference's test of small graphs, and what it grants; The reference's test of small graphs as a whole, and what it grants. Conditions: each part's own, as it says. -/
import Derived.Test.YtenpjlghikohmaaGreatDoorMA
import Derived.Test.YtenpjlghikohmaaGreatDoorGB
import Derived.Test.YtenpjlghikohmaaGreatDoorMB
import Derived.Test.YtenpjlghikohmaaGreatDoorGC
set_option linter.unusedVariables false
set_option linter.unusedSimpArgs false
namespace Go.Proofs.YtenpjlghikohmaaGreatDoor
set_option maxRecDepth 4000
open Go Go.Abs Go.Val Go.Proofs.Tryz
attribute [local irreducible] go SGo HasBody Ev ExtEv EvO EvS
structure Pr where
 key : ByteArray
 v : V
structure Nd where
 id : Int
 labels : List ByteArray
 props : List Pr
structure Ed where
 id : Int
 src : Int
 dst : Int
 ty : ByteArray
 props : List Pr
structure Gr where
 nodes : List Nd
 edges : List Ed
 nn : Int
 ne : Int
def encPr (p : Pr) : D := .agg [.str p.key, .int p.v.k, .int p.v.n, .int p.v.d, .str p.v.s, .sl (kids p.v)]
def encNd (n : Nd) : D := .agg [.int n.id, .sl (n.labels.map .str), .sl (n.props.map encPr)]
def encEd (e : Ed) : D := .agg [.int e.id, .int e.src, .int e.dst, .str e.ty, .sl (e.props.map encPr)]
def encGr (g : Gr) : D := .agg [.sl (g.nodes.map encNd), .sl (g.edges.map encEd), .int g.nn, .int g.ne]
theorem map_at {α β : Type} {l : List α} {f : α → β} {i : Nat} {x : α} (h : l[i]? = some x) : (l.map f)[(i : Int).toNat]? = some (f x) := by
 rw [Int.toNat_natCast, List.getElem?_map, h]; rfl
theorem fit_map {α : Type} {l : List α} {f : α → D} (h : Fit (.sl (l.map f))) : l.length ≤ 9223372036854775807 ∧ ∀ x ∈ l, Fit (f x) := by
 have h5 := h.sls
 rw [List.length_map] at h5
 exact ⟨h5.1, fun x hx => h5.2 _ (List.mem_map_of_mem hx)⟩
theorem fit_gr {g : Gr} (h : Fit (encGr g)) : Fit (.sl (g.nodes.map encNd)) ∧ Fit (.sl (g.edges.map encEd)) :=
 ⟨h.aggs _ (by simp), h.aggs _ (by simp)⟩
structure SFd {α : Type} (l : List α) (f : α → Bool) where
 i : Nat
 hi : i ≤ l.length
 ok : l.find? f = (l.drop i).find? f
theorem find_at {α : Type} {l : List α} {f : α → Bool} {i : Nat} {x : α} (h : l[i]? = some x) : (l.drop i).find? f = bif f x then some x else (l.drop (i + 1)).find? f := by
 rw [drop_at h, List.find?_cons]
 cases f x <;> rfl
def nd0 : Nd := ⟨0, [], []⟩
def findN (l : List Nd) (id : Int) : Option Nd := l.find? fun n => n.id == id
def findP (l : List Pr) (k : ByteArray) : V := match l.find? fun p => p.key.toList == k.toList with | some p => p.v | none => vNull
theorem rnode_of (g : Gr) (id : Int) : Ev E 251 [encGr g, .int id] (.tup [encNd ((findN g.nodes id).getD nd0), .bool (findN g.nodes id).isSome]) := Ev.fit fun hfit => by
 obtain ⟨f1, -⟩ := fit_gr (g := g) (hfit _ (by simp))
 obtain ⟨hmax, -⟩ := fit_map f1
 have hle : (g.nodes.map encNd).length = g.nodes.length := by simp
 unfold findN
 refine ye2 func251 ntmps251 fun _ _ _=>?_
 repeat' (first | refine yz ?_ | refine yx ?_ | (refine yy ?_ ?_ <;> intro _) | exact zD | exact zL)
 refine go_loop_ (α := SFd g.nodes fun n => n.id == id) (fun p => ⟨[(1, .d (.int id)), (2, .ptr 0 0), (4, .ptr 1 0), (6, .d (.int p.i))], [.var 38 (.w (.d (encGr g))), .var 104 (.cs [.d (.int 0), .nilS, .nilS])]⟩) (fun p => g.nodes.length - p.i) ⟨0, by omega, rfl⟩ (zle 2) ?_
 rintro ⟨i, hi, ok⟩
 dsimp only
 rcases Nat.lt_or_ge i g.nodes.length with hlt | hge
 ·have g1 : decide ((i : Int) < ((g.nodes.map encNd).length : Int)) = true := by rw [hle]; simpa using hlt
  have hx0 := List.getElem?_eq_getElem hlt
  generalize g.nodes[i] = x at hx0
  have hx := map_at (f := encNd) hx0
  rw [ok, find_at hx0]
  cases hc : x.id == id with
  | true =>
   repeat' (first | refine yz ?_ | refine yi (encNd x) hx ?_ | refine yx ?_ | (refine yy ?_ ?_ <;> intro _) | exact zD | exact zL)
  | false =>
   repeat' (first | refine yz ?_ | refine yi (encNd x) hx ?_ | refine yx ?_ | (refine yy ?_ ?_ <;> intro _) | exact zD | exact zL)
   refine go_stop ?_
   exact ⟨⟨i + 1, by omega, by rw [ok, find_at hx0, hc]; rfl⟩, by dsimp only; omega, (zle 2)⟩
 ·have g1 : decide ((i : Int) < ((g.nodes.map encNd).length : Int)) = false := by rw [hle]; simp; omega
  rw [ok, List.drop_eq_nil_of_le hge]
  repeat' (first | refine yz ?_ | refine yx ?_ | (refine yy ?_ ?_ <;> intro _) | exact zD | exact zL)
def hasF (l : List ByteArray) (s : ByteArray) : Bool := l.any fun x => x.toList == s.toList
structure SHs (l : List ByteArray) (s : ByteArray) where
 i : Nat
 hi : i ≤ l.length
 ok : hasF l s = hasF (l.drop i) s
theorem hasF_at {l : List ByteArray} {s x : ByteArray} {i : Nat} (h : l[i]? = some x) : hasF (l.drop i) s = (x.toList == s.toList || hasF (l.drop (i + 1)) s) := by
 rw [drop_at h]; rfl
theorem rhasStr_ev (l : List ByteArray) (s : ByteArray) : Ev E 163 [.sl (l.map .str), .str s] (.d (.bool (hasF l s))) := Ev.fit fun hfit => by
 obtain ⟨hmax, -⟩ := fit_map (l := l) (f := D.str) (hfit _ (by simp))
 have hle : (l.map D.str).length = l.length := by simp
 refine ye2 func163 ntmps163 fun _ _ _=>?_
 repeat' (first | refine yz ?_ | refine yx ?_ | (refine yy ?_ ?_ <;> intro _) | exact zD | exact zL)
 refine go_loop_ (α := SHs l s) (fun p => ⟨[(0, .d (.sl (l.map .str))), (1, .d (.str s)), (5, .d (.int p.i))], []⟩) (fun p => l.length - p.i) ⟨0, by omega, rfl⟩ (zle 0) ?_
 rintro ⟨i, hi, ok⟩
 dsimp only
 rcases Nat.lt_or_ge i l.length with hlt | hge
 ·have g1 : decide ((i : Int) < ((l.map D.str).length : Int)) = true := by rw [hle]; simpa using hlt
  have hx0 := List.getElem?_eq_getElem hlt
  generalize l[i] = x at hx0
  have hx := map_at (f := D.str) hx0
  rw [ok, hasF_at hx0]
  cases hc : x.toList == s.toList with
  | true =>
   repeat' (first | refine yz ?_ | refine yi (.str x) hx ?_ | refine yx ?_ | (refine yy ?_ ?_ <;> intro _) | exact zD | exact zL)
  | false =>
   repeat' (first | refine yz ?_ | refine yi (.str x) hx ?_ | refine yx ?_ | (refine yy ?_ ?_ <;> intro _) | exact zD | exact zL)
   refine go_stop ?_
   exact ⟨⟨i + 1, by omega, by rw [ok, hasF_at hx0, hc]; rfl⟩, by dsimp only; omega, (zle 0)⟩
 ·have g1 : decide ((i : Int) < ((l.map D.str).length : Int)) = false := by rw [hle]; simp; omega
  rw [ok, List.drop_eq_nil_of_le hge]
  repeat' (first | refine yz ?_ | refine yx ?_ | (refine yy ?_ ?_ <;> intro _) | exact zD | exact zL)
theorem rhasLabel_ev (n : Nd) (s : ByteArray) : Ev E 164 [encNd n, .str s] (.d (.bool (hasF n.labels s))) := by
 have h := rhasStr_ev n.labels s
 refine ye2 func164 ntmps164 fun _ _ _=>?_
 repeat' (first | refine yz ?_ | refine yp b163 h ?_ | refine yx ?_ | (refine yy ?_ ?_ <;> intro _) | exact zD | exact zL)
theorem rprop_ev (l : List Pr) (k : ByteArray) : Ev E 166 [.sl (l.map encPr), .str k] (.d (enc (findP l k))) := Ev.fit fun hfit => by
 obtain ⟨hmax, -⟩ := fit_map (l := l) (f := encPr) (hfit _ (by simp))
 have hle : (l.map encPr).length = l.length := by simp
 unfold findP
 refine ye2 func166 ntmps166 fun _ _ _=>?_
 repeat' (first | refine yz ?_ | refine yx ?_ | (refine yy ?_ ?_ <;> intro _) | exact zD | exact zL)
 refine go_loop_ (α := SFd l fun p => p.key.toList == k.toList) (fun p => ⟨[(0, .d (.sl (l.map encPr))), (1, .d (.str k)), (4, .ptr 0 0), (5, .d (.int p.i))], [.var 56 (.cs [.d (.int 0), .d (.int 0), .d (.int 0), .d (.str ⟨#[]⟩), .nilS])]⟩) (fun p => l.length - p.i) ⟨0, by omega, rfl⟩ (zle 1) ?_
 rintro ⟨i, hi, ok⟩
 dsimp only
 rcases Nat.lt_or_ge i l.length with hlt | hge
 ·have g1 : decide ((i : Int) < ((l.map encPr).length : Int)) = true := by rw [hle]; simpa using hlt
  have hx0 := List.getElem?_eq_getElem hlt
  generalize l[i] = x at hx0
  have hx := map_at (f := encPr) hx0
  rw [ok, find_at hx0]
  cases hc : x.key.toList == k.toList with
  | true =>
   repeat' (first | refine yz ?_ | refine yi (encPr x) hx ?_ | refine yx ?_ | (refine yy ?_ ?_ <;> intro _) | exact zD | exact zL)
  | false =>
   repeat' (first | refine yz ?_ | refine yi (encPr x) hx ?_ | refine yx ?_ | (refine yy ?_ ?_ <;> intro _) | exact zD | exact zL)
   refine go_stop ?_
   exact ⟨⟨i + 1, by omega, by rw [ok, find_at hx0, hc]; rfl⟩, by dsimp only; omega, (zle 1)⟩
 ·have g1 : decide ((i : Int) < ((l.map encPr).length : Int)) = false := by rw [hle]; simp; omega
  rw [ok, List.drop_eq_nil_of_le hge]
  repeat' (first | refine yz ?_ | refine yx ?_ | (refine yy ?_ ?_ <;> intro _) | exact zD | exact zL)
def idxF (s : ByteArray) : List ByteArray → Nat → Int
 | [], _ => -1
 | x :: r, i => bif s.toList == x.toList then (i : Int) else idxF s r (i + 1)
theorem idxF_ge (s : ByteArray) : ∀ (l : List ByteArray) (i : Nat), decide (idxF s l i ≥ 0) = hasF l s
 | [], i => rfl
 | x :: r, i => by
  rw [idxF, hasF, List.any_cons]
  have hc : (x.toList == s.toList) = (s.toList == x.toList) := by
   rw [Bool.eq_iff_iff, beq_iff_eq, beq_iff_eq]; exact ⟨fun h => h.symm, fun h => h.symm⟩
  rw [hc]
  cases s.toList == x.toList with
  | true => simp
  | false => rw [cond_false, Bool.false_or]; exact idxF_ge s r (i + 1)
theorem idxF_at {l : List ByteArray} {s x : ByteArray} {i : Nat} (h : l[i]? = some x) : idxF s (l.drop i) i = bif s.toList == x.toList then (i : Int) else idxF s (l.drop (i + 1)) (i + 1) := by
 rw [drop_at h]; rfl
structure SIx (l : List ByteArray) (s : ByteArray) where
 i : Nat
 hi : i ≤ l.length
 ok : idxF s l 0 = idxF s (l.drop i) i
theorem sindex_ev (l : List ByteArray) (s : ByteArray) : Ev E 180 [.sl (l.map .str), .str s] (.d (.int (idxF s l 0))) := Ev.fit fun hfit => by
 obtain ⟨hmax, -⟩ := fit_map (l := l) (f := D.str) (hfit _ (by simp))
 have hle : (l.map D.str).length = l.length := by simp
 refine ye2 func180 ntmps180 fun _ _ _=>?_
 repeat' (refine yz ?_)
 refine go_loop_ (α := SIx l s) (fun p => ⟨[(0, .d (.sl (l.map .str))), (1, .d (.str s)), (6, .d (.sl (l.map .str))), (7, .d (.int (l.map D.str).length)), (8, .d (.int p.i))], []⟩) (fun p => l.length - p.i) ⟨0, by omega, rfl⟩ (zle 0) ?_
 rintro ⟨i, hi, ok⟩
 dsimp only
 rcases Nat.lt_or_ge i l.length with hlt | hge
 ·have g1 : decide ((i : Int) < ((l.map D.str).length : Int)) = true := by rw [hle]; simpa using hlt
  have hx0 := List.getElem?_eq_getElem hlt
  generalize l[i] = x at hx0
  have hx := map_at (f := D.str) hx0
  rw [ok, idxF_at hx0]
  cases hc : s.toList == x.toList with
  | true =>
   repeat' (first | refine yz ?_ | refine yi (.str x) hx ?_ | exact zD)
  | false =>
   repeat' (first | refine yz ?_ | refine yi (.str x) hx ?_)
   refine go_stop ?_
   exact ⟨⟨i + 1, by omega, by rw [ok, idxF_at hx0, hc]; rfl⟩, by dsimp only; omega, (zle 0)⟩
 ·have g1 : decide ((i : Int) < ((l.map D.str).length : Int)) = false := by rw [hle]; simp; omega
  rw [ok, List.drop_eq_nil_of_le hge]
  repeat' (first | refine yz ?_ | exact zD)
theorem scontains_ev (l : List ByteArray) (s : ByteArray) : Ev E 124 [.sl (l.map .str), .str s] (.d (.bool (hasF l s))) := by
 have h := sindex_ev l s
 rw [← idxF_ge s l 0]
 refine ye2 func124 ntmps124 fun _ _ _=>?_
 repeat' (first | refine yz ?_ | refine yp b180 h ?_ | exact zD)
theorem hasLabel_ev (n : Nd) (s : ByteArray) : Ev E 43 [encNd n, .str s] (.d (.bool (hasF n.labels s))) := by
 have h := scontains_ev n.labels s
 refine ye2 func43 ntmps43 fun _ _ _=>?_
 repeat' (first | refine yz ?_ | refine yp b124 h ?_ | exact zD)
theorem cloneS0_ev : Ev E 104 [.sl []] (.d (.sl [])) := by
 refine ye1 func104 ntmps104 fun _ _ _=>?_
 repeat' (first | refine yz ?_ | (refine go_condm rfl (fun _ => ?_) ?_) | refine go_append0 rfl rfl rfl rfl rfl rfl rfl rfl ?_ | refine yx ?_ | (refine yy ?_ ?_ <;> intro _) | exact zD | exact zL)
theorem cloneS_evO (l : List ByteArray) (h0 : l ≠ []) (hn : l.length ≤ 2000000) : EvO E 104 [.sl (l.map .str)] 9 1 (l.map .str) := by
 have hle : (l.map D.str).length = l.length := by simp
 have hne : l.map D.str ≠ [] := by simpa using h0
 have hc : ∀ d ∈ l.map D.str, d.cells.length = 1 := fun d hd => by
  obtain ⟨u, -, rfl⟩ := List.mem_map.1 hd
  rfl
 generalize l.map D.str = xs at *
 refine enterO1 func104 ntmps104 rfl rfl fun w0 F0 O => ?_
 repeat' (first | refine go_buildOwn rfl rfl rfl rfl rfl rfl rfl (by decide) (by decide) ?_ | refine yz ?_ | (refine go_condm rfl (fun h => absurd h hne) ?_) | refine yx ?_ | (refine yy ?_ ?_ <;> intro _) | exact zD | exact zL)
 refine qS rfl ⟨hne, hc, by (show (0 + xs.length) * 16 ≤ 140737488355328; omega), by (show 0 + xs.length ≤ 9223372036854775807; omega)⟩ ?_
 repeat' (first | refine yz ?_ | refine yx ?_ | (refine yy ?_ ?_ <;> intro _) | exact zD | exact zL)
theorem cloneS_ev (l : List ByteArray) (hn : l.length ≤ 2000000) : Ev E 104 [.sl (l.map .str)] (.d (.sl (l.map .str))) := by
 by_cases h0 : l = []
 ·subst h0; exact cloneS0_ev
 ·exact (cloneS_evO l h0 hn).ev
open Go.RowKit
attribute [local irreducible] RGo
theorem set_same {α : Type} {l : List α} {i : Nat} {x : α} (h : l[i]? = some x) : l.set i x = l := by
 refine List.ext_getElem? fun j => ?_
 rw [List.getElem?_set]
 split
 ·rename_i hij
  subst hij
  rw [if_pos (List.getElem?_eq_some_iff.1 h).1, h]
 ·rfl
theorem cloneValue_ev (v : V) : nar v = true → Ev E 238 [enc v] (.d (enc v)) := by
 refine vind (P := fun v => nar v = true → Ev E 238 [enc v] (.d (enc v))) (fun k n d s l ih hn => ?_) v
 obtain ⟨hl, hm⟩ := nar_l hn
 simp only [V.l] at hl hm
 show Ev E 238 [.agg [.int k, .int n, .int d, .str s, .sl (encL l)]] (.d (.agg [.int k, .int n, .int d, .str s, .sl (encL l)]))
 have hle : (encL l).length = l.length := encL_len _
 by_cases h0 : l = []
 ·subst h0
  show Ev E 238 [.agg [.int k, .int n, .int d, .str s, .sl []]] (.d (.agg [.int k, .int n, .int d, .str s, .sl []]))
  refine ye1 func238 ntmps238 fun _ _ _=>?_
  repeat' (first | refine yz ?_ | refine yp b314 clone0_ev ?_ | refine yx ?_ | (refine yy ?_ ?_ <;> intro _) | exact zD | exact zL)
  refine go_loop_ (α := Unit) (fun _ => ⟨[(1, .ptr 0 0), (2, .ptr 1 0), (10, .d (.int 0)), (11, .d (.int 0))], [.var 56 (.cs [.d (.int k), .d (.int n), .d (.int d), .d (.str s), .d (.sl [])]), .var 56 (.cs [.d (.int 0), .d (.int 0), .d (.int 0), .d (.str ⟨#[]⟩), .nilS])]⟩) (fun _ => 0) () (zle 2) ?_
  rintro -
  have g1 : decide ((0 : Int) < 0) = false := rfl
  repeat' (first | refine yz ?_ | refine yx ?_ | (refine yy ?_ ?_ <;> intro _) | exact zD | exact zL)
 ·have hc := clone_ev l h0 hl
  refine ye1 func238 ntmps238 fun _ _ _=>?_
  repeat' (first | refine yz ?_ | refine go_callO rfl rfl rfl rfl rfl rfl b314 (hc) ?_ | refine yx ?_ | (refine yy ?_ ?_ <;> intro _) | exact zD | exact zL)
  refine go_loop_ (α := Fin (l.length + 1)) (fun p => ⟨[(1, .ptr 0 0), (2, .ptr 1 0), (10, .d (.int (encL l).length)), (11, .d (.int p.val))], [.var 56 (.cs [.d (.int k), .d (.int n), .d (.int d), .d (.str s), .own 2]), .var 56 (.cs [.d (.int 0), .d (.int 0), .d (.int 0), .d (.str ⟨#[]⟩), .nilS]), .row 56 5 (encL l)]⟩) (fun p => l.length - p.val) ⟨0, by omega⟩ (zle 3) ?_
  rintro ⟨i, hi⟩
  dsimp only
  rcases Nat.lt_or_ge i l.length with hlt | hge
  ·have g1 : decide ((i : Int) < ((encL l).length : Int)) = true := by rw [hle]; simpa using hlt
   have hx0 := List.getElem?_eq_getElem hlt
   generalize l[i] = x at hx0
   have hx : (encL l)[(i : Int).toNat]? = some (enc x) := encL_get (by rw [Int.toNat_natCast]; exact hx0)
   have hmem := List.mem_of_getElem? hx0
   have hcx := ih x hmem (narL_mem hm x hmem)
   have hset : (encL l).set (i : Int).toNat (subD (enc x) 0 (enc x)) = encL l := set_same hx
   repeat' (first | refine yq 5 [10] ?_ | refine yf 5 0 10 ?_ | refine yw ?_ | refine rgN ?_ | refine yv ?_ | refine yz ?_ | refine qW (enc x) rfl rfl rfl rfl rfl rfl hx rfl ?_ | refine yp b238 hcx ?_ | refine yx ?_ | (refine yy ?_ ?_ <;> intro _) | exact zD | exact zL)
   refine go_stop ?_
   refine ⟨⟨i + 1, by omega⟩, by dsimp only; omega, ?_⟩
   show Le _ ⟨_, [_, _, .row 56 5 ((encL l).set (i : Int).toNat (subD (enc x) 0 (enc x)))]⟩ _
   rw [hset]
   exact (zle 3)
  ·have g1 : decide ((i : Int) < ((encL l).length : Int)) = false := by rw [hle]; simp; omega
   repeat' (first | refine yz ?_ | refine yx ?_ | (refine yy ?_ ?_ <;> intro _) | exact zD | exact zL)
   refine go_frzS 2 rfl ?_
   repeat' (first | refine yz ?_ | refine yx ?_ | (refine yy ?_ ?_ <;> intro _) | exact zD | exact zL)
def narP (l : List Pr) : Prop := l.length ≤ 2000000 ∧ ∀ p ∈ l, nar p.v = true
theorem gprop_ev (l : List Pr) (key : ByteArray) (hn : narP l) : Ev E 153 [.sl (l.map encPr), .str key] (.d (enc (findP l key))) := by
 have hle : (l.map encPr).length = l.length := by simp
 have hmax := hn.1
 unfold findP
 refine ye2 func153 ntmps153 fun _ _ _=>?_
 repeat' (first | refine yz ?_ | refine yx ?_ | (refine yy ?_ ?_ <;> intro _) | exact zD | exact zL)
 refine go_loop_ (α := SFd l fun p => p.key.toList == key.toList) (fun p => ⟨[(1, .d (.str key)), (4, .ptr 0 0), (7, .d (.sl (l.map encPr))), (8, .d (.int (l.map encPr).length)), (9, .d (.int p.i))], [.var 56 (.cs [.d (.int 0), .d (.int 0), .d (.int 0), .d (.str ⟨#[]⟩), .nilS])]⟩) (fun p => l.length - p.i) ⟨0, by omega, rfl⟩ (zle 1) ?_
 rintro ⟨i, hi, ok⟩
 dsimp only
 rcases Nat.lt_or_ge i l.length with hlt | hge
 ·have g1 : decide ((i : Int) < ((l.map encPr).length : Int)) = true := by rw [hle]; simpa using hlt
  have hx0 := List.getElem?_eq_getElem hlt
  generalize l[i] = x at hx0
  have hx := map_at (f := encPr) hx0
  have hcx := cloneValue_ev x.v (hn.2 x (List.mem_of_getElem? hx0))
  rw [ok, find_at hx0]
  cases hc : x.key.toList == key.toList with
  | true =>
   repeat' (first | refine yz ?_ | refine yi (encPr x) hx ?_ | refine yp b238 hcx ?_ | refine yx ?_ | (refine yy ?_ ?_ <;> intro _) | exact zD | exact zL)
  | false =>
   repeat' (first | refine yz ?_ | refine yi (encPr x) hx ?_ | refine yx ?_ | (refine yy ?_ ?_ <;> intro _) | exact zD | exact zL)
   refine go_stop ?_
   exact ⟨⟨i + 1, by omega, by rw [ok, find_at hx0, hc]; rfl⟩, by dsimp only; omega, (zle 1)⟩
 ·have g1 : decide ((i : Int) < ((l.map encPr).length : Int)) = false := by rw [hle]; simp; omega
  rw [ok, List.drop_eq_nil_of_le hge]
  repeat' (first | refine yz ?_ | refine yp b239 null_ev ?_ | refine yx ?_ | (refine yy ?_ ?_ <;> intro _) | exact zD | exact zL)
def narN (n : Nd) : Prop := n.labels.length ≤ 2000000 ∧ narP n.props
theorem weighL_neg2 (f : V → Int → Int) : ∀ (l : List V) (left : Int), left < 0 → weighL f l left = left
 | [], left, h => rfl
 | x :: r, left, h => by simp only [weighL]; rw [decide_eq_false (by omega), cond_false]
theorem weighN_ev (m : Nat) (v : V) (left : Int) (hm : m ≤ 1000) (h0 : left < 0) (h1 : -2000000000000000000 ≤ left) : Ev E 144 [enc v, .int left, .int ((m + 1 : Nat) : Int)] (.d (.int (weighF (m + 1) v left))) := by
 refine Ev.fit fun hfit => ?_
 obtain ⟨-, -, -, hs, hmax, hk⟩ := fit_enc (hfit (enc v) (by simp))
 have hd := size_div hs
 have hm1 : decide (((m + 1 : Nat) : Int) < 1) = false := by simp; omega
 simp only [weighF]
 rw [weighL_neg2 _ _ _ (by omega)]
 have hg := yF (left - 1 - (v.s.size : Int).tdiv 50 ≥ 0) (by omega)
 refine ye3 func144 ntmps144 fun _ _ _=>?_
 repeat' (refine yz ?_)
 refine go_loop_ (α := Unit) (fun _ => ⟨[(3, .ptr 0 0), (1, .d (.int (left - 1 - (v.s.size : Int).tdiv 50))), (2, .d (.int ((m + 1 : Nat) : Int))), (7, .d (.int 0))], [.var 56 (.w (.d (enc v)))]⟩) (fun _ => 0) () (zle 1) ?_
 rintro -
 cases hl : decide ((0 : Int) < ((kids v).length : Int)) with
 | true =>
  repeat' (first | refine yz ?_ | refine yx ?_ | exact zD)
 | false =>
  repeat' (first | refine yz ?_ | refine yx ?_ | exact zD)
def iterL {α : Type} (f : α → Int → Int) : List α → Int → Int
 | [], left => left
 | x :: r, left => bif decide (left ≥ 0) then iterL f r (f x left) else left
theorem iterL_neg {α : Type} (f : α → Int → Int) : ∀ (l : List α) (left : Int), left < 0 → iterL f l left = left
 | [], left, h => rfl
 | x :: r, left, h => by simp only [iterL]; rw [decide_eq_false (by omega), cond_false]
theorem iterL_le {α : Type} (f : α → Int → Int) (h : ∀ x left, 0 ≤ left → f x left ≤ left) : ∀ (l : List α) (left : Int), iterL f l left ≤ left
 | [], left => Int.le_refl _
 | x :: r, left => by
  simp only [iterL]
  cases hd : decide (left ≥ 0) with
  | false => exact Int.le_refl _
  | true => exact Int.le_trans (iterL_le f h r _) (h x left (of_decide_eq_true hd))
theorem iterL_ok {α : Type} (f : α → Int → Int) (h : ∀ x left, 0 ≤ left → f x left ≤ left) : ∀ (l : List α) (left : Int), 0 ≤ iterL f l left → ∀ x ∈ l, ∃ k, 0 ≤ k ∧ k ≤ left ∧ 0 ≤ f x k
 | [], left, _, x, hx => by simp at hx
 | y :: r, left, hp, x, hx => by
  simp only [iterL] at hp
  cases hd : decide (left ≥ 0) with
  | false =>
   rw [hd, cond_false] at hp
   exact absurd hp (by have := of_decide_eq_false hd; omega)
  | true =>
   have h0 : left ≥ 0 := of_decide_eq_true hd
   rw [hd, cond_true] at hp
   have h1 := iterL_le f h r (f y left)
   rcases List.mem_cons.1 hx with e | e
   ·exact ⟨left, h0, Int.le_refl _, by rw [e]; omega⟩
   ·obtain ⟨k, k1, k2, k3⟩ := iterL_ok f h r _ hp x e
    exact ⟨k, k1, Int.le_trans k2 (h y left h0), k3⟩
theorem iterL_len {α : Type} (f : α → Int → Int) (h : ∀ x left, 0 ≤ left → f x left ≤ left - 1) : ∀ (l : List α) (left : Int), 0 ≤ iterL f l left → (l.length : Int) ≤ left
 | [], left, hp => by simpa [iterL] using hp
 | y :: r, left, hp => by
  simp only [iterL] at hp
  cases hd : decide (left ≥ 0) with
  | false =>
   rw [hd, cond_false] at hp
   exact absurd hp (by have := of_decide_eq_false hd; omega)
  | true =>
   have h0 : left ≥ 0 := of_decide_eq_true hd
   rw [hd, cond_true] at hp
   have h1 := iterL_len f h r _ hp
   have h2 := h y left h0
   simp only [List.length_cons]
   omega
structure SIt {α : Type} (f : α → Int → Int) (l : List α) (R : Int) where
 i : Nat
 left : Int
 hi : i ≤ l.length
 hl : -9223372036854775807 ≤ left
 hu : left ≤ 2000
 ok : iterL f (l.drop i) left = R
def prS (p : Pr) (left : Int) : Int := weighF 12 p.v (left - (p.key.size : Int).tdiv 50)
theorem weighF_ltN (v : V) (left : Int) : weighF 12 v left ≤ left - 1 := by
 show weighL (weighF 11) v.l (left - 1 - (v.s.size : Int).tdiv 50) ≤ left - 1
 have h1 := weighL_le (weighF 11) (fun x l h => weighF_le 11 x l h) v.l (left - 1 - (v.s.size : Int).tdiv 50)
 have h2 := (tdiv_bnd (a := (v.s.size : Int)) (b := 50) (by omega)).1 (by omega)
 omega
theorem prS_lt (p : Pr) (left : Int) : prS p left ≤ left - 1 := by
 unfold prS
 have h1 := weighF_ltN p.v (left - (p.key.size : Int).tdiv 50)
 have h2 := (tdiv_bnd (a := (p.key.size : Int)) (b := 50) (by omega)).1 (by omega)
 omega
theorem prS_ge {p : Pr} {left : Int} (hf : Fit (encPr p)) (h : 0 ≤ left) : -900000000000000000 ≤ prS p left := by
 unfold prS
 have hc := hf.aggs
 have hs := size_div (hc (.str p.key) (by simp)).str
 have hv : Fit (enc p.v) := by
  refine Fit.agg _ fun c hm => hc c ?_
  simp only [List.mem_cons] at hm ⊢
  exact .inr hm
 rcases Int.lt_or_le (left - (p.key.size : Int).tdiv 50) 0 with hn | hn
 ·obtain ⟨-, -, -, hs2, -, hk⟩ := fit_enc hv
  have hd2 := size_div hs2
  show -900000000000000000 ≤ weighL (weighF 11) p.v.l (left - (p.key.size : Int).tdiv 50 - 1 - (p.v.s.size : Int).tdiv 50)
  rw [weighL_neg2 _ _ _ (by omega)]
  omega
 ·have := weighF_ge 12 p.v _ hv hn
  omega
theorem wprops_ev (l : List Pr) (left : Int) (h1 : -9223372036854775807 ≤ left) (h2 : left ≤ 2000) : Ev E 55 [.sl (l.map encPr), .int left] (.d (.int (iterL prS l left))) := Ev.fit fun hfit => by
 obtain ⟨hmx, hfl⟩ := fit_map (hfit (.sl (l.map encPr)) (by simp))
 have hle : (l.map encPr).length = l.length := by simp
 generalize hR : iterL prS l left = R
 refine ye2 func55 ntmps55 fun _ _ _=>?_
 repeat' (refine yz ?_)
 refine go_loop_ (α := SIt prS l R) (fun p => ⟨[(0, .d (.sl (l.map encPr))), (1, .d (.int p.left)), (5, .d (.int p.i))], []⟩) (fun p => l.length - p.i) ⟨0, left, by omega, h1, h2, hR⟩ (zle 0) ?_
 rintro ⟨i, le, hi, hl, hu, ok⟩
 dsimp only
 rcases Nat.lt_or_ge i l.length with hlt | hge
 ·have g1 : decide ((i : Int) < ((l.map encPr).length : Int)) = true := by rw [hle]; simpa using hlt
  have hx0 := List.getElem?_eq_getElem hlt
  generalize l[i] = x at hx0
  have hx : (l.map encPr)[(i : Int).toNat]? = some (encPr x) := map_at hx0
  rw [drop_at hx0] at ok
  simp only [iterL] at ok
  cases hg : decide (le ≥ 0) with
  | false =>
   rw [hg, cond_false] at ok
   rw [← ok]
   repeat' (first | refine yz ?_ | refine yx ?_ | exact zD)
  | true =>
   have h0 : le ≥ 0 := of_decide_eq_true hg
   rw [hg, cond_true] at ok
   have hfx := hfl x (List.mem_of_getElem? hx0)
   have hs := size_div ((hfx.aggs (.str x.key) (by simp)).str)
   have hge2 := prS_ge hfx h0
   have hlt2 := prS_lt x le
   have q : Ev E 144 [enc x.v, .int (le - (x.key.size : Int).tdiv 50), .int 12] (.d (.int (prS x le))) := by
    rcases Int.lt_or_le (le - (x.key.size : Int).tdiv 50) 0 with hn | hn
    ·exact weighN_ev 11 x.v _ (by omega) hn (by omega)
    ·exact weigh_ev 12 x.v _ (by omega) hn (by omega)
   repeat' (first | refine yz ?_ | refine yi (encPr x) hx ?_ | refine yp b144 q ?_ | refine yx ?_)
   refine go_stop ?_
   exact ⟨⟨i + 1, prS x le, by omega, by omega, by omega, ok⟩, by dsimp only; omega, (zle 0)⟩
 ·have g1 : decide ((i : Int) < ((l.map encPr).length : Int)) = false := by rw [hle]; simp; omega
  rw [List.drop_eq_nil_of_le hge] at ok
  simp only [iterL] at ok
  rw [← ok]
  repeat' (first | refine yz ?_ | refine yx ?_ | exact zD)
theorem iterL_ge {α : Type} (f : α → Int → Int) (B : Int) : ∀ (l : List α), (∀ x ∈ l, ∀ left, 0 ≤ left → B ≤ f x left) → ∀ (left : Int), B ≤ left → B ≤ iterL f l left
 | [], _, left, hl => hl
 | x :: r, h, left, hl => by
  simp only [iterL]
  cases hd : decide (left ≥ 0) with
  | false => exact hl
  | true => exact iterL_ge f B r (fun y hy => h y (by simp [hy])) _ (h x (by simp) left (of_decide_eq_true hd))
def labS (s : ByteArray) (left : Int) : Int := left - (s.size : Int).tdiv 50
def ndS (n : Nd) (left : Int) : Int := iterL labS n.labels (iterL prS n.props (left - n.labels.length))
def edS (e : Ed) (left : Int) : Int := iterL prS e.props (left - (e.ty.size : Int).tdiv 50)
def smG (g : Gr) (a b : Int) : Bool := !(decide ((g.nodes.length : Int) > a) || decide ((g.edges.length : Int) > b)) && decide (iterL edS g.edges (iterL ndS g.nodes 2000) ≥ 0)
theorem labS_le (s : ByteArray) (left : Int) : labS s left ≤ left := by
 unfold labS
 have := (tdiv_bnd (a := (s.size : Int)) (b := 50) (by omega)).1 (by omega)
 omega
theorem iprS_le (l : List Pr) (left : Int) : iterL prS l left ≤ left := iterL_le prS (fun x left _ => by have := prS_lt x left; omega) l left
theorem ndS_le (n : Nd) (left : Int) : ndS n left ≤ left := by
 unfold ndS
 have h1 := iterL_le labS (fun s left _ => labS_le s left) n.labels (iterL prS n.props (left - n.labels.length))
 have h2 := iprS_le n.props (left - n.labels.length)
 omega
theorem edS_le (e : Ed) (left : Int) : edS e left ≤ left := by
 unfold edS
 have h2 := iprS_le e.props (left - (e.ty.size : Int).tdiv 50)
 have := (tdiv_bnd (a := (e.ty.size : Int)) (b := 50) (by omega)).1 (by omega)
 omega
set_option maxHeartbeats 1000000 in
theorem smallG_ev (g : Gr) (a b : Int) : Ev E 20 [encGr g, .int a, .int b] (.d (.bool (smG g a b))) := Ev.fit fun hfit => by
 obtain ⟨hf1, hf2⟩ := fit_gr (hfit (encGr g) (by simp))
 obtain ⟨hn1, hn2⟩ := fit_map hf1
 obtain ⟨he1, he2⟩ := fit_map hf2
 have l1 : (g.nodes.map encNd).length = g.nodes.length := by simp
 have l2 : (g.edges.map encEd).length = g.edges.length := by simp
 unfold smG
 cases h1 : decide ((g.nodes.length : Int) > a) with
 | true =>
  have g1 : decide (((g.nodes.map encNd).length : Int) > a) = true := by rw [l1]; exact h1
  refine ye3 func20 ntmps20 fun _ _ _=>?_
  repeat' (first | refine yz ?_ | refine yx ?_ | exact zD)
 | false =>
 have g1 : decide (((g.nodes.map encNd).length : Int) > a) = false := by rw [l1]; exact h1
 cases h2 : decide ((g.edges.length : Int) > b) with
 | true =>
  have g2 : decide (((g.edges.map encEd).length : Int) > b) = true := by rw [l2]; exact h2
  refine ye3 func20 ntmps20 fun _ _ _=>?_
  repeat' (first | refine yz ?_ | refine yx ?_ | exact zD)
 | false =>
 have g2 : decide (((g.edges.map encEd).length : Int) > b) = false := by rw [l2]; exact h2
 generalize hR1 : iterL ndS g.nodes 2000 = R1
 have hR1le : R1 ≤ 2000 := by rw [← hR1]; exact iterL_le ndS (fun n left _ => ndS_le n left) _ _
 have ndge : ∀ n ∈ g.nodes, ∀ left : Int, 0 ≤ left → -9223372036854775807 ≤ left - n.labels.length ∧ -9223372036854775807 ≤ iterL prS n.props (left - n.labels.length) := fun n hn left h0 => by
  have hf := (hn2 n hn).aggs
  have hlb := ((hf (.sl (n.labels.map .str)) (by simp)).sls).1
  rw [List.length_map] at hlb
  obtain ⟨-, hpr⟩ := fit_map (hf (.sl (n.props.map encPr)) (by simp))
  have hb : -9223372036854775807 ≤ left - n.labels.length := by omega
  exact ⟨hb, iterL_ge prS _ n.props (fun x hx left h => by have := prS_ge (hpr x hx) h; omega) _ hb⟩
 have labge : ∀ n ∈ g.nodes, ∀ s ∈ n.labels, ∀ left : Int, 0 ≤ left → -9223372036854775807 ≤ labS s left := fun n hn s hs left h0 => by
  have hf := (hn2 n hn).aggs
  have := size_div ((hf (.sl (n.labels.map .str)) (by simp)).sls.2 (.str s) (List.mem_map_of_mem hs)).str
  unfold labS
  omega
 have edge : ∀ e ∈ g.edges, ∀ left : Int, 0 ≤ left → -9223372036854775807 ≤ left - (e.ty.size : Int).tdiv 50 ∧ -9223372036854775807 ≤ edS e left := fun e he left h0 => by
  have hf := (he2 e he).aggs
  have hs := size_div ((hf (.str e.ty) (by simp)).str)
  obtain ⟨-, hpr⟩ := fit_map (hf (.sl (e.props.map encPr)) (by simp))
  exact ⟨by omega, iterL_ge prS _ e.props (fun x hx left h => by have := prS_ge (hpr x hx) h; omega) _ (by omega)⟩
 refine ye3 func20 ntmps20 fun _ _ _=>?_
 repeat' (first | refine yz ?_ | refine yx ?_)
 refine go_loop_ (α := SIt ndS g.nodes R1) (fun p => ⟨[(3, .ptr 0 0), (7, .d (.int p.left)), (8, .d (.int p.i))], [.var 38 (.w (.d (encGr g)))]⟩) (fun p => g.nodes.length - p.i) ⟨0, 2000, by omega, by omega, by omega, hR1⟩ (zle 1) ?_
 rintro ⟨i, le, hi, hl, hu, ok⟩
 dsimp only
 have fin : ∀ le : Int, -9223372036854775807 ≤ le → R1 = le → ∀ le2 : Int, le2 = le → True := fun _ _ _ _ _ => trivial
 clear fin
 by_cases hgo : i < g.nodes.length ∧ 0 ≤ le
 ·obtain ⟨hlt, h0⟩ := hgo
  have g3 : decide ((i : Int) < ((g.nodes.map encNd).length : Int)) = true := by rw [l1]; simpa using hlt
  have g4 := yT (le ≥ 0) h0
  have hx0 := List.getElem?_eq_getElem hlt
  generalize g.nodes[i] = n at hx0
  have hx : (g.nodes.map encNd)[(i : Int).toNat]? = some (encNd n) := map_at hx0
  have hmem := List.mem_of_getElem? hx0
  rw [drop_at hx0] at ok
  simp only [iterL] at ok
  rw [g4, cond_true] at ok
  obtain ⟨b1, b2⟩ := ndge n hmem le h0
  have hll : (n.labels.map D.str).length = n.labels.length := by simp
  have hlmx := (((hn2 n hmem).aggs (.sl (n.labels.map .str)) (by simp)).sls).1
  rw [List.length_map] at hlmx
  have q := wprops_ev n.props (le - n.labels.length) b1 (by omega)
  rw [← hll] at q b1
  have hple := iprS_le n.props (le - n.labels.length)
  generalize hR2 : ndS n le = R2 at ok
  unfold ndS at hR2
  rw [← hll] at hR2 b2 hple
  generalize iterL prS n.props (le - (n.labels.map D.str).length) = m at q hR2 b2 hple
  have hR2le : R2 ≤ 2000 := by rw [← hR2]; have := iterL_le labS (fun s left _ => labS_le s left) n.labels m; omega
  have hR2ge : -9223372036854775807 ≤ R2 := by rw [← hR2]; exact iterL_ge labS _ n.labels (fun s hs left h => labge n hmem s hs left h) _ b2
  repeat' (first | refine yz ?_ | refine yi (encNd n) hx ?_ | refine yp b55 q ?_ | refine yx ?_)
  refine go_loop_ (α := SIt labS n.labels R2) (fun p => ⟨[(3, .ptr 0 0), (7, .d (.int p.left)), (8, .d (.int i)), (9, .ptr 1 0), (10, .d (.int p.i))], [.var 38 (.w (.d (encGr g))), .var 104 (.w (.d (encNd n)))]⟩) (fun p => n.labels.length - p.i) ⟨0, m, by omega, b2, by omega, hR2⟩ (zle 2) ?_
  rintro ⟨k, lk2, hk, hl2, hu2, ok2⟩
  dsimp only
  by_cases hgo2 : k < n.labels.length ∧ 0 ≤ lk2
  ·obtain ⟨hklt, h02⟩ := hgo2
   have g5 : decide ((k : Int) < ((n.labels.map D.str).length : Int)) = true := by rw [hll]; simpa using hklt
   have g6 := yT (lk2 ≥ 0) h02
   have hs0 := List.getElem?_eq_getElem hklt
   generalize n.labels[k] = s at hs0
   have hsx : (n.labels.map D.str)[(k : Int).toNat]? = some (.str s) := map_at hs0
   rw [drop_at hs0] at ok2
   simp only [iterL] at ok2
   rw [g6, cond_true] at ok2
   have b3 := labge n hmem s (List.mem_of_getElem? hs0) lk2 h02
   have b4 := labS_le s lk2
   have hss : s.size ≤ 9223372036854775807 := (((hn2 n hmem).aggs (.sl (n.labels.map .str)) (by simp)).sls.2 (.str s) (List.mem_map_of_mem (List.mem_of_getElem? hs0))).str
   unfold labS at b3 b4 ok2
   repeat' (first | refine yz ?_ | refine yi (.str s) hsx ?_ | refine yx ?_)
   refine go_stop ?_
   exact ⟨⟨k + 1, lk2 - (s.size : Int).tdiv 50, by omega, b3, by omega, ok2⟩, by dsimp only; omega, (zle 2)⟩
  ·have hend : lk2 = R2 := by
    rcases Nat.lt_or_ge k n.labels.length with h | h
    ·rw [iterL_neg _ _ _ (by omega)] at ok2
     exact ok2
    ·rw [List.drop_eq_nil_of_le h] at ok2
     exact ok2
   have stop : ∀ (x : Int), x = R2 → -9223372036854775807 ≤ x := fun x e => by rw [e]; exact hR2ge
   cases g5 : decide ((k : Int) < ((n.labels.map D.str).length : Int)) with
   | false =>
    repeat' (first | refine yz ?_ | refine yx ?_)
    refine go_stop ?_
    exact ⟨⟨i + 1, lk2, by omega, by omega, by omega, by rw [hend]; exact ok⟩, by dsimp only; omega, (zle 1)⟩
   | true =>
    have hkl : k < n.labels.length := by have := of_decide_eq_true g5; rw [hll] at this; omega
    have g6 := yF (lk2 ≥ 0) (by omega)
    repeat' (first | refine yz ?_ | refine yx ?_)
    refine go_stop ?_
    exact ⟨⟨i + 1, lk2, by omega, by omega, by omega, by rw [hend]; exact ok⟩, by dsimp only; omega, (zle 1)⟩
 ·have hend : le = R1 := by
   rcases Nat.lt_or_ge i g.nodes.length with h | h
   ·rw [iterL_neg _ _ _ (by omega)] at ok
    exact ok
   ·rw [List.drop_eq_nil_of_le h] at ok
    exact ok
  subst hend
  generalize hR2 : iterL edS g.edges le = R2
  cases g3 : decide ((i : Int) < ((g.nodes.map encNd).length : Int))
  case' false =>
   repeat' (first | refine yz ?_ | refine yx ?_)
  case' true =>
   have g4 := yF (le ≥ 0) (by have := of_decide_eq_true g3; rw [l1] at this; omega)
   repeat' (first | refine yz ?_ | refine yx ?_)
  all_goals
   refine go_loop_ (α := SIt edS g.edges R2) (fun p => ⟨[(3, .ptr 0 0), (7, .d (.int p.left)), (11, .d (.int p.i))], [.var 38 (.w (.d (encGr g)))]⟩) (fun p => g.edges.length - p.i) ⟨0, le, by omega, by omega, by omega, hR2⟩ (zle 1) ?_
   rintro ⟨j, l3, hj, hl3, hu3, ok3⟩
   dsimp only
   by_cases hgo2 : j < g.edges.length ∧ 0 ≤ l3
   ·obtain ⟨hjlt, h03⟩ := hgo2
    have g5 : decide ((j : Int) < ((g.edges.map encEd).length : Int)) = true := by rw [l2]; simpa using hjlt
    have g6 := yT (l3 ≥ 0) h03
    have hx0 := List.getElem?_eq_getElem hjlt
    generalize g.edges[j] = e at hx0
    have hx : (g.edges.map encEd)[(j : Int).toNat]? = some (encEd e) := map_at hx0
    have hmem := List.mem_of_getElem? hx0
    rw [drop_at hx0] at ok3
    simp only [iterL] at ok3
    rw [g6, cond_true] at ok3
    obtain ⟨b1, b2⟩ := edge e hmem l3 h03
    have b3 := edS_le e l3
    have hs := size_div ((((he2 e hmem).aggs) (.str e.ty) (by simp)).str)
    have q : Ev E 55 [.sl (e.props.map encPr), .int (l3 - (e.ty.size : Int).tdiv 50)] (.d (.int (edS e l3))) := wprops_ev e.props _ b1 (by omega)
    repeat' (first | refine yz ?_ | refine yi (encEd e) hx ?_ | refine yp b55 q ?_ | refine yx ?_)
    refine go_stop ?_
    exact ⟨⟨j + 1, edS e l3, by omega, b2, by omega, ok3⟩, by dsimp only; omega, (zle 1)⟩
   ·have hend2 : l3 = R2 := by
     rcases Nat.lt_or_ge j g.edges.length with h | h
     ·rw [iterL_neg _ _ _ (by omega)] at ok3
      exact ok3
     ·rw [List.drop_eq_nil_of_le h] at ok3
      exact ok3
    subst hend2
    cases g5 : decide ((j : Int) < ((g.edges.map encEd).length : Int)) with
    | false =>
     repeat' (first | refine yz ?_ | refine yx ?_ | exact zD)
    | true =>
     have g6 := yF (l3 ≥ 0) (by have := of_decide_eq_true g5; rw [l2] at this; omega)
     repeat' (first | refine yz ?_ | refine yx ?_ | exact zD)
end Go.Proofs.YtenpjlghikohmaaGreatDoor
