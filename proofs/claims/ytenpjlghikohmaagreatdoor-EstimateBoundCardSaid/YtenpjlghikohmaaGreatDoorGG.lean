/- Graphs and bindings as data, and the reference's look-ups in them; Membership in lists of names, by the library; Copies of lists of names and of properties, by the library; Copies of values and of properties, and the look-up of nodes, edges and properties, by the program; The reference's test of small graphs, and what it grants; The reference's test of small graphs as a whole, and what it grants. Conditions: each part's own, as it says. -/
import Derived.Test.YtenpjlghikohmaaGreatDoorMA
import Derived.Test.YtenpjlghikohmaaGreatDoorGB
import Derived.Test.YtenpjlghikohmaaGreatDoorMB
import Derived.Test.YtenpjlghikohmaaGreatDoorGC
set_option linter.unusedVariables false
set_option linter.unusedSimpArgs false
namespace Go.Proofs.YtenpjlghikohmaaGreatDoor
set_option maxRecDepth 4000
open Go Go.Abs Go.Val Go.Proofs.Tryz
attribute [local irreducible] go SGo HasBody Ev ExtEv EvO EvS
structure Pr where
 key : ByteArray
 v : V
structure Nd where
 id : Int
 labels : List ByteArray
 props : List Pr
structure Ed where
 id : Int
 src : Int
 dst : Int
 ty : ByteArray
 props : List Pr
structure Gr where
 nodes : List Nd
 edges : List Ed
 nn : Int
 ne : Int
def encPr (p : Pr) : D := .agg [.str p.key, .int p.v.k, .int p.v.n, .int p.v.d, .str p.v.s, .sl (kids p.v)]
def encNd (n : Nd) : D := .agg [.int n.id, .sl (n.labels.map .str), .sl (n.props.map encPr)]
def encEd (e : Ed) : D := .agg [.int e.id, .int e.src, .int e.dst, .str e.ty, .sl (e.props.map encPr)]
def encGr (g : Gr) : D := .agg [.sl (g.nodes.map encNd), .sl (g.edges.map encEd), .int g.nn, .int g.ne]
theorem map_at {α β : Type} {l : List α} {f : α → β} {i : Nat} {x : α} (h : l[i]? = some x) : (l.map f)[(i : Int).toNat]? = some (f x) := by
 rw [Int.toNat_natCast, List.getElem?_map, h]; rfl
theorem fit_map {α : Type} {l : List α} {f : α → D} (h : Fit (.sl (l.map f))) : l.length ≤ 9223372036854775807 ∧ ∀ x ∈ l, Fit (f x) := by
 have h5 := h.sls
 rw [List.length_map] at h5
 exact ⟨h5.1, fun x hx => h5.2 _ (List.mem_map_of_mem hx)⟩
theorem fit_gr {g : Gr} (h : Fit (encGr g)) : Fit (.sl (g.nodes.map encNd)) ∧ Fit (.sl (g.edges.map encEd)) :=
 ⟨h.aggs _ (by simp), h.aggs _ (by simp)⟩
structure SFd {α : Type} (l : List α) (f : α → Bool) where
 i : Nat
 hi : i ≤ l.length
 ok : l.find? f = (l.drop i).find? f
theorem find_at {α : Type} {l : List α} {f : α → Bool} {i : Nat} {x : α} (h : l[i]? = some x) : (l.drop i).find? f = bif f x then some x else (l.drop (i + 1)).find? f := by
 rw [drop_at h, List.find?_cons]
 cases f x <;> rfl
def nd0 : Nd := ⟨0, [], []⟩
def findN (l : List Nd) (id : Int) : Option Nd := l.find? fun n => n.id == id
def findP (l : List Pr) (k : ByteArray) : V := match l.find? fun p => p.key.toList == k.toList with | some p => p.v | none => vNull
def hasF (l : List ByteArray) (s : ByteArray) : Bool := l.any fun x => x.toList == s.toList
def idxF (s : ByteArray) : List ByteArray → Nat → Int
 | [], _ => -1
 | x :: r, i => bif s.toList == x.toList then (i : Int) else idxF s r (i + 1)
theorem idxF_ge (s : ByteArray) : ∀ (l : List ByteArray) (i : Nat), decide (idxF s l i ≥ 0) = hasF l s
 | [], i => rfl
 | x :: r, i => by
  rw [idxF, hasF, List.any_cons]
  have hc : (x.toList == s.toList) = (s.toList == x.toList) := by
   rw [Bool.eq_iff_iff, beq_iff_eq, beq_iff_eq]; exact ⟨fun h => h.symm, fun h => h.symm⟩
  rw [hc]
  cases s.toList == x.toList with
  | true => simp
  | false => rw [cond_false, Bool.false_or]; exact idxF_ge s r (i + 1)
theorem idxF_at {l : List ByteArray} {s x : ByteArray} {i : Nat} (h : l[i]? = some x) : idxF s (l.drop i) i = bif s.toList == x.toList then (i : Int) else idxF s (l.drop (i + 1)) (i + 1) := by
 rw [drop_at h]; rfl
structure SIx (l : List ByteArray) (s : ByteArray) where
 i : Nat
 hi : i ≤ l.length
 ok : idxF s l 0 = idxF s (l.drop i) i
theorem sindex_ev (l : List ByteArray) (s : ByteArray) : Ev E 180 [.sl (l.map .str), .str s] (.d (.int (idxF s l 0))) := Ev.fit fun hfit => by
 obtain ⟨hmax, -⟩ := fit_map (l := l) (f := D.str) (hfit _ (by simp))
 have hle : (l.map D.str).length = l.length := by simp
 refine ye2 func180 ntmps180 fun _ _ _=>?_
 repeat' (refine yz ?_)
 refine go_loop_ (α := SIx l s) (fun p => ⟨[(0, .d (.sl (l.map .str))), (1, .d (.str s)), (6, .d (.sl (l.map .str))), (7, .d (.int (l.map D.str).length)), (8, .d (.int p.i))], []⟩) (fun p => l.length - p.i) ⟨0, by omega, rfl⟩ (zle 0) ?_
 rintro ⟨i, hi, ok⟩
 dsimp only
 rcases Nat.lt_or_ge i l.length with hlt | hge
 ·have g1 : decide ((i : Int) < ((l.map D.str).length : Int)) = true := by rw [hle]; simpa using hlt
  have hx0 := List.getElem?_eq_getElem hlt
  generalize l[i] = x at hx0
  have hx := map_at (f := D.str) hx0
  rw [ok, idxF_at hx0]
  cases hc : s.toList == x.toList with
  | true =>
   repeat' (first | refine yz ?_ | refine yi (.str x) hx ?_ | exact zD)
  | false =>
   repeat' (first | refine yz ?_ | refine yi (.str x) hx ?_)
   refine go_stop ?_
   exact ⟨⟨i + 1, by omega, by rw [ok, idxF_at hx0, hc]; rfl⟩, by dsimp only; omega, (zle 0)⟩
 ·have g1 : decide ((i : Int) < ((l.map D.str).length : Int)) = false := by rw [hle]; simp; omega
  rw [ok, List.drop_eq_nil_of_le hge]
  repeat' (first | refine yz ?_ | exact zD)
theorem scontains_ev (l : List ByteArray) (s : ByteArray) : Ev E 124 [.sl (l.map .str), .str s] (.d (.bool (hasF l s))) := by
 have h := sindex_ev l s
 rw [← idxF_ge s l 0]
 refine ye2 func124 ntmps124 fun _ _ _=>?_
 repeat' (first | refine yz ?_ | refine yp b180 h ?_ | exact zD)
theorem hasLabel_ev (n : Nd) (s : ByteArray) : Ev E 43 [encNd n, .str s] (.d (.bool (hasF n.labels s))) := by
 have h := scontains_ev n.labels s
 refine ye2 func43 ntmps43 fun _ _ _=>?_
 repeat' (first | refine yz ?_ | refine yp b124 h ?_ | exact zD)
open Go.RowKit
attribute [local irreducible] RGo
theorem set_same {α : Type} {l : List α} {i : Nat} {x : α} (h : l[i]? = some x) : l.set i x = l := by
 refine List.ext_getElem? fun j => ?_
 rw [List.getElem?_set]
 split
 ·rename_i hij
  subst hij
  rw [if_pos (List.getElem?_eq_some_iff.1 h).1, h]
 ·rfl
theorem cloneValue_ev (v : V) : nar v = true → Ev E 238 [enc v] (.d (enc v)) := by
 refine vind (P := fun v => nar v = true → Ev E 238 [enc v] (.d (enc v))) (fun k n d s l ih hn => ?_) v
 obtain ⟨hl, hm⟩ := nar_l hn
 simp only [V.l] at hl hm
 show Ev E 238 [.agg [.int k, .int n, .int d, .str s, .sl (encL l)]] (.d (.agg [.int k, .int n, .int d, .str s, .sl (encL l)]))
 have hle : (encL l).length = l.length := encL_len _
 by_cases h0 : l = []
 ·subst h0
  show Ev E 238 [.agg [.int k, .int n, .int d, .str s, .sl []]] (.d (.agg [.int k, .int n, .int d, .str s, .sl []]))
  refine ye1 func238 ntmps238 fun _ _ _=>?_
  repeat' (first | refine yz ?_ | refine yp b314 clone0_ev ?_ | refine yx ?_ | (refine yy ?_ ?_ <;> intro _) | exact zD | exact zL)
  refine go_loop_ (α := Unit) (fun _ => ⟨[(1, .ptr 0 0), (2, .ptr 1 0), (10, .d (.int 0)), (11, .d (.int 0))], [.var 56 (.cs [.d (.int k), .d (.int n), .d (.int d), .d (.str s), .d (.sl [])]), .var 56 (.cs [.d (.int 0), .d (.int 0), .d (.int 0), .d (.str ⟨#[]⟩), .nilS])]⟩) (fun _ => 0) () (zle 2) ?_
  rintro -
  have g1 : decide ((0 : Int) < 0) = false := rfl
  repeat' (first | refine yz ?_ | refine yx ?_ | (refine yy ?_ ?_ <;> intro _) | exact zD | exact zL)
 ·have hc := clone_ev l h0 hl
  refine ye1 func238 ntmps238 fun _ _ _=>?_
  repeat' (first | refine yz ?_ | refine go_callO rfl rfl rfl rfl rfl rfl b314 (hc) ?_ | refine yx ?_ | (refine yy ?_ ?_ <;> intro _) | exact zD | exact zL)
  refine go_loop_ (α := Fin (l.length + 1)) (fun p => ⟨[(1, .ptr 0 0), (2, .ptr 1 0), (10, .d (.int (encL l).length)), (11, .d (.int p.val))], [.var 56 (.cs [.d (.int k), .d (.int n), .d (.int d), .d (.str s), .own 2]), .var 56 (.cs [.d (.int 0), .d (.int 0), .d (.int 0), .d (.str ⟨#[]⟩), .nilS]), .row 56 5 (encL l)]⟩) (fun p => l.length - p.val) ⟨0, by omega⟩ (zle 3) ?_
  rintro ⟨i, hi⟩
  dsimp only
  rcases Nat.lt_or_ge i l.length with hlt | hge
  ·have g1 : decide ((i : Int) < ((encL l).length : Int)) = true := by rw [hle]; simpa using hlt
   have hx0 := List.getElem?_eq_getElem hlt
   generalize l[i] = x at hx0
   have hx : (encL l)[(i : Int).toNat]? = some (enc x) := encL_get (by rw [Int.toNat_natCast]; exact hx0)
   have hmem := List.mem_of_getElem? hx0
   have hcx := ih x hmem (narL_mem hm x hmem)
   have hset : (encL l).set (i : Int).toNat (subD (enc x) 0 (enc x)) = encL l := set_same hx
   repeat' (first | refine yq 5 [10] ?_ | refine yf 5 0 10 ?_ | refine yw ?_ | refine rgN ?_ | refine yv ?_ | refine yz ?_ | refine qW (enc x) rfl rfl rfl rfl rfl rfl hx rfl ?_ | refine yp b238 hcx ?_ | refine yx ?_ | (refine yy ?_ ?_ <;> intro _) | exact zD | exact zL)
   refine go_stop ?_
   refine ⟨⟨i + 1, by omega⟩, by dsimp only; omega, ?_⟩
   show Le _ ⟨_, [_, _, .row 56 5 ((encL l).set (i : Int).toNat (subD (enc x) 0 (enc x)))]⟩ _
   rw [hset]
   exact (zle 3)
  ·have g1 : decide ((i : Int) < ((encL l).length : Int)) = false := by rw [hle]; simp; omega
   repeat' (first | refine yz ?_ | refine yx ?_ | (refine yy ?_ ?_ <;> intro _) | exact zD | exact zL)
   refine go_frzS 2 rfl ?_
   repeat' (first | refine yz ?_ | refine yx ?_ | (refine yy ?_ ?_ <;> intro _) | exact zD | exact zL)
def narP (l : List Pr) : Prop := l.length ≤ 2000000 ∧ ∀ p ∈ l, nar p.v = true
theorem gprop_ev (l : List Pr) (key : ByteArray) (hn : narP l) : Ev E 153 [.sl (l.map encPr), .str key] (.d (enc (findP l key))) := by
 have hle : (l.map encPr).length = l.length := by simp
 have hmax := hn.1
 unfold findP
 refine ye2 func153 ntmps153 fun _ _ _=>?_
 repeat' (first | refine yz ?_ | refine yx ?_ | (refine yy ?_ ?_ <;> intro _) | exact zD | exact zL)
 refine go_loop_ (α := SFd l fun p => p.key.toList == key.toList) (fun p => ⟨[(1, .d (.str key)), (4, .ptr 0 0), (7, .d (.sl (l.map encPr))), (8, .d (.int (l.map encPr).length)), (9, .d (.int p.i))], [.var 56 (.cs [.d (.int 0), .d (.int 0), .d (.int 0), .d (.str ⟨#[]⟩), .nilS])]⟩) (fun p => l.length - p.i) ⟨0, by omega, rfl⟩ (zle 1) ?_
 rintro ⟨i, hi, ok⟩
 dsimp only
 rcases Nat.lt_or_ge i l.length with hlt | hge
 ·have g1 : decide ((i : Int) < ((l.map encPr).length : Int)) = true := by rw [hle]; simpa using hlt
  have hx0 := List.getElem?_eq_getElem hlt
  generalize l[i] = x at hx0
  have hx := map_at (f := encPr) hx0
  have hcx := cloneValue_ev x.v (hn.2 x (List.mem_of_getElem? hx0))
  rw [ok, find_at hx0]
  cases hc : x.key.toList == key.toList with
  | true =>
   repeat' (first | refine yz ?_ | refine yi (encPr x) hx ?_ | refine yp b238 hcx ?_ | refine yx ?_ | (refine yy ?_ ?_ <;> intro _) | exact zD | exact zL)
  | false =>
   repeat' (first | refine yz ?_ | refine yi (encPr x) hx ?_ | refine yx ?_ | (refine yy ?_ ?_ <;> intro _) | exact zD | exact zL)
   refine go_stop ?_
   exact ⟨⟨i + 1, by omega, by rw [ok, find_at hx0, hc]; rfl⟩, by dsimp only; omega, (zle 1)⟩
 ·have g1 : decide ((i : Int) < ((l.map encPr).length : Int)) = false := by rw [hle]; simp; omega
  rw [ok, List.drop_eq_nil_of_le hge]
  repeat' (first | refine yz ?_ | refine yp b239 null_ev ?_ | refine yx ?_ | (refine yy ?_ ?_ <;> intro _) | exact zD | exact zL)
end Go.Proofs.YtenpjlghikohmaaGreatDoor
