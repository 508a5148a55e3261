/- Graphs and bindings as data, and the reference's look-ups in them; Membership in lists of names, by the library; Copies of lists of names and of properties, by the library; Copies of values and of properties, and the look-up of nodes, edges and properties, by the program; The reference's test of small graphs, and what it grants; The reference's test of small graphs as a whole, and what it grants. Conditions: each part's own, as it says. -/
import Derived.Test.YtenpjlghikohmaaGreatDoorMA
import Derived.Test.YtenpjlghikohmaaGreatDoorGB
import Derived.Test.YtenpjlghikohmaaGreatDoorMB
import Derived.Test.YtenpjlghikohmaaGreatDoorGC
set_option linter.unusedVariables false
set_option linter.unusedSimpArgs false
namespace Go.Proofs.YtenpjlghikohmaaGreatDoor
set_option maxRecDepth 4000
open Go Go.Abs Go.Val Go.Proofs.Tryz
attribute [local irreducible] go SGo an2 Ev aw2 EvO EvS
structure Pr where
 key : ByteArray
 v : V
structure Nd where
 id : Int
 labels : List ByteArray
 props : List Pr
structure Ed where
 id : Int
 src : Int
 dst : Int
 ty : ByteArray
 props : List Pr
structure Gr where
 nodes : List Nd
 edges : List Ed
 nn : Int
 ne : Int
def cx9 (p : Pr) : D := .agg [.str p.key, .int p.v.k, .int p.v.n, .int p.v.d, .str p.v.s, .sl (br4 p.v)]
def cy0 (n : Nd) : D := .agg [.int n.id, .sl (n.labels.map .str), .sl (n.props.map cx9)]
def cy1 (e : Ed) : D := .agg [.int e.id, .int e.src, .int e.dst, .str e.ty, .sl (e.props.map cx9)]
def cy2 (g : Gr) : D := .agg [.sl (g.nodes.map cy0), .sl (g.edges.map cy1), .int g.nn, .int g.ne]
theorem cy3 {α β : Type} {l : List α} {f : α → β} {i : Nat} {x : α} (h : l[i]? = some x) : (l.map f)[(i : Int).toNat]? = some (f x) := by
 rw [fb4, ez8, h]; rfl
theorem cy4 {α : Type} {l : List α} {f : α → D} (h : Fit (.sl (l.map f))) : l.length ≤ 9223372036854775807 ∧ ∀ x ∈ l, Fit (f x) := by
 have h5 := h.sls;rw [fb8] at h5;exact ⟨h5.1, fun x hx => h5.2 _ (fh0 hx)⟩
theorem cy5 {g : Gr} (h : Fit (cy2 g)) : Fit (.sl (g.nodes.map cy0)) ∧ Fit (.sl (g.edges.map cy1)) :=
 ⟨h.aggs _ (by simp), h.aggs _ (by simp)⟩
structure SFd {α : Type} (l : List α) (f : α → Bool) where
 i : Nat
 hi : i ≤ l.length
 ok : l.find? f = (l.drop i).find? f
theorem cy6 {α : Type} {l : List α} {f : α → Bool} {i : Nat} {x : α} (h : l[i]? = some x) : (l.drop i).find? f = bif f x then some x else (l.drop (i + 1)).find? f := by
 rw [bz2 h, List.find?_cons]
 cases f x <;> rfl
def nd0 : Nd := ⟨0, [], []⟩
def cy7 (l : List Pr) (k : ByteArray) : V := match l.find? fun p => p.key.toList == k.toList with | some p => p.v | none => bs8
def cy8 (l : List ByteArray) (s : ByteArray) : Bool := l.any fun x => x.toList == s.toList
def cy9 (s : ByteArray) : List ByteArray → Nat → Int
 | [], _ => -1
 | x :: r, i => bif s.toList == x.toList then (i : Int) else cy9 s r (i + 1)
theorem cz0 (s : ByteArray) : ∀ (l : List ByteArray) (i : Nat), decide (cy9 s l i ≥ 0) = cy8 l s
 | [], i => rfl
 | x :: r, i => by
  rw [cy9, cy8, fe6]
  have hc : (x.toList == s.toList) = (s.toList == x.toList) := by
   rw [ff6, beq_iff_eq, beq_iff_eq]; exact ⟨fun h => h.symm, fun h => h.symm⟩
  rw [hc]
  cases s.toList == x.toList with
  | true => simp
  | false => rw [cond_false, fe2]; exact cz0 s r (i + 1)
theorem cz1 {l : List ByteArray} {s x : ByteArray} {i : Nat} (h : l[i]? = some x) : cy9 s (l.drop i) i = bif s.toList == x.toList then (i : Int) else cy9 s (l.drop (i + 1)) (i + 1) := by
 rw [bz2 h]; rfl
structure SIx (l : List ByteArray) (s : ByteArray) where
 i : Nat
 hi : i ≤ l.length
 ok : cy9 s l 0 = cy9 s (l.drop i) i
theorem cz2 (l : List ByteArray) (s : ByteArray) : Ev E 180 [.sl (l.map .str), .str s] (.d (.int (cy9 s l 0))) := Ev.fit fun hfit => by
 obtain ⟨hmax, -⟩ := cy4 (l := l) (f := D.str) (hfit _ (by simp));have hle : (l.map D.str).length = l.length := by simp
 refine ye2 func180 ntmps180 fun _ _ _=>?_
 repeat' (refine yz ?_)
 refine ac7 (α := SIx l s) (fun p => ⟨[(0, .d (.sl (l.map .str))), (1, .d (.str s)), (6, .d (.sl (l.map .str))), (7, .d (.int (l.map D.str).length)), (8, .d (.int p.i))], []⟩) (fun p => l.length - p.i) ⟨0, by omega, rfl⟩ (zle 0) ?_;rintro ⟨i, hi, ok⟩;dsimp only;rcases ez6 i l.length with hlt | hge
 ·have g1 : decide ((i : Int) < ((l.map D.str).length : Int)) = true := by rw [hle]; simpa using hlt
  have hx0 := ez5 hlt;generalize l[i] = x at hx0;have hx := cy3 (f := D.str) hx0;rw [ok, cz1 hx0]
  cases hc : s.toList == x.toList with
  | true =>
   repeat' (first | refine yz ?_ | refine yi (.str x) hx ?_ | exact zD)
  | false =>
   repeat' (first | refine yz ?_ | refine yi (.str x) hx ?_)
   refine ac1 ?_;exact ⟨⟨i + 1, by omega, by rw [ok, cz1 hx0, hc]; rfl⟩, by dsimp only; omega, (zle 0)⟩
 ·have g1 : decide ((i : Int) < ((l.map D.str).length : Int)) = false := by rw [hle]; simp; omega
  rw [ok, fa1 hge]
  repeat' (first | refine yz ?_ | exact zD)
theorem cz3 (l : List ByteArray) (s : ByteArray) : Ev E 124 [.sl (l.map .str), .str s] (.d (.bool (cy8 l s))) := by
 have h := cz2 l s;rw [← cz0 s l 0];refine ye2 func124 ntmps124 fun _ _ _=>?_
 repeat' (first | refine yz ?_ | refine yp bv3 h ?_ | exact zD)
theorem cz4 (n : Nd) (s : ByteArray) : Ev E 43 [cy0 n, .str s] (.d (.bool (cy8 n.labels s))) := by
 have h := cz3 n.labels s;refine ye2 func43 ntmps43 fun _ _ _=>?_
 repeat' (first | refine yz ?_ | refine yp b124 h ?_ | exact zD)
theorem cz5 : Ev E 104 [.sl []] (.d (.sl [])) := by
 refine ye1 func104 ntmps104 fun _ _ _=>?_
 repeat' (first | refine yz ?_ | (refine ay7 rfl (fun _ => ?_) ?_) | refine az4 rfl rfl rfl rfl rfl rfl rfl rfl ?_ | refine yx ?_ | (refine yy ?_ ?_ <;> intro _) | exact zD | exact zL)
theorem cz6 (l : List ByteArray) (h0 : l ≠ []) (hn : l.length ≤ 2000000) : EvO E 104 [.sl (l.map .str)] 9 1 (l.map .str) := by
 have hle : (l.map D.str).length = l.length := by simp
 have hne : l.map D.str ≠ [] := by simpa using h0
 have hc : ∀ d ∈ l.map D.str, d.cells.length = 1 := fun d hd => by
  obtain ⟨u, -, rfl⟩ := fc4.1 hd;rfl
 generalize l.map D.str = xs at *;refine az5 func104 ntmps104 rfl rfl fun w0 F0 O => ?_
 repeat' (first | refine az1 rfl rfl rfl rfl rfl rfl rfl (by decide) (by decide) ?_ | refine yz ?_ | (refine ay7 rfl (fun h => absurd h hne) ?_) | refine yx ?_ | (refine yy ?_ ?_ <;> intro _) | exact zD | exact zL)
 refine qS rfl ⟨hne, hc, by (show (0 + xs.length) * 16 ≤ 140737488355328; omega), by (show 0 + xs.length ≤ 9223372036854775807; omega)⟩ ?_
 repeat' (first | refine yz ?_ | refine yx ?_ | (refine yy ?_ ?_ <;> intro _) | exact zD | exact zL)
theorem cz7 (l : List ByteArray) (hn : l.length ≤ 2000000) : Ev E 104 [.sl (l.map .str)] (.d (.sl (l.map .str))) := by
 by_cases h0 : l = []
 ·subst h0; exact cz5
 ·exact (cz6 l h0 hn).ev
open Go.RowKit
attribute [local irreducible] RGo
theorem cz8 {α : Type} {l : List α} {i : Nat} {x : α} (h : l[i]? = some x) : l.set i x = l := by
 refine ff4 fun j => ?_
 rw [fd2];split
 ·rename_i hij
  subst hij;rw [if_pos (ez7.1 h).1, h]
 ·rfl
theorem cz9 (v : V) : nar v = true → Ev E 238 [enc v] (.d (enc v)) := by
 refine cc2 (P := fun v => nar v = true → Ev E 238 [enc v] (.d (enc v))) (fun k n d s l ih hn => ?_) v;obtain ⟨hl, hm⟩ := nar_l hn;simp only [V.l] at hl hm;show Ev E 238 [.agg [.int k, .int n, .int d, .str s, .sl (br5 l)]] (.d (.agg [.int k, .int n, .int d, .str s, .sl (br5 l)]));have hle : (br5 l).length = l.length := bs1 _
 by_cases h0 : l = []
 ·subst h0;show Ev E 238 [.agg [.int k, .int n, .int d, .str s, .sl []]] (.d (.agg [.int k, .int n, .int d, .str s, .sl []]));refine ye1 func238 ntmps238 fun _ _ _=>?_
  repeat' (first | refine yz ?_ | refine yp b314 ck2 ?_ | refine yx ?_ | (refine yy ?_ ?_ <;> intro _) | exact zD | exact zL)
  refine ac7 (α := Unit) (fun _ => ⟨[(1, .ptr 0 0), (2, .ptr 1 0), (10, .d (.int 0)), (11, .d (.int 0))], [.var 56 (.cs [.d (.int k), .d (.int n), .d (.int d), .d (.str s), .d (.sl [])]), .var 56 (.cs [.d (.int 0), .d (.int 0), .d (.int 0), .d (.str ⟨#[]⟩), .nilS])]⟩) (fun _ => 0) () (zle 2) ?_;rintro -;have g1 : decide ((0 : Int) < 0) = false := rfl
  repeat' (first | refine yz ?_ | refine yx ?_ | (refine yy ?_ ?_ <;> intro _) | exact zD | exact zL)
 ·have hc := ck4 l h0 hl;refine ye1 func238 ntmps238 fun _ _ _=>?_
  repeat' (first | refine yz ?_ | refine az0 rfl rfl rfl rfl rfl rfl b314 (hc) ?_ | refine yx ?_ | (refine yy ?_ ?_ <;> intro _) | exact zD | exact zL)
  refine ac7 (α := Fin (l.length + 1)) (fun p => ⟨[(1, .ptr 0 0), (2, .ptr 1 0), (10, .d (.int (br5 l).length)), (11, .d (.int p.val))], [.var 56 (.cs [.d (.int k), .d (.int n), .d (.int d), .d (.str s), .own 2]), .var 56 (.cs [.d (.int 0), .d (.int 0), .d (.int 0), .d (.str ⟨#[]⟩), .nilS]), .row 56 5 (br5 l)]⟩) (fun p => l.length - p.val) ⟨0, by omega⟩ (zle 3) ?_;rintro ⟨i, hi⟩;dsimp only;rcases ez6 i l.length with hlt | hge
  ·have g1 : decide ((i : Int) < ((br5 l).length : Int)) = true := by rw [hle]; simpa using hlt
   have hx0 := ez5 hlt;generalize l[i] = x at hx0;have hx : (br5 l)[(i : Int).toNat]? = some (enc x) := br9 (by rw [fb4]; exact hx0);have hmem := ez9 hx0;have hcx := ih x hmem (ck1 hm x hmem);have hset : (br5 l).set (i : Int).toNat (ar1 (enc x) 0 (enc x)) = br5 l := cz8 hx
   repeat' (first | refine yq 5 [10] ?_ | refine yf 5 0 10 ?_ | refine yw ?_ | refine rgN ?_ | refine yv ?_ | refine yz ?_ | refine qW (enc x) rfl rfl rfl rfl rfl rfl hx rfl ?_ | refine yp b238 hcx ?_ | refine yx ?_ | (refine yy ?_ ?_ <;> intro _) | exact zD | exact zL)
   refine ac1 ?_;refine ⟨⟨i + 1, by omega⟩, by dsimp only; omega, ?_⟩;show Le _ ⟨_, [_, _, .row 56 5 ((br5 l).set (i : Int).toNat (ar1 (enc x) 0 (enc x)))]⟩ _;rw [hset];exact (zle 3)
  ·have g1 : decide ((i : Int) < ((br5 l).length : Int)) = false := by rw [hle]; simp; omega
   repeat' (first | refine yz ?_ | refine yx ?_ | (refine yy ?_ ?_ <;> intro _) | exact zD | exact zL)
   refine be7 2 rfl ?_
   repeat' (first | refine yz ?_ | refine yx ?_ | (refine yy ?_ ?_ <;> intro _) | exact zD | exact zL)
def da0 (l : List Pr) : Prop := l.length ≤ 2000000 ∧ ∀ p ∈ l, nar p.v = true
theorem da1 (l : List Pr) (key : ByteArray) (hn : da0 l) : Ev E 153 [.sl (l.map cx9), .str key] (.d (enc (cy7 l key))) := by
 have hle : (l.map cx9).length = l.length := by simp
 have hmax := hn.1;unfold cy7;refine ye2 func153 ntmps153 fun _ _ _=>?_
 repeat' (first | refine yz ?_ | refine yx ?_ | (refine yy ?_ ?_ <;> intro _) | exact zD | exact zL)
 refine ac7 (α := SFd l fun p => p.key.toList == key.toList) (fun p => ⟨[(1, .d (.str key)), (4, .ptr 0 0), (7, .d (.sl (l.map cx9))), (8, .d (.int (l.map cx9).length)), (9, .d (.int p.i))], [.var 56 (.cs [.d (.int 0), .d (.int 0), .d (.int 0), .d (.str ⟨#[]⟩), .nilS])]⟩) (fun p => l.length - p.i) ⟨0, by omega, rfl⟩ (zle 1) ?_;rintro ⟨i, hi, ok⟩;dsimp only;rcases ez6 i l.length with hlt | hge
 ·have g1 : decide ((i : Int) < ((l.map cx9).length : Int)) = true := by rw [hle]; simpa using hlt
  have hx0 := ez5 hlt;generalize l[i] = x at hx0;have hx := cy3 (f := cx9) hx0;have hcx := cz9 x.v (hn.2 x (ez9 hx0));rw [ok, cy6 hx0]
  cases hc : x.key.toList == key.toList with
  | true =>
   repeat' (first | refine yz ?_ | refine yi (cx9 x) hx ?_ | refine yp b238 hcx ?_ | refine yx ?_ | (refine yy ?_ ?_ <;> intro _) | exact zD | exact zL)
  | false =>
   repeat' (first | refine yz ?_ | refine yi (cx9 x) hx ?_ | refine yx ?_ | (refine yy ?_ ?_ <;> intro _) | exact zD | exact zL)
   refine ac1 ?_;exact ⟨⟨i + 1, by omega, by rw [ok, cy6 hx0, hc]; rfl⟩, by dsimp only; omega, (zle 1)⟩
 ·have g1 : decide ((i : Int) < ((l.map cx9).length : Int)) = false := by rw [hle]; simp; omega
  rw [ok, fa1 hge]
  repeat' (first | refine yz ?_ | refine yp b239 bx9 ?_ | refine yx ?_ | (refine yy ?_ ?_ <;> intro _) | exact zD | exact zL)
def narN (n : Nd) : Prop := n.labels.length ≤ 2000000 ∧ da0 n.props
theorem da2 (f : V → Int → Int) : ∀ (l : List V) (left : Int), left < 0 → cc3 f l left = left
 | [], left, h => rfl
 | x :: r, left, h => by simp only [cc3]; rw [decide_eq_false (by omega), cond_false]
theorem da3 (m : Nat) (v : V) (left : Int) (hm : m ≤ 1000) (h0 : left < 0) (h1 : -2000000000000000000 ≤ left) : Ev E 144 [enc v, .int left, .int ((m + 1 : Nat) : Int)] (.d (.int (cc4 (m + 1) v left))) := by
 refine Ev.fit fun hfit => ?_
 obtain ⟨-, -, -, hs, hmax, hk⟩ := bs2 (hfit (enc v) (by simp));have hd := cc8 hs;have hm1 : decide (((m + 1 : Nat) : Int) < 1) = false := by simp; omega
 simp only [cc4];rw [da2 _ _ _ (by omega)];have hg := yF (left - 1 - (v.s.size : Int).tdiv 50 ≥ 0) (by omega);refine ye3 func144 ntmps144 fun _ _ _=>?_
 repeat' (refine yz ?_)
 refine ac7 (α := Unit) (fun _ => ⟨[(3, .ptr 0 0), (1, .d (.int (left - 1 - (v.s.size : Int).tdiv 50))), (2, .d (.int ((m + 1 : Nat) : Int))), (7, .d (.int 0))], [.var 56 (.w (.d (enc v)))]⟩) (fun _ => 0) () (zle 1) ?_;rintro -
 cases hl : decide ((0 : Int) < ((br4 v).length : Int)) with
 | true =>
  repeat' (first | refine yz ?_ | refine yx ?_ | exact zD)
 | false =>
  repeat' (first | refine yz ?_ | refine yx ?_ | exact zD)
def da4 {α : Type} (f : α → Int → Int) : List α → Int → Int
 | [], left => left
 | x :: r, left => bif decide (left ≥ 0) then da4 f r (f x left) else left
theorem da5 {α : Type} (f : α → Int → Int) : ∀ (l : List α) (left : Int), left < 0 → da4 f l left = left
 | [], left, h => rfl
 | x :: r, left, h => by simp only [da4]; rw [decide_eq_false (by omega), cond_false]
theorem da6 {α : Type} (f : α → Int → Int) (h : ∀ x left, 0 ≤ left → f x left ≤ left) : ∀ (l : List α) (left : Int), da4 f l left ≤ left
 | [], left => fg2 _
 | x :: r, left => by
  simp only [da4]
  cases hd : decide (left ≥ 0) with
  | false => exact fg2 _
  | true => exact Int.le_trans (da6 f h r _) (h x left (of_decide_eq_true hd))
theorem da7 {α : Type} (f : α → Int → Int) (h : ∀ x left, 0 ≤ left → f x left ≤ left) : ∀ (l : List α) (left : Int), 0 ≤ da4 f l left → ∀ x ∈ l, ∃ k, 0 ≤ k ∧ k ≤ left ∧ 0 ≤ f x k
 | [], left, _, x, hx => by simp at hx
 | y :: r, left, hp, x, hx => by
  simp only [da4] at hp
  cases hd : decide (left ≥ 0) with
  | false =>
   rw [hd, cond_false] at hp;exact absurd hp (by have := of_decide_eq_false hd; omega)
  | true =>
   have h0 : left ≥ 0 := of_decide_eq_true hd;rw [hd, cond_true] at hp;have h1 := da6 f h r (f y left);rcases fa6.1 hx with e | e
   ·exact ⟨left, h0, fg2 _, by rw [e]; omega⟩
   ·obtain ⟨k, k1, k2, k3⟩ := da7 f h r _ hp x e;exact ⟨k, k1, Int.le_trans k2 (h y left h0), k3⟩
theorem da8 {α : Type} (f : α → Int → Int) (h : ∀ x left, 0 ≤ left → f x left ≤ left - 1) : ∀ (l : List α) (left : Int), 0 ≤ da4 f l left → (l.length : Int) ≤ left
 | [], left, hp => by simpa [da4] using hp
 | y :: r, left, hp => by
  simp only [da4] at hp
  cases hd : decide (left ≥ 0) with
  | false =>
   rw [hd, cond_false] at hp;exact absurd hp (by have := of_decide_eq_false hd; omega)
  | true =>
   have h0 : left ≥ 0 := of_decide_eq_true hd;rw [hd, cond_true] at hp;have h1 := da8 f h r _ hp;have h2 := h y left h0;simp only [fa8];omega
structure SItG {α : Type} (f : α → Int → Int) (l : List α) (R : Int) where
 i : Nat
 left : Int
 hi : i ≤ l.length
 hl : -9223372036854775807 ≤ left
 hu : left ≤ 2000
 ok : da4 f (l.drop i) left = R
def prS (p : Pr) (left : Int) : Int := cc4 12 p.v (left - (p.key.size : Int).tdiv 50)
theorem da9 (v : V) (left : Int) : cc4 12 v left ≤ left - 1 := by
 show cc3 (cc4 11) v.l (left - 1 - (v.s.size : Int).tdiv 50) ≤ left - 1;have h1 := cc5 (cc4 11) (fun x l h => cc6 11 x l h) v.l (left - 1 - (v.s.size : Int).tdiv 50);have h2 := (av1 (a := (v.s.size : Int)) (b := 50) (by omega)).1 (by omega);omega
theorem db0 (p : Pr) (left : Int) : prS p left ≤ left - 1 := by
 unfold prS;have h1 := da9 p.v (left - (p.key.size : Int).tdiv 50);have h2 := (av1 (a := (p.key.size : Int)) (b := 50) (by omega)).1 (by omega);omega
theorem db1 {p : Pr} {left : Int} (hf : Fit (cx9 p)) (h : 0 ≤ left) : -900000000000000000 ≤ prS p left := by
 unfold prS;have hc := hf.aggs;have hs := cc8 (hc (.str p.key) (by simp)).str
 have hv : Fit (enc p.v) := by
  refine Fit.agg _ fun c hm => hc c ?_
  simp only [fa6] at hm ⊢;exact .inr hm
 rcases Int.lt_or_le (left - (p.key.size : Int).tdiv 50) 0 with hn | hn
 ·obtain ⟨-, -, -, hs2, -, hk⟩ := bs2 hv;have hd2 := cc8 hs2;show -900000000000000000 ≤ cc3 (cc4 11) p.v.l (left - (p.key.size : Int).tdiv 50 - 1 - (p.v.s.size : Int).tdiv 50);rw [da2 _ _ _ (by omega)];omega
 ·have := cc9 12 p.v _ hv hn;omega
theorem db2 (l : List Pr) (left : Int) (h1 : -9223372036854775807 ≤ left) (h2 : left ≤ 2000) : Ev E 55 [.sl (l.map cx9), .int left] (.d (.int (da4 prS l left))) := Ev.fit fun hfit => by
 obtain ⟨hmx, hfl⟩ := cy4 (hfit (.sl (l.map cx9)) (by simp));have hle : (l.map cx9).length = l.length := by simp
 generalize hR : da4 prS l left = R;refine ye2 func55 ntmps55 fun _ _ _=>?_
 repeat' (refine yz ?_)
 refine ac7 (α := SItG prS l R) (fun p => ⟨[(0, .d (.sl (l.map cx9))), (1, .d (.int p.left)), (5, .d (.int p.i))], []⟩) (fun p => l.length - p.i) ⟨0, left, by omega, h1, h2, hR⟩ (zle 0) ?_;rintro ⟨i, le, hi, hl, hu, ok⟩;dsimp only;rcases ez6 i l.length with hlt | hge
 ·have g1 : decide ((i : Int) < ((l.map cx9).length : Int)) = true := by rw [hle]; simpa using hlt
  have hx0 := ez5 hlt;generalize l[i] = x at hx0;have hx : (l.map cx9)[(i : Int).toNat]? = some (cx9 x) := cy3 hx0;rw [bz2 hx0] at ok;simp only [da4] at ok
  cases hg : decide (le ≥ 0) with
  | false =>
   rw [hg, cond_false] at ok;rw [← ok]
   repeat' (first | refine yz ?_ | refine yx ?_ | exact zD)
  | true =>
   have h0 : le ≥ 0 := of_decide_eq_true hg;rw [hg, cond_true] at ok;have hfx := hfl x (ez9 hx0);have hs := cc8 ((hfx.aggs (.str x.key) (by simp)).str);have hge2 := db1 hfx h0;have hlt2 := db0 x le
   have q : Ev E 144 [enc x.v, .int (le - (x.key.size : Int).tdiv 50), .int 12] (.d (.int (prS x le))) := by
    rcases Int.lt_or_le (le - (x.key.size : Int).tdiv 50) 0 with hn | hn
    ·exact da3 11 x.v _ (by omega) hn (by omega)
    ·exact cd0 12 x.v _ (by omega) hn (by omega)
   repeat' (first | refine yz ?_ | refine yi (cx9 x) hx ?_ | refine yp b144 q ?_ | refine yx ?_)
   refine ac1 ?_;exact ⟨⟨i + 1, prS x le, by omega, by omega, by omega, ok⟩, by dsimp only; omega, (zle 0)⟩
 ·have g1 : decide ((i : Int) < ((l.map cx9).length : Int)) = false := by rw [hle]; simp; omega
  rw [fa1 hge] at ok;simp only [da4] at ok;rw [← ok]
  repeat' (first | refine yz ?_ | refine yx ?_ | exact zD)
theorem db3 {α : Type} (f : α → Int → Int) (B : Int) : ∀ (l : List α), (∀ x ∈ l, ∀ left, 0 ≤ left → B ≤ f x left) → ∀ (left : Int), B ≤ left → B ≤ da4 f l left
 | [], _, left, hl => hl
 | x :: r, h, left, hl => by
  simp only [da4]
  cases hd : decide (left ≥ 0) with
  | false => exact hl
  | true => exact db3 f B r (fun y hy => h y (by simp [hy])) _ (h x (by simp) left (of_decide_eq_true hd))
def db4 (s : ByteArray) (left : Int) : Int := left - (s.size : Int).tdiv 50
def ndS (n : Nd) (left : Int) : Int := da4 db4 n.labels (da4 prS n.props (left - n.labels.length))
def edS (e : Ed) (left : Int) : Int := da4 prS e.props (left - (e.ty.size : Int).tdiv 50)
def smG (g : Gr) (a b : Int) : Bool := !(decide ((g.nodes.length : Int) > a) || decide ((g.edges.length : Int) > b)) && decide (da4 edS g.edges (da4 ndS g.nodes 2000) ≥ 0)
theorem db5 (s : ByteArray) (left : Int) : db4 s left ≤ left := by
 unfold db4;have := (av1 (a := (s.size : Int)) (b := 50) (by omega)).1 (by omega);omega
theorem db6 (l : List Pr) (left : Int) : da4 prS l left ≤ left := da6 prS (fun x left _ => by have := db0 x left; omega) l left
theorem db7 (n : Nd) (left : Int) : ndS n left ≤ left := by
 unfold ndS;have h1 := da6 db4 (fun s left _ => db5 s left) n.labels (da4 prS n.props (left - n.labels.length));have h2 := db6 n.props (left - n.labels.length);omega
theorem db8 (e : Ed) (left : Int) : edS e left ≤ left := by
 unfold edS;have h2 := db6 e.props (left - (e.ty.size : Int).tdiv 50);have := (av1 (a := (e.ty.size : Int)) (b := 50) (by omega)).1 (by omega);omega
set_option maxHeartbeats 1000000 in
theorem db9 (g : Gr) (a b : Int) : Ev E 20 [cy2 g, .int a, .int b] (.d (.bool (smG g a b))) := Ev.fit fun hfit => by
 obtain ⟨hf1, hf2⟩ := cy5 (hfit (cy2 g) (by simp));obtain ⟨hn1, hn2⟩ := cy4 hf1;obtain ⟨he1, he2⟩ := cy4 hf2;have l1 : (g.nodes.map cy0).length = g.nodes.length := by simp
 have l2 : (g.edges.map cy1).length = g.edges.length := by simp
 unfold smG
 cases h1 : decide ((g.nodes.length : Int) > a) with
 | true =>
  have g1 : decide (((g.nodes.map cy0).length : Int) > a) = true := by rw [l1]; exact h1
  refine ye3 func20 ntmps20 fun _ _ _=>?_
  repeat' (first | refine yz ?_ | refine yx ?_ | exact zD)
 | false =>
 have g1 : decide (((g.nodes.map cy0).length : Int) > a) = false := by rw [l1]; exact h1
 cases h2 : decide ((g.edges.length : Int) > b) with
 | true =>
  have g2 : decide (((g.edges.map cy1).length : Int) > b) = true := by rw [l2]; exact h2
  refine ye3 func20 ntmps20 fun _ _ _=>?_
  repeat' (first | refine yz ?_ | refine yx ?_ | exact zD)
 | false =>
 have g2 : decide (((g.edges.map cy1).length : Int) > b) = false := by rw [l2]; exact h2
 generalize hR1 : da4 ndS g.nodes 2000 = R1;have hR1le : R1 ≤ 2000 := by rw [← hR1]; exact da6 ndS (fun n left _ => db7 n left) _ _
 have ndge : ∀ n ∈ g.nodes, ∀ left : Int, 0 ≤ left → -9223372036854775807 ≤ left - n.labels.length ∧ -9223372036854775807 ≤ da4 prS n.props (left - n.labels.length) := fun n hn left h0 => by
  have hf := (hn2 n hn).aggs;have hlb := ((hf (.sl (n.labels.map .str)) (by simp)).sls).1;rw [fb8] at hlb;obtain ⟨-, hpr⟩ := cy4 (hf (.sl (n.props.map cx9)) (by simp));have hb : -9223372036854775807 ≤ left - n.labels.length := by omega
  exact ⟨hb, db3 prS _ n.props (fun x hx left h => by have := db1 (hpr x hx) h; omega) _ hb⟩
 have labge : ∀ n ∈ g.nodes, ∀ s ∈ n.labels, ∀ left : Int, 0 ≤ left → -9223372036854775807 ≤ db4 s left := fun n hn s hs left h0 => by
  have hf := (hn2 n hn).aggs;have := cc8 ((hf (.sl (n.labels.map .str)) (by simp)).sls.2 (.str s) (fh0 hs)).str;unfold db4;omega
 have edge : ∀ e ∈ g.edges, ∀ left : Int, 0 ≤ left → -9223372036854775807 ≤ left - (e.ty.size : Int).tdiv 50 ∧ -9223372036854775807 ≤ edS e left := fun e he left h0 => by
  have hf := (he2 e he).aggs;have hs := cc8 ((hf (.str e.ty) (by simp)).str);obtain ⟨-, hpr⟩ := cy4 (hf (.sl (e.props.map cx9)) (by simp));exact ⟨by omega, db3 prS _ e.props (fun x hx left h => by have := db1 (hpr x hx) h; omega) _ (by omega)⟩
 refine ye3 func20 ntmps20 fun _ _ _=>?_
 repeat' (first | refine yz ?_ | refine yx ?_)
 refine ac7 (α := SItG ndS g.nodes R1) (fun p => ⟨[(3, .ptr 0 0), (7, .d (.int p.left)), (8, .d (.int p.i))], [.var 38 (.w (.d (cy2 g)))]⟩) (fun p => g.nodes.length - p.i) ⟨0, 2000, by omega, by omega, by omega, hR1⟩ (zle 1) ?_;rintro ⟨i, le, hi, hl, hu, ok⟩;dsimp only;have fin : ∀ le : Int, -9223372036854775807 ≤ le → R1 = le → ∀ le2 : Int, le2 = le → True := fun _ _ _ _ _ => trivial
 clear fin
 by_cases hgo : i < g.nodes.length ∧ 0 ≤ le
 ·obtain ⟨hlt, h0⟩ := hgo;have g3 : decide ((i : Int) < ((g.nodes.map cy0).length : Int)) = true := by rw [l1]; simpa using hlt
  have g4 := yT (le ≥ 0) h0;have hx0 := ez5 hlt;generalize g.nodes[i] = n at hx0;have hx : (g.nodes.map cy0)[(i : Int).toNat]? = some (cy0 n) := cy3 hx0;have hmem := ez9 hx0;rw [bz2 hx0] at ok;simp only [da4] at ok;rw [g4, cond_true] at ok;obtain ⟨b1, b2⟩ := ndge n hmem le h0;have hll : (n.labels.map D.str).length = n.labels.length := by simp
  have hlmx := (((hn2 n hmem).aggs (.sl (n.labels.map .str)) (by simp)).sls).1;rw [fb8] at hlmx;have q := db2 n.props (le - n.labels.length) b1 (by omega);rw [← hll] at q b1;have hple := db6 n.props (le - n.labels.length);generalize hR2 : ndS n le = R2 at ok;unfold ndS at hR2;rw [← hll] at hR2 b2 hple;generalize da4 prS n.props (le - (n.labels.map D.str).length) = m at q hR2 b2 hple;have hR2le : R2 ≤ 2000 := by rw [← hR2]; have := da6 db4 (fun s left _ => db5 s left) n.labels m; omega
  have hR2ge : -9223372036854775807 ≤ R2 := by rw [← hR2]; exact db3 db4 _ n.labels (fun s hs left h => labge n hmem s hs left h) _ b2
  repeat' (first | refine yz ?_ | refine yi (cy0 n) hx ?_ | refine yp b55 q ?_ | refine yx ?_)
  refine ac7 (α := SItG db4 n.labels R2) (fun p => ⟨[(3, .ptr 0 0), (7, .d (.int p.left)), (8, .d (.int i)), (9, .ptr 1 0), (10, .d (.int p.i))], [.var 38 (.w (.d (cy2 g))), .var 104 (.w (.d (cy0 n)))]⟩) (fun p => n.labels.length - p.i) ⟨0, m, by omega, b2, by omega, hR2⟩ (zle 2) ?_;rintro ⟨k, lk2, hk, hl2, hu2, ok2⟩;dsimp only
  by_cases hgo2 : k < n.labels.length ∧ 0 ≤ lk2
  ·obtain ⟨hklt, h02⟩ := hgo2;have g5 : decide ((k : Int) < ((n.labels.map D.str).length : Int)) = true := by rw [hll]; simpa using hklt
   have g6 := yT (lk2 ≥ 0) h02;have hs0 := ez5 hklt;generalize n.labels[k] = s at hs0;have hsx : (n.labels.map D.str)[(k : Int).toNat]? = some (.str s) := cy3 hs0;rw [bz2 hs0] at ok2;simp only [da4] at ok2;rw [g6, cond_true] at ok2;have b3 := labge n hmem s (ez9 hs0) lk2 h02;have b4 := db5 s lk2;have hss : s.size ≤ 9223372036854775807 := (((hn2 n hmem).aggs (.sl (n.labels.map .str)) (by simp)).sls.2 (.str s) (fh0 (ez9 hs0))).str;unfold db4 at b3 b4 ok2
   repeat' (first | refine yz ?_ | refine yi (.str s) hsx ?_ | refine yx ?_)
   refine ac1 ?_;exact ⟨⟨k + 1, lk2 - (s.size : Int).tdiv 50, by omega, b3, by omega, ok2⟩, by dsimp only; omega, (zle 2)⟩
  ·have hend : lk2 = R2 := by
    rcases ez6 k n.labels.length with h | h
    ·rw [da5 _ _ _ (by omega)] at ok2;exact ok2
    ·rw [fa1 h] at ok2;exact ok2
   have stop : ∀ (x : Int), x = R2 → -9223372036854775807 ≤ x := fun x e => by rw [e]; exact hR2ge
   cases g5 : decide ((k : Int) < ((n.labels.map D.str).length : Int)) with
   | false =>
    repeat' (first | refine yz ?_ | refine yx ?_)
    refine ac1 ?_;exact ⟨⟨i + 1, lk2, by omega, by omega, by omega, by rw [hend]; exact ok⟩, by dsimp only; omega, (zle 1)⟩
   | true =>
    have hkl : k < n.labels.length := by have := of_decide_eq_true g5; rw [hll] at this; omega
    have g6 := yF (lk2 ≥ 0) (by omega)
    repeat' (first | refine yz ?_ | refine yx ?_)
    refine ac1 ?_;exact ⟨⟨i + 1, lk2, by omega, by omega, by omega, by rw [hend]; exact ok⟩, by dsimp only; omega, (zle 1)⟩
 ·have hend : le = R1 := by
   rcases ez6 i g.nodes.length with h | h
   ·rw [da5 _ _ _ (by omega)] at ok;exact ok
   ·rw [fa1 h] at ok;exact ok
  subst hend;generalize hR2 : da4 edS g.edges le = R2
  cases g3 : decide ((i : Int) < ((g.nodes.map cy0).length : Int))
  case' false =>
   repeat' (first | refine yz ?_ | refine yx ?_)
  case' true =>
   have g4 := yF (le ≥ 0) (by have := of_decide_eq_true g3; rw [l1] at this; omega)
   repeat' (first | refine yz ?_ | refine yx ?_)
  all_goals
   refine ac7 (α := SItG edS g.edges R2) (fun p => ⟨[(3, .ptr 0 0), (7, .d (.int p.left)), (11, .d (.int p.i))], [.var 38 (.w (.d (cy2 g)))]⟩) (fun p => g.edges.length - p.i) ⟨0, le, by omega, by omega, by omega, hR2⟩ (zle 1) ?_;rintro ⟨j, l3, hj, hl3, hu3, ok3⟩;dsimp only
   by_cases hgo2 : j < g.edges.length ∧ 0 ≤ l3
   ·obtain ⟨hjlt, h03⟩ := hgo2;have g5 : decide ((j : Int) < ((g.edges.map cy1).length : Int)) = true := by rw [l2]; simpa using hjlt
    have g6 := yT (l3 ≥ 0) h03;have hx0 := ez5 hjlt;generalize g.edges[j] = e at hx0;have hx : (g.edges.map cy1)[(j : Int).toNat]? = some (cy1 e) := cy3 hx0;have hmem := ez9 hx0;rw [bz2 hx0] at ok3;simp only [da4] at ok3;rw [g6, cond_true] at ok3;obtain ⟨b1, b2⟩ := edge e hmem l3 h03;have b3 := db8 e l3;have hs := cc8 ((((he2 e hmem).aggs) (.str e.ty) (by simp)).str);have q : Ev E 55 [.sl (e.props.map cx9), .int (l3 - (e.ty.size : Int).tdiv 50)] (.d (.int (edS e l3))) := db2 e.props _ b1 (by omega)
    repeat' (first | refine yz ?_ | refine yi (cy1 e) hx ?_ | refine yp b55 q ?_ | refine yx ?_)
    refine ac1 ?_;exact ⟨⟨j + 1, edS e l3, by omega, b2, by omega, ok3⟩, by dsimp only; omega, (zle 1)⟩
   ·have hend2 : l3 = R2 := by
     rcases ez6 j g.edges.length with h | h
     ·rw [da5 _ _ _ (by omega)] at ok3;exact ok3
     ·rw [fa1 h] at ok3;exact ok3
    subst hend2
    cases g5 : decide ((j : Int) < ((g.edges.map cy1).length : Int)) with
    | false =>
     repeat' (first | refine yz ?_ | refine yx ?_ | exact zD)
    | true =>
     have g6 := yF (l3 ≥ 0) (by have := of_decide_eq_true g5; rw [l2] at this; omega)
     repeat' (first | refine yz ?_ | refine yx ?_ | exact zD)
end Go.Proofs.YtenpjlghikohmaaGreatDoor
