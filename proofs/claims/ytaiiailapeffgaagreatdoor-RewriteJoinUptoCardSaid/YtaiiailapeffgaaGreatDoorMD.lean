/- The reference's bounded integers; Products of fractions by the reference; Sums and differences of fractions by the program; quotients and differences by the reference; Graphs and bindings as data, and the reference's look-ups in them; Membership in lists of names, by the library; Copies of lists of names and of properties, by the library; Copies of values and of properties, and the look-up of nodes, edges and properties, by the program; Expressions as plain trees, how they are written as data, and the weighing of expressions by the law's own text; Names of the language: letters, names, by both. Conditions: each part's own, as it says. -/
import Derived.Test.YtaiiailapeffgaaGreatDoorMC
import Derived.Test.YtaiiailapeffgaaGreatDoorGC
import Derived.Test.YtaiiailapeffgaaGreatDoorMA
import Derived.Test.YtaiiailapeffgaaGreatDoorGB
import Derived.Test.YtaiiailapeffgaaGreatDoorMB
import Derived.Lib.IndexMore
set_option linter.unusedVariables false
set_option linter.unusedSimpArgs false
namespace Go.Proofs.YtaiiailapeffgaaGreatDoor
set_option maxRecDepth 4000
open Go Go.Abs Go.Val Go.RowKit Go.Proofs.Tryz
attribute [local irreducible] go SGo an2 Ev aw0 EvO EvS binOp
attribute [local irreducible] RGo
set_option maxHeartbeats 4000000 in
theorem cu5 (an ad bn bd : Int) : Ev E 269 [.agg [.int an, .int ad], .agg [.int bn, .int bd]] (.tup [.agg [.int (ct2 an ad bn bd), .int (ct3 an ad bn bd)], .bool (ct1 an ad bn bd)]) := by
 have hva := bw9 an ad;have hvb := bw9 bn bd;unfold ct2 ct3
 cases ha : bq8 an ad with
 | false =>
  rw [ha] at hva;rw [show ct1 an ad bn bd = false by unfold ct1; rw [ha]; rfl];refine ye2 func269 ntmps269 fun _ _ _=>?_
  repeat' (first | refine yz ?_ | refine yp bv3 hva ?_ | refine yp bv3 hvb ?_ | refine yx ?_ | (refine yy ?_ ?_ <;> intro _) | exact zD | exact zL)
 | true =>
  cases hb : bq8 bn bd with
  | false =>
   rw [ha] at hva;rw [hb] at hvb;rw [show ct1 an ad bn bd = false by unfold ct1; rw [ha, hb]; rfl];refine ye2 func269 ntmps269 fun _ _ _=>?_
   repeat' (first | refine yz ?_ | refine yp bv3 hva ?_ | refine yp bv3 hvb ?_ | refine yx ?_ | (refine yy ?_ ?_ <;> intro _) | exact zD | exact zL)
  | true =>
   obtain ⟨G, H, T, p, q, r, m, m', eG, eH, eT, hG, hH, r1, r2, r3, hT, h1, h2, h3, h4, h5, h6, h7, h8, h9⟩ := ct7 ha hb;obtain ⟨a1, a2, -⟩ := ct4 ha;obtain ⟨b1, b2, -⟩ := ct4 hb;rw [ha] at hva;rw [hb] at hvb
   have hB : ct1 an ad bn bd = (T == 0 || (ovB T.natAbs H && decide (Int.tdiv ad G * Int.tdiv bd H ≤ 1000000000000000))) := by
    unfold ct1 adK adD;rw [ha, hb, ← eG, ← eH, ← eT];rfl
   have hN : adN an ad bn bd = sgn T * ((T.natAbs / H : Nat) : Int) := by unfold adN; rw [← eH, ← eT]
   have hD : adD an ad bn bd = Int.tdiv ad G * Int.tdiv bd H := by unfold adD; rw [← eG, ← eH]
   rw [hN, hD, ← eT];have hn := cs7 (Int.tdiv ad G) (Int.tdiv bd H)
   have hmb : cs5 (Int.tdiv ad G) (Int.tdiv bd H) = decide (Int.tdiv ad G * Int.tdiv bd H ≤ 1000000000000000) := by
    unfold cs5;rw [(bq6 _).2 (by omega), (bq6 _).2 (by omega), fm3, fm3, ← Int.natAbs_mul];have : 0 ≤ Int.tdiv ad G * Int.tdiv bd H := Int.mul_nonneg (by omega) (by omega);rw [decide_eq_decide];omega
   unfold mulN at hn;rw [hmb] at hn;have w1 : inR .i64 (Int.tdiv bd G) := by simp only [inR]; omega
   have w2 : inR .i64 (Int.tdiv ad G) := by simp only [inR]; omega
   have w3 : inR .i64 (Int.tdiv bd H) := by simp only [inR]; omega
   have w4 : inR .u64 (G : Int) := by simp only [inR]; omega
   have w5 : inR .u64 (H : Int) := by simp only [inR]; omega
   have w6 : T.natAbs % G < G := fp2 _ (by omega);have w7 : inR .i64 ((T.natAbs % G : Nat) : Int) := by simp only [inR]; omega
   have wG : (G : Int) ≠ 0 := by omega
   have wH : (H : Int) ≠ 0 := by omega
   clear eG eH eT ha hb hN hD hmb;generalize T.natAbs % G = tm at *
   cases hT0 : T == 0 with
   | true =>
    have hs0 : sgn T = 0 := by rw [show T = 0 by simpa using hT0]; rfl
    rw [hs0] at h5;rw [hB, hT0];refine ye2 func269 ntmps269 fun _ _ _=>?_
    repeat' (first | refine yu 4 [15,16] [] ?_ | refine yk 4 0 15 ?_ | refine yw ?_ | refine rgN ?_ | refine yv ?_ | refine yz ?_ | refine yp bv3 hva ?_ | refine yp bv3 hvb ?_ | refine qP (d := 26) rfl rfl rfl rfl rfl rfl bv8 (h1) ?_ | refine qP (d := 33) rfl rfl rfl rfl rfl rfl bv9 (h2) ?_ | refine qP (d := 40) rfl rfl rfl rfl rfl rfl bv9 (h3) ?_ | refine yp b301 h4 ?_ | refine yp b302 h5 ?_ | (refine qS rfl ⟨wG, w1⟩ ?_) | (refine qS rfl ⟨wG, w2⟩ ?_) | refine yx ?_ | (refine yy ?_ ?_ <;> intro _) | exact zD | exact zL)
   | false =>
    have hT0' : T ≠ 0 := by simpa using hT0
    have hs0 : (sgn T == 0) = false := by
     rw [beq_eq_false_iff_ne];rcases Int.lt_or_gt_of_ne hT0' with h | h
     ·rw [cf6 h]; decide
     ·rw [cf5 h]; decide
    rw [h8 hT0'] at h9;rw [hB, hT0];generalize sgn T * ((T.natAbs / H : Nat) : Int) = N at *;generalize hK : decide (Int.tdiv ad G * Int.tdiv bd H ≤ 1000000000000000) = K at *
    cases hO : ovB T.natAbs H <;> cases K <;> rw [hO] at h9
    all_goals
     refine ye2 func269 ntmps269 fun _ _ _=>?_
     repeat' (first | refine yu 4 [15,16] [] ?_ | refine yk 4 0 15 ?_ | refine yw ?_ | refine rgN ?_ | refine yv ?_ | refine yz ?_ | refine yp bv3 hva ?_ | refine yp bv3 hvb ?_ | refine qP (d := 26) rfl rfl rfl rfl rfl rfl bv8 (h1) ?_ | refine qP (d := 33) rfl rfl rfl rfl rfl rfl bv9 (h2) ?_ | refine qP (d := 40) rfl rfl rfl rfl rfl rfl bv9 (h3) ?_ | refine yp b301 h4 ?_ | refine yp b302 h5 ?_ | refine yp b303 h6 ?_ | refine qP (d := 52) rfl rfl rfl rfl rfl rfl bv8 (h7) ?_ | refine yp b304 h9 ?_ | refine yp b305 hn ?_ | (refine qS rfl ⟨wG, w1⟩ ?_) | (refine qS rfl ⟨wG, w2⟩ ?_) | (refine qS rfl ⟨wH, w3⟩ ?_) | refine yx ?_ | (refine yy ?_ ?_ <;> intro _) | exact zD | exact zL)
theorem cu6 (an ad bn bd : Int) (hb : bq8 bn bd = true) : Ev E 270 [.agg [.int an, .int ad], .agg [.int bn, .int bd]] (.tup [.agg [.int (ct2 an ad (0 - bn) bd), .int (ct3 an ad (0 - bn) bd)], .bool (ct1 an ad (0 - bn) bd)]) := by
 have h := cu5 an ad (0 - bn) bd;obtain ⟨b1, b2, -⟩ := ct4 hb;refine ye2 func270 ntmps270 fun _ _ _=>?_
 repeat' (first | refine yz ?_ | refine yp b269 h ?_ | refine yx ?_ | (refine yy ?_ ?_ <;> intro _) | exact zD | exact zL)
end Go.Proofs.YtaiiailapeffgaaGreatDoor
namespace Go.Proofs.YtaiiailapeffgaaGreatDoor
set_option maxRecDepth 4000
open Go Go.Abs Go.Val Go.Proofs.Tryz
attribute [local irreducible] go SGo an2 Ev aw0 EvO EvS
structure Pr where
 key : ByteArray
 v : V
structure Nd where
 id : Int
 labels : List ByteArray
 props : List Pr
structure Ed where
 id : Int
 src : Int
 dst : Int
 ty : ByteArray
 props : List Pr
structure Gr where
 nodes : List Nd
 edges : List Ed
 nn : Int
 ne : Int
structure Bd where
 name : ByteArray
 v : V
def cu7 (p : Pr) : D := .agg [.str p.key, .int p.v.k, .int p.v.n, .int p.v.d, .str p.v.s, .sl (kids p.v)]
def cu8 (n : Nd) : D := .agg [.int n.id, .sl (n.labels.map .str), .sl (n.props.map cu7)]
def cu9 (e : Ed) : D := .agg [.int e.id, .int e.src, .int e.dst, .str e.ty, .sl (e.props.map cu7)]
def cv0 (g : Gr) : D := .agg [.sl (g.nodes.map cu8), .sl (g.edges.map cu9), .int g.nn, .int g.ne]
def cv1 (b : Bd) : D := .agg [.str b.name, .int b.v.k, .int b.v.n, .int b.v.d, .str b.v.s, .sl (kids b.v)]
theorem cv2 {α β : Type} {l : List α} {f : α → β} {i : Nat} {x : α} (h : l[i]? = some x) : (l.map f)[(i : Int).toNat]? = some (f x) := by
 rw [fl0, fk7, h]; rfl
theorem cv3 {α : Type} {l : List α} {f : α → D} (h : Fit (.sl (l.map f))) : l.length ≤ 9223372036854775807 ∧ ∀ x ∈ l, Fit (f x) := by
 have h5 := h.sls;rw [fl4] at h5;exact ⟨h5.1, fun x hx => h5.2 _ (fr8 hx)⟩
theorem cv4 {g : Gr} (h : Fit (cv0 g)) : Fit (.sl (g.nodes.map cu8)) ∧ Fit (.sl (g.edges.map cu9)) :=
 ⟨h.aggs _ (by simp), h.aggs _ (by simp)⟩
structure SFd {α : Type} (l : List α) (f : α → Bool) where
 i : Nat
 hi : i ≤ l.length
 ok : l.find? f = (l.drop i).find? f
theorem cv5 {α : Type} {l : List α} {f : α → Bool} {i : Nat} {x : α} (h : l[i]? = some x) : (l.drop i).find? f = bif f x then some x else (l.drop (i + 1)).find? f := by
 rw [bz3 h, List.find?_cons]
 cases f x <;> rfl
def nd0 : Nd := ⟨0, [], []⟩
def ed0 : Ed := ⟨0, 0, 0, ⟨#[]⟩, []⟩
def cv6 (l : List Nd) (id : Int) : Option Nd := l.find? fun n => n.id == id
def cv7 (l : List Ed) (id : Int) : Option Ed := l.find? fun n => n.id == id
def cv8 (l : List Pr) (k : ByteArray) : V := match l.find? fun p => p.key.toList == k.toList with | some p => p.v | none => br5
def cv9 (l : List ByteArray) (s : ByteArray) : Bool := l.any fun x => x.toList == s.toList
structure SHs (l : List ByteArray) (s : ByteArray) where
 i : Nat
 hi : i ≤ l.length
 ok : cv9 l s = cv9 (l.drop i) s
theorem cw0 {l : List ByteArray} {s x : ByteArray} {i : Nat} (h : l[i]? = some x) : cv9 (l.drop i) s = (x.toList == s.toList || cv9 (l.drop (i + 1)) s) := by
 rw [bz3 h]; rfl
theorem cw1 (l : List ByteArray) (s : ByteArray) : Ev E 62 [.sl (l.map .str), .str s] (.d (.bool (cv9 l s))) := Ev.fit fun hfit => by
 obtain ⟨hmax, -⟩ := cv3 (l := l) (f := D.str) (hfit _ (by simp));have hle : (l.map D.str).length = l.length := by simp
 refine ye2 func62 ntmps62 fun _ _ _=>?_
 repeat' (first | refine yz ?_ | refine yx ?_ | (refine yy ?_ ?_ <;> intro _) | exact zD | exact zL)
 refine ac7 (α := SHs l s) (fun p => ⟨[(0, .d (.sl (l.map .str))), (1, .d (.str s)), (5, .d (.int p.i))], []⟩) (fun p => l.length - p.i) ⟨0, by omega, rfl⟩ (zle 0) ?_;rintro ⟨i, hi, ok⟩;dsimp only;rcases fk1 i l.length with hlt | hge
 ·have g1 : decide ((i : Int) < ((l.map D.str).length : Int)) = true := by rw [hle]; simpa using hlt
  have hx0 := fk0 hlt;generalize l[i] = x at hx0;have hx := cv2 (f := D.str) hx0;rw [ok, cw0 hx0]
  cases hc : x.toList == s.toList with
  | true =>
   repeat' (first | refine yz ?_ | refine yi (.str x) hx ?_ | refine yx ?_ | (refine yy ?_ ?_ <;> intro _) | exact zD | exact zL)
  | false =>
   repeat' (first | refine yz ?_ | refine yi (.str x) hx ?_ | refine yx ?_ | (refine yy ?_ ?_ <;> intro _) | exact zD | exact zL)
   refine ac1 ?_;exact ⟨⟨i + 1, by omega, by rw [ok, cw0 hx0, hc]; rfl⟩, by dsimp only; omega, (zle 0)⟩
 ·have g1 : decide ((i : Int) < ((l.map D.str).length : Int)) = false := by rw [hle]; simp; omega
  rw [ok, fl9 hge]
  repeat' (first | refine yz ?_ | refine yx ?_ | (refine yy ?_ ?_ <;> intro _) | exact zD | exact zL)
def cw2 (s : ByteArray) : List ByteArray → Nat → Int
 | [], _ => -1
 | x :: r, i => bif s.toList == x.toList then (i : Int) else cw2 s r (i + 1)
theorem cw3 (s : ByteArray) : ∀ (l : List ByteArray) (i : Nat), decide (cw2 s l i ≥ 0) = cv9 l s
 | [], i => rfl
 | x :: r, i => by
  rw [cw2, cv9, List.any_cons]
  have hc : (x.toList == s.toList) = (s.toList == x.toList) := by
   rw [fm5, beq_iff_eq, beq_iff_eq]; exact ⟨fun h => h.symm, fun h => h.symm⟩
  rw [hc]
  cases s.toList == x.toList with
  | true => simp
  | false => rw [cond_false, fn1]; exact cw3 s r (i + 1)
theorem cw4 {l : List ByteArray} {s x : ByteArray} {i : Nat} (h : l[i]? = some x) : cw2 s (l.drop i) i = bif s.toList == x.toList then (i : Int) else cw2 s (l.drop (i + 1)) (i + 1) := by
 rw [bz3 h]; rfl
structure SIx (l : List ByteArray) (s : ByteArray) where
 i : Nat
 hi : i ≤ l.length
 ok : cw2 s l 0 = cw2 s (l.drop i) i
theorem cw5 (l : List ByteArray) (s : ByteArray) : Ev E 180 [.sl (l.map .str), .str s] (.d (.int (cw2 s l 0))) := Ev.fit fun hfit => by
 obtain ⟨hmax, -⟩ := cv3 (l := l) (f := D.str) (hfit _ (by simp));have hle : (l.map D.str).length = l.length := by simp
 refine ye2 func180 ntmps180 fun _ _ _=>?_
 repeat' (refine yz ?_)
 refine ac7 (α := SIx l s) (fun p => ⟨[(0, .d (.sl (l.map .str))), (1, .d (.str s)), (6, .d (.sl (l.map .str))), (7, .d (.int (l.map D.str).length)), (8, .d (.int p.i))], []⟩) (fun p => l.length - p.i) ⟨0, by omega, rfl⟩ (zle 0) ?_;rintro ⟨i, hi, ok⟩;dsimp only;rcases fk1 i l.length with hlt | hge
 ·have g1 : decide ((i : Int) < ((l.map D.str).length : Int)) = true := by rw [hle]; simpa using hlt
  have hx0 := fk0 hlt;generalize l[i] = x at hx0;have hx := cv2 (f := D.str) hx0;rw [ok, cw4 hx0]
  cases hc : s.toList == x.toList with
  | true =>
   repeat' (first | refine yz ?_ | refine yi (.str x) hx ?_ | exact zD)
  | false =>
   repeat' (first | refine yz ?_ | refine yi (.str x) hx ?_)
   refine ac1 ?_;exact ⟨⟨i + 1, by omega, by rw [ok, cw4 hx0, hc]; rfl⟩, by dsimp only; omega, (zle 0)⟩
 ·have g1 : decide ((i : Int) < ((l.map D.str).length : Int)) = false := by rw [hle]; simp; omega
  rw [ok, fl9 hge]
  repeat' (first | refine yz ?_ | exact zD)
theorem cw6 (l : List ByteArray) (s : ByteArray) : Ev E 118 [.sl (l.map .str), .str s] (.d (.bool (cv9 l s))) := by
 have h := cw5 l s;rw [← cw3 s l 0];refine ye2 func118 ntmps118 fun _ _ _=>?_
 repeat' (first | refine yz ?_ | refine yp b180 h ?_ | exact zD)
theorem cw7 (n : Nd) (s : ByteArray) : Ev E 207 [cu8 n, .str s] (.d (.bool (cv9 n.labels s))) := by
 have h := cw6 n.labels s;refine ye2 func207 ntmps207 fun _ _ _=>?_
 repeat' (first | refine yz ?_ | refine yp bt2 h ?_ | exact zD)
theorem cw8 : Ev E 74 [.sl []] (.d (.sl [])) := by
 refine ye1 func74 ntmps74 fun _ _ _=>?_
 repeat' (first | refine yz ?_ | (refine ay6 rfl (fun _ => ?_) ?_) | refine az3 rfl rfl rfl rfl rfl rfl rfl rfl ?_ | exact zD)
theorem cw9 (l : List ByteArray) (h0 : l ≠ []) (hn : l.length ≤ 2000000) : EvO E 74 [.sl (l.map .str)] 9 1 (l.map .str) := by
 have hle : (l.map D.str).length = l.length := by simp
 have hne : l.map D.str ≠ [] := by simpa using h0
 have hc : ∀ d ∈ l.map D.str, d.cells.length = 1 := fun d hd => by
  obtain ⟨u, -, rfl⟩ := fo8.1 hd;rfl
 generalize l.map D.str = xs at *;refine az4 func74 ntmps74 rfl rfl fun w0 F0 O => ?_
 repeat' (first | refine az0 rfl rfl rfl rfl rfl rfl rfl (by decide) (by decide) ?_ | refine yz ?_ | (refine ay6 rfl (fun h => absurd h hne) ?_))
 refine qS rfl ⟨hne, hc, by (show (0 + xs.length) * 16 ≤ 140737488355328; omega), by (show 0 + xs.length ≤ 9223372036854775807; omega)⟩ ?_
 repeat' (first | refine yz ?_ | exact zL)
theorem cx0 (l : List ByteArray) (hn : l.length ≤ 2000000) : Ev E 74 [.sl (l.map .str)] (.d (.sl (l.map .str))) := by
 by_cases h0 : l = []
 ·subst h0; exact cw8
 ·exact (cw9 l h0 hn).ev
theorem cx1 : Ev E 298 [.sl []] (.d (.sl [])) := by
 refine ye1 func298 ntmps298 fun _ _ _=>?_
 repeat' (first | refine yz ?_ | (refine ay6 rfl (fun _ => ?_) ?_) | refine az3 rfl rfl rfl rfl rfl rfl rfl rfl ?_ | exact zD)
theorem cx2 (l : List Pr) : ∀ d ∈ l.map cu7, d.cells.length = 6 := fun d hd => by
 obtain ⟨u, -, rfl⟩ := fo8.1 hd;rfl
theorem cx3 (l : List Pr) (h0 : l ≠ []) (hn : l.length ≤ 2000000) : EvO E 298 [.sl (l.map cu7)] 270 6 (l.map cu7) := by
 have hle : (l.map cu7).length = l.length := by simp
 have hne : l.map cu7 ≠ [] := by simpa using h0
 have hc := cx2 l;generalize l.map cu7 = xs at *;refine az4 func298 ntmps298 rfl rfl fun w0 F0 O => ?_
 repeat' (first | refine az0 rfl rfl rfl rfl rfl rfl rfl (by decide) (by decide) ?_ | refine yz ?_ | (refine ay6 rfl (fun h => absurd h hne) ?_))
 refine qS rfl ⟨hne, hc, by (show (0 + xs.length) * 80 ≤ 140737488355328; omega), by (show 0 + xs.length ≤ 9223372036854775807; omega)⟩ ?_
 repeat' (first | refine yz ?_ | exact zL)
open Go.RowKit
attribute [local irreducible] RGo
theorem cx4 {α : Type} {l : List α} {i : Nat} {x : α} (h : l[i]? = some x) : l.set i x = l := by
 refine fq6 fun j => ?_
 rw [fo7];split
 ·rename_i hij
  subst hij;rw [if_pos (fk2.1 h).1, h]
 ·rfl
theorem cx5 (v : V) : nar v = true → Ev E 299 [enc v] (.d (enc v)) := by
 refine cc2 (P := fun v => nar v = true → Ev E 299 [enc v] (.d (enc v))) (fun k n d s l ih hn => ?_) v;obtain ⟨hl, hm⟩ := ck4 hn;simp only [V.l] at hl hm;show Ev E 299 [.agg [.int k, .int n, .int d, .str s, .sl (bp7 l)]] (.d (.agg [.int k, .int n, .int d, .str s, .sl (bp7 l)]));have hle : (bp7 l).length = l.length := bq3 _
 by_cases h0 : l = []
 ·subst h0;show Ev E 299 [.agg [.int k, .int n, .int d, .str s, .sl []]] (.d (.agg [.int k, .int n, .int d, .str s, .sl []]));refine ye1 func299 ntmps299 fun _ _ _=>?_
  repeat' (first | refine yz ?_ | refine yp b264 ck5 ?_ | refine yx ?_ | (refine yy ?_ ?_ <;> intro _) | exact zD | exact zL)
  refine ac7 (α := Unit) (fun _ => ⟨[(1, .ptr 0 0), (2, .ptr 1 0), (10, .d (.int 0)), (11, .d (.int 0))], [.var 24 (.cs [.d (.int k), .d (.int n), .d (.int d), .d (.str s), .d (.sl [])]), .var 24 (.cs [.d (.int 0), .d (.int 0), .d (.int 0), .d (.str ⟨#[]⟩), .nilS])]⟩) (fun _ => 0) () (zle 2) ?_;rintro -;have g1 : decide ((0 : Int) < 0) = false := rfl
  repeat' (first | refine yz ?_ | refine yx ?_ | (refine yy ?_ ?_ <;> intro _) | exact zD | exact zL)
 ·have hc := ck7 l h0 hl;refine ye1 func299 ntmps299 fun _ _ _=>?_
  repeat' (first | refine yz ?_ | refine ay9 rfl rfl rfl rfl rfl rfl b264 (hc) ?_ | refine yx ?_ | (refine yy ?_ ?_ <;> intro _) | exact zD | exact zL)
  refine ac7 (α := Fin (l.length + 1)) (fun p => ⟨[(1, .ptr 0 0), (2, .ptr 1 0), (10, .d (.int (bp7 l).length)), (11, .d (.int p.val))], [.var 24 (.cs [.d (.int k), .d (.int n), .d (.int d), .d (.str s), .own 2]), .var 24 (.cs [.d (.int 0), .d (.int 0), .d (.int 0), .d (.str ⟨#[]⟩), .nilS]), .row 24 5 (bp7 l)]⟩) (fun p => l.length - p.val) ⟨0, by omega⟩ (zle 3) ?_;rintro ⟨i, hi⟩;dsimp only;rcases fk1 i l.length with hlt | hge
  ·have g1 : decide ((i : Int) < ((bp7 l).length : Int)) = true := by rw [hle]; simpa using hlt
   have hx0 := fk0 hlt;generalize l[i] = x at hx0;have hx : (bp7 l)[(i : Int).toNat]? = some (enc x) := bq1 (by rw [fl0]; exact hx0);have hmem := fk4 hx0;have hcx := ih x hmem (ck3 hm x hmem);have hset : (bp7 l).set (i : Int).toNat (ar1 (enc x) 0 (enc x)) = bp7 l := cx4 hx
   repeat' (first | refine yq 5 [10] ?_ | refine yf 5 0 10 ?_ | refine yw ?_ | refine rgN ?_ | refine yv ?_ | refine yz ?_ | refine qW (enc x) rfl rfl rfl rfl rfl rfl hx rfl ?_ | refine yp b299 hcx ?_ | refine yx ?_ | (refine yy ?_ ?_ <;> intro _) | exact zD | exact zL)
   refine ac1 ?_;refine ⟨⟨i + 1, by omega⟩, by dsimp only; omega, ?_⟩;show Le _ ⟨_, [_, _, .row 24 5 ((bp7 l).set (i : Int).toNat (ar1 (enc x) 0 (enc x)))]⟩ _;rw [hset];exact (zle 3)
  ·have g1 : decide ((i : Int) < ((bp7 l).length : Int)) = false := by rw [hle]; simp; omega
   repeat' (first | refine yz ?_ | refine yx ?_ | (refine yy ?_ ?_ <;> intro _) | exact zD | exact zL)
   refine be7 2 rfl ?_
   repeat' (first | refine yz ?_ | refine yx ?_ | (refine yy ?_ ?_ <;> intro _) | exact zD | exact zL)
def cx6 (l : List Pr) : Prop := l.length ≤ 2000000 ∧ ∀ p ∈ l, nar p.v = true
theorem cx7 (l : List Pr) (hn : cx6 l) : Ev E 263 [.sl (l.map cu7)] (.d (.sl (l.map cu7))) := by
 have hle : (l.map cu7).length = l.length := by simp
 have hmax := hn.1
 by_cases h0 : l = []
 ·subst h0;show Ev E 263 [.sl []] (.d (.sl []));refine ye1 func263 ntmps263 fun _ _ _=>?_
  repeat' (first | refine yz ?_ | refine yp b298 cx1 ?_ | refine yx ?_ | (refine yy ?_ ?_ <;> intro _) | exact zD | exact zL)
  refine ac7 (α := Unit) (fun _ => ⟨[(3, .d (.sl [])), (8, .d (.int 0)), (9, .d (.int 0))], []⟩) (fun _ => 0) () (zle 0) ?_;rintro -;have g1 : decide ((0 : Int) < 0) = false := rfl
  repeat' (first | refine yz ?_ | refine yx ?_ | (refine yy ?_ ?_ <;> intro _) | exact zD | exact zL)
 ·have hc := cx3 l h0 hn.1;refine ye1 func263 ntmps263 fun _ _ _=>?_
  repeat' (first | refine yz ?_ | refine ay9 rfl rfl rfl rfl rfl rfl b298 (hc) ?_ | refine yx ?_ | (refine yy ?_ ?_ <;> intro _) | exact zD | exact zL)
  refine ac7 (α := Fin (l.length + 1)) (fun p => ⟨[(3, .own 0), (8, .d (.int (l.map cu7).length)), (9, .d (.int p.val))], [.row 270 6 (l.map cu7)]⟩) (fun p => l.length - p.val) ⟨0, by omega⟩ (zle 1) ?_;rintro ⟨i, hi⟩;dsimp only;rcases fk1 i l.length with hlt | hge
  ·have g1 : decide ((i : Int) < ((l.map cu7).length : Int)) = true := by rw [hle]; simpa using hlt
   have hx0 := fk0 hlt;generalize l[i] = x at hx0;have hx := cv2 (f := cu7) hx0;have hcx := cx5 x.v (hn.2 x (fk4 hx0));have hset : (l.map cu7).set (i : Int).toNat (ar1 (cu7 x) 1 (enc x.v)) = l.map cu7 := cx4 hx
   repeat' (first | refine yz ?_ | refine qW (cu7 x) rfl rfl rfl rfl rfl rfl hx rfl ?_ | refine qZ (cu7 x) rfl rfl rfl rfl rfl rfl hx rfl rfl rfl ?_ | refine yp b299 hcx ?_ | refine yx ?_ | (refine yy ?_ ?_ <;> intro _) | exact zD | exact zL)
   refine ac1 ?_;refine ⟨⟨i + 1, by omega⟩, by dsimp only; omega, ?_⟩;show Le _ ⟨_, [.row 270 6 ((l.map cu7).set (i : Int).toNat (ar1 (cu7 x) 1 (enc x.v)))]⟩ _;rw [hset];exact (zle 1)
  ·have g1 : decide ((i : Int) < ((l.map cu7).length : Int)) = false := by rw [hle]; simp; omega
   repeat' (first | refine yz ?_ | refine yx ?_ | (refine yy ?_ ?_ <;> intro _) | exact zD | exact zL)
   refine au6 0 rfl ?_
   repeat' (first | refine yz ?_ | refine yx ?_ | (refine yy ?_ ?_ <;> intro _) | exact zD | exact zL)
theorem cx8 (l : List Pr) (key : ByteArray) (hn : cx6 l) : Ev E 265 [.sl (l.map cu7), .str key] (.d (enc (cv8 l key))) := by
 have hle : (l.map cu7).length = l.length := by simp
 have hmax := hn.1;unfold cv8;refine ye2 func265 ntmps265 fun _ _ _=>?_
 repeat' (first | refine yz ?_ | refine yx ?_ | (refine yy ?_ ?_ <;> intro _) | exact zD | exact zL)
 refine ac7 (α := SFd l fun p => p.key.toList == key.toList) (fun p => ⟨[(1, .d (.str key)), (4, .ptr 0 0), (7, .d (.sl (l.map cu7))), (8, .d (.int (l.map cu7).length)), (9, .d (.int p.i))], [.var 24 (.cs [.d (.int 0), .d (.int 0), .d (.int 0), .d (.str ⟨#[]⟩), .nilS])]⟩) (fun p => l.length - p.i) ⟨0, by omega, rfl⟩ (zle 1) ?_;rintro ⟨i, hi, ok⟩;dsimp only;rcases fk1 i l.length with hlt | hge
 ·have g1 : decide ((i : Int) < ((l.map cu7).length : Int)) = true := by rw [hle]; simpa using hlt
  have hx0 := fk0 hlt;generalize l[i] = x at hx0;have hx := cv2 (f := cu7) hx0;have hcx := cx5 x.v (hn.2 x (fk4 hx0));rw [ok, cv5 hx0]
  cases hc : x.key.toList == key.toList with
  | true =>
   repeat' (first | refine yz ?_ | refine yi (cu7 x) hx ?_ | refine yp b299 hcx ?_ | refine yx ?_ | (refine yy ?_ ?_ <;> intro _) | exact zD | exact zL)
  | false =>
   repeat' (first | refine yz ?_ | refine yi (cu7 x) hx ?_ | refine yx ?_ | (refine yy ?_ ?_ <;> intro _) | exact zD | exact zL)
   refine ac1 ?_;exact ⟨⟨i + 1, by omega, by rw [ok, cv5 hx0, hc]; rfl⟩, by dsimp only; omega, (zle 1)⟩
 ·have g1 : decide ((i : Int) < ((l.map cu7).length : Int)) = false := by rw [hle]; simp; omega
  rw [ok, fl9 hge]
  repeat' (first | refine yz ?_ | refine yp b92 bx5 ?_ | refine yx ?_ | (refine yy ?_ ?_ <;> intro _) | exact zD | exact zL)
def narN (n : Nd) : Prop := n.labels.length ≤ 2000000 ∧ cx6 n.props
theorem cx9 (g : Gr) (id : Int) (hn : ∀ n ∈ g.nodes, narN n) : Ev E 202 [cv0 g, .int id] (.tup [cu8 ((cv6 g.nodes id).getD nd0), .bool (cv6 g.nodes id).isSome]) := Ev.fit fun hfit => by
 obtain ⟨f1, -⟩ := cv4 (g := g) (hfit _ (by simp));obtain ⟨hmax, -⟩ := cv3 f1;have hle : (g.nodes.map cu8).length = g.nodes.length := by simp
 unfold cv6;refine ye2 func202 ntmps202 fun _ _ _=>?_
 repeat' (first | refine yz ?_ | refine yx ?_ | (refine yy ?_ ?_ <;> intro _) | exact zD | exact zL)
 refine ac7 (α := SFd g.nodes fun n => n.id == id) (fun p => ⟨[(1, .d (.int id)), (4, .ptr 1 0), (9, .d (.sl (g.nodes.map cu8))), (10, .d (.int (g.nodes.map cu8).length)), (11, .d (.int p.i))], [.var 84 (.w (.d (cv0 g))), .var 169 (.cs [.d (.int 0), .nilS, .nilS])]⟩) (fun p => g.nodes.length - p.i) ⟨0, by omega, rfl⟩ (zle 2) ?_;rintro ⟨i, hi, ok⟩;dsimp only;rcases fk1 i g.nodes.length with hlt | hge
 ·have g1 : decide ((i : Int) < ((g.nodes.map cu8).length : Int)) = true := by rw [hle]; simpa using hlt
  have hx0 := fk0 hlt;generalize g.nodes[i] = x at hx0;have hx := cv2 (f := cu8) hx0;obtain ⟨n1, n2⟩ := hn x (fk4 hx0);have hc1 := cx0 x.labels n1;have hc2 := cx7 x.props n2;rw [ok, cv5 hx0]
  cases hc : x.id == id with
  | true =>
   obtain rfl : x.id = id := by simpa using hc
   repeat' (first | refine yq 5 [8] ?_ | refine yf 5 0 8 ?_ | refine yw ?_ | refine yf 5 9 1 ?_ | refine rgN ?_ | refine yv ?_ | refine yz ?_ | refine yi (cu8 x) hx ?_ | refine yp b74 hc1 ?_ | refine yp b263 hc2 ?_ | refine yx ?_ | (refine yy ?_ ?_ <;> intro _) | exact zD | exact zL)
  | false =>
   repeat' (first | refine yz ?_ | refine yi (cu8 x) hx ?_ | refine yx ?_ | (refine yy ?_ ?_ <;> intro _) | exact zD | exact zL)
   refine ac1 ?_;exact ⟨⟨i + 1, by omega, by rw [ok, cv5 hx0, hc]; rfl⟩, by dsimp only; omega, (zle 2)⟩
 ·have g1 : decide ((i : Int) < ((g.nodes.map cu8).length : Int)) = false := by rw [hle]; simp; omega
  rw [ok, fl9 hge]
  repeat' (first | refine yz ?_ | refine yx ?_ | (refine yy ?_ ?_ <;> intro _) | exact zD | exact zL)
theorem cy0 (g : Gr) (id : Int) (hn : ∀ e ∈ g.edges, cx6 e.props) : Ev E 200 [cv0 g, .int id] (.tup [cu9 ((cv7 g.edges id).getD ed0), .bool (cv7 g.edges id).isSome]) := Ev.fit fun hfit => by
 obtain ⟨-, f1⟩ := cv4 (g := g) (hfit _ (by simp));obtain ⟨hmax, -⟩ := cv3 f1;have hle : (g.edges.map cu9).length = g.edges.length := by simp
 unfold cv7;refine ye2 func200 ntmps200 fun _ _ _=>?_
 repeat' (first | refine yz ?_ | refine yx ?_ | (refine yy ?_ ?_ <;> intro _) | exact zD | exact zL)
 refine ac7 (α := SFd g.edges fun n => n.id == id) (fun p => ⟨[(1, .d (.int id)), (4, .ptr 1 0), (9, .d (.sl (g.edges.map cu9))), (10, .d (.int (g.edges.map cu9).length)), (11, .d (.int p.i))], [.var 84 (.w (.d (cv0 g))), .var 164 (.cs [.d (.int 0), .d (.int 0), .d (.int 0), .d (.str ⟨#[]⟩), .nilS])]⟩) (fun p => g.edges.length - p.i) ⟨0, by omega, rfl⟩ (zle 2) ?_;rintro ⟨i, hi, ok⟩;dsimp only;rcases fk1 i g.edges.length with hlt | hge
 ·have g1 : decide ((i : Int) < ((g.edges.map cu9).length : Int)) = true := by rw [hle]; simpa using hlt
  have hx0 := fk0 hlt;generalize g.edges[i] = x at hx0;have hx := cv2 (f := cu9) hx0;have hc2 := cx7 x.props (hn x (fk4 hx0));rw [ok, cv5 hx0]
  cases hc : x.id == id with
  | true =>
   repeat' (first | refine yz ?_ | refine yi (cu9 x) hx ?_ | refine yp b263 hc2 ?_ | refine yx ?_ | (refine yy ?_ ?_ <;> intro _) | exact zD | exact zL)
  | false =>
   repeat' (first | refine yz ?_ | refine yi (cu9 x) hx ?_ | refine yx ?_ | (refine yy ?_ ?_ <;> intro _) | exact zD | exact zL)
   refine ac1 ?_;exact ⟨⟨i + 1, by omega, by rw [ok, cv5 hx0, hc]; rfl⟩, by dsimp only; omega, (zle 2)⟩
 ·have g1 : decide ((i : Int) < ((g.edges.map cu9).length : Int)) = false := by rw [hle]; simp; omega
  rw [ok, fl9 hge]
  repeat' (first | refine yz ?_ | refine yx ?_ | (refine yy ?_ ?_ <;> intro _) | exact zD | exact zL)
end Go.Proofs.YtaiiailapeffgaaGreatDoor
namespace Go.Proofs.YtaiiailapeffgaaGreatDoor
set_option maxRecDepth 4000
open Go Go.Abs Go.Val Go.Proofs.Tryz
attribute [local irreducible] go SGo an2 Ev aw0 EvO EvS
inductive Ex where
 | mk (op : Int) (v : V) (nm : ByteArray) (ds : Bool) (ks : List Ex)
 deriving Inhabited
def Ex.op : Ex → Int | .mk op _ _ _ _ => op
def Ex.v : Ex → V | .mk _ v _ _ _ => v
def Ex.nm : Ex → ByteArray | .mk _ _ nm _ _ => nm
def Ex.ds : Ex → Bool | .mk _ _ _ ds _ => ds
def Ex.ks : Ex → List Ex | .mk _ _ _ _ ks => ks
theorem Ex.eta (e : Ex) : Ex.mk e.op e.v e.nm e.ds e.ks = e := by cases e; rfl
mutual
def cy1 : Ex → List D
 | .mk _ _ _ _ l => cy2 l
def cy2 : List Ex → List D
 | [] => []
 | e :: r => .agg [.int e.op, .int e.v.k, .int e.v.n, .int e.v.d, .str e.v.s, .sl (kids e.v), .str e.nm, .bool e.ds, .sl (cy1 e)] :: cy2 r
end
def cy3 (e : Ex) : D := .agg [.int e.op, .int e.v.k, .int e.v.n, .int e.v.d, .str e.v.s, .sl (kids e.v), .str e.nm, .bool e.ds, .sl (cy1 e)]
theorem cy4 (l : List Ex) : cy2 l = l.map cy3 := by
 induction l with
 | nil => simp [cy2]
 | cons v r ih => simp [cy2, ih, cy3]
theorem cy5 (e : Ex) : cy1 e = e.ks.map cy3 := by
 cases e
 simp [cy1, cy4, Ex.ks]
theorem cy6 {e : Ex} {i : Nat} {x : Ex} (h : e.ks[i]? = some x) : (cy1 e)[i]? = some (cy3 x) := by
 rw [cy5, fk7, h]; rfl
theorem cy7 {l : List Ex} {i : Nat} {x : Ex} (h : l[i]? = some x) : (cy2 l)[i]? = some (cy3 x) := by
 rw [cy4, fk7, h]; rfl
theorem cy8 (e : Ex) : (cy1 e).length = e.ks.length := by rw [cy5]; simp
theorem cy9 (l : List Ex) : (cy2 l).length = l.length := by rw [cy4]; simp
theorem cz0 {e : Ex} (h : Fit (cy3 e)) : inR .i64 e.op ∧ Fit (enc e.v) ∧ e.nm.size ≤ 9223372036854775807 ∧ e.ks.length ≤ 9223372036854775807 ∧ ∀ x ∈ e.ks, Fit (cy3 x) := by
 have hc := h.aggs;have h5 := (hc (.sl (cy1 e)) (by simp)).sls;rw [cy8] at h5;refine ⟨(hc (.int e.op) (by simp)).int, ?_, (hc (.str e.nm) (by simp)).str, h5.1, fun x hx => h5.2 _ ?_⟩
 ·refine Fit.agg _ fun c hm => hc c ?_
  simp only [fl1, List.not_mem_nil, or_false] at hm ⊢;rcases hm with rfl | rfl | rfl | rfl | rfl <;> simp
 ·rw [cy5];exact fr8 hx
theorem cz1 {l : List Ex} (h : Fit (.sl (cy2 l))) : l.length ≤ 9223372036854775807 ∧ ∀ x ∈ l, Fit (cy3 x) := by
 have h5 := h.sls;rw [cy9] at h5;refine ⟨h5.1, fun x hx => h5.2 _ ?_⟩;rw [cy4];exact fr8 hx
theorem cz2 {P : Ex → Prop} (h : ∀ op v nm ds ks, (∀ x ∈ ks, P x) → P (.mk op v nm ds ks)) : ∀ e, P e := by
 intro e;refine Ex.rec (motive_1 := P) (motive_2 := fun l => ∀ x ∈ l, P x) (fun op v nm ds ks ih => h op v nm ds ks ih) (fun x hx => by simp at hx) (fun a r ha hr x hx => ?_) e;rcases fl1.1 hx with rfl | hx
 ·exact ha
 ·exact hr x hx
end Go.Proofs.YtaiiailapeffgaaGreatDoor
namespace Go.Proofs.YtaiiailapeffgaaGreatDoor
set_option maxRecDepth 4000
open Go Go.Abs Go.Val Go.Proofs.Tryz
attribute [local irreducible] go SGo an2 Ev aw0 EvO EvS
def cz3 (n : Int) : Bool := (decide (n ≥ 97) && decide (n ≤ 122)) || (decide (n ≥ 65) && decide (n ≤ 90))
def wcF (n : Int) : Bool := cz3 n || ((decide (n ≥ 48) && decide (n ≤ 57)) || n == 95)
def cz4 (s : ByteArray) : Bool := decide (1 ≤ s.size) && (decide (s.size ≤ 20) && (cz3 (ag0 s 0) && (List.range s.size).all fun j => wcF (ag0 s j)))
theorem cz5 (n : Int) : Ev E 256 [.imm (.int .u8 n)] (.d (.bool (cz3 n))) := by
 refine ye1 func256 ntmps256 fun _ _ _=>?_
 repeat' (first | refine yz ?_ | (refine yy ?_ ?_ <;> intro _))
 all_goals (refine congrArg D.bool ?_; simp_all [cz3] <;> omega)
theorem cz6 (n : Int) : Ev E 167 [.imm (.int .u8 n)] (.d (.bool (cz3 n))) := by
 refine ye1 func167 ntmps167 fun _ _ _=>?_
 repeat' (first | refine yz ?_ | (refine yy ?_ ?_ <;> intro _))
 all_goals (refine congrArg D.bool ?_; simp_all [cz3] <;> omega)
structure SNm (s : ByteArray) where
 i : Nat
 hi : i ≤ s.size
 ok : ((List.range s.size).all fun j => wcF (ag0 s j)) = ((List.range s.size).drop i).all fun j => wcF (ag0 s j)
theorem cz7 {n i : Nat} (h : i < n) : (List.range n)[i]? = some i := by rw [fq5 h]
theorem cz8 (s : ByteArray) (i : Nat) (h : i < s.size) : 0 ≤ ag0 s i ∧ ag0 s i ≤ 255 := by
 obtain ⟨b, -, hb2⟩ := by7 h;rw [hb2];have := b.toNat_lt;omega
set_option maxHeartbeats 2000000 in
theorem cz9 (s : ByteArray) : Ev E 193 [.str s] (.d (.bool (cz4 s))) := Ev.fit fun hfit => by
 have hs := (hfit (.str s) (by simp)).str
 by_cases h0 : s.size = 0
 ·have hse : s = ByteArray.empty := by simpa using h0
  have gs : (s.toList == (⟨#[]⟩ : ByteArray).toList) = true := by rw [hse]; exact beq_self_eq_true ByteArray.empty.toList
  have e : cz4 s = false := by unfold cz4; rw [h0]; rfl
  rw [e];refine ye1 func193 ntmps193 fun _ _ _=>?_
  repeat' (first | refine yz ?_ | refine yx ?_ | exact zD)
 have g0 : (s.toList == (⟨#[]⟩ : ByteArray).toList) = false := by
  rw [beq_eq_false_iff_ne];intro e;rw [ByteArray.toList_eq, ByteArray.toList_eq] at e;have := congrArg List.length e;simp at this;exact h0 (by rw [this]; rfl)
 cases h20 : decide (s.size ≤ 20) with
 | false =>
  have g1 : decide ((s.size : Int) > 20) = true := by simp at h20 ⊢; omega
  have e : cz4 s = false := by unfold cz4; rw [h20]; simp
  rw [e];refine ye1 func193 ntmps193 fun _ _ _=>?_
  repeat' (first | refine yz ?_ | refine yx ?_ | exact zD)
 | true =>
  have g1 : decide ((s.size : Int) > 20) = false := by simp at h20 ⊢; omega
  have hb0 := cz8 s 0 (by omega);have hl := cz5 (ag0 s 0)
  cases hl0 : cz3 (ag0 s 0) with
  | false =>
   rw [hl0] at hl;have e : cz4 s = false := by unfold cz4; rw [hl0]; simp
   rw [e];refine ye1 func193 ntmps193 fun _ _ _=>?_
   repeat' (first | refine yz ?_ | refine yp bv4 hl ?_ | refine yx ?_ | exact zD)
  | true =>
   rw [hl0] at hl
   have e : cz4 s = (List.range s.size).all fun j => wcF (ag0 s j) := by
    unfold cz4; rw [hl0, h20, show decide (1 ≤ s.size) = true by simp; omega]; rfl
   rw [e];refine ye1 func193 ntmps193 fun _ _ _=>?_
   repeat' (first | refine yz ?_ | refine yp bv4 hl ?_ | refine yx ?_)
   refine ac7 (α := SNm s) (fun p => ⟨[(0, .d (.str s)), (18, .d (.int s.size)), (19, .d (.int p.i))], []⟩) (fun p => s.size - p.i) ⟨0, by omega, rfl⟩ (zle 0) ?_;rintro ⟨i, hi, ok⟩;dsimp only;rcases fk1 i s.size with hlt | hge
   ·have hd : decide ((i : Int) < (s.size : Int)) = true := by simpa using hlt
    have hb := cz8 s i hlt;rw [ok, bz3 (cz7 hlt), fn7];have hli := cz5 (ag0 s i);have hti : (i : Int).toNat = i := fl0 i;rw [← hti] at hli hb
    cases hl1 : cz3 (ag0 s (i : Int).toNat) with
    | true =>
     rw [hl1] at hli;rw [hti] at hl1;have hw : wcF (ag0 s i) = true := by unfold wcF; rw [hl1]; rfl
     repeat' (first | refine yz ?_ | refine yp bv4 hli ?_)
     refine ac1 ?_;exact ⟨⟨i + 1, by omega, by rw [ok, bz3 (cz7 hlt), fn7, hw, fm3]⟩, by dsimp only; omega, (zle 0)⟩
    | false =>
     rw [hl1] at hli
     have key : ∀ b, ((decide (ag0 s i ≥ 48) && decide (ag0 s i ≤ 57)) || ag0 s i == 95) = b → wcF (ag0 s i) = b := by
      intro b hb;unfold wcF;rw [← hti, hl1, hti, hb, fn1]
     cases h48 : decide (ag0 s (i : Int).toNat < 48) with
     | true =>
      cases h95 : ag0 s (i : Int).toNat != 95 with
      | true =>
       have hw : wcF (ag0 s i) = false := key _ (by rw [hti] at h48 h95; simp at h48 h95 ⊢; exact ⟨fun h => by omega, h95⟩)
       repeat' (first | refine yz ?_ | refine yp bv4 hli ?_ | refine yx ?_)
       rw [hw]; rfl
      | false =>
       have hw : wcF (ag0 s i) = true := key _ (by rw [hti] at h48 h95; simp at h48 h95 ⊢; exact .inr h95)
       repeat' (first | refine yz ?_ | refine yp bv4 hli ?_ | refine yx ?_)
       refine ac1 ?_;exact ⟨⟨i + 1, by omega, by rw [ok, bz3 (cz7 hlt), fn7, hw, fm3]⟩, by dsimp only; omega, (zle 0)⟩
     | false =>
      cases h57 : decide (ag0 s (i : Int).toNat > 57) with
      | false =>
       have hw : wcF (ag0 s i) = true := key _ (by rw [hti] at h48 h57; simp at h48 h57 ⊢; exact .inl ⟨h48, h57⟩)
       repeat' (first | refine yz ?_ | refine yp bv4 hli ?_ | refine yx ?_)
       refine ac1 ?_;exact ⟨⟨i + 1, by omega, by rw [ok, bz3 (cz7 hlt), fn7, hw, fm3]⟩, by dsimp only; omega, (zle 0)⟩
      | true =>
       cases h95 : ag0 s (i : Int).toNat != 95 with
       | true =>
        have hw : wcF (ag0 s i) = false := key _ (by rw [hti] at h48 h57 h95; simp at h48 h57 h95 ⊢; exact ⟨fun h => by omega, h95⟩)
        repeat' (first | refine yz ?_ | refine yp bv4 hli ?_ | refine yx ?_)
        rw [hw]; rfl
       | false =>
        have hw : wcF (ag0 s i) = true := key _ (by rw [hti] at h95; simp at h95 ⊢; exact .inr h95)
        repeat' (first | refine yz ?_ | refine yp bv4 hli ?_ | refine yx ?_)
        refine ac1 ?_;exact ⟨⟨i + 1, by omega, by rw [ok, bz3 (cz7 hlt), fn7, hw, fm3]⟩, by dsimp only; omega, (zle 0)⟩
   ·have hd : decide ((i : Int) < (s.size : Int)) = false := by simp; omega
    have : (List.range s.size).drop i = [] := fl9 (by simpa using hge);rw [ok, this]
    repeat' (first | refine yz ?_ | exact zD)
set_option maxHeartbeats 2000000 in
theorem da0 (s : ByteArray) : Ev E 109 [.str s] (.d (.bool (cz4 s))) := Ev.fit fun hfit => by
 have hs := (hfit (.str s) (by simp)).str
 cases h0 : decide (1 ≤ s.size) with
 | false =>
  have g0 := yT ((s.size : Int) < 1) (by have := of_decide_eq_false h0; omega);have e : cz4 s = false := by unfold cz4; rw [h0]; simp
  rw [e];refine ye1 func109 ntmps109 fun _ _ _=>?_
  repeat' (first | refine yz ?_ | refine yx ?_ | exact zD)
 | true =>
 have hs1 := of_decide_eq_true h0;have g0 : decide ((s.size : Int) < 1) = false := by simp; omega
 cases h20 : decide (s.size ≤ 20) with
 | false =>
  have g1 : decide ((s.size : Int) > 20) = true := by simp at h20 ⊢; omega
  have e : cz4 s = false := by unfold cz4; rw [h20]; simp
  rw [e];refine ye1 func109 ntmps109 fun _ _ _=>?_
  repeat' (first | refine yz ?_ | refine yx ?_ | exact zD)
 | true =>
  have g1 : decide ((s.size : Int) > 20) = false := by simp at h20 ⊢; omega
  have hb0 := cz8 s 0 (by omega);have hl := cz6 (ag0 s 0)
  cases hl0 : cz3 (ag0 s 0) with
  | false =>
   rw [hl0] at hl;have e : cz4 s = false := by unfold cz4; rw [hl0]; simp
   rw [e];refine ye1 func109 ntmps109 fun _ _ _=>?_
   repeat' (first | refine yz ?_ | refine yp bu5 hl ?_ | refine yx ?_ | exact zD)
  | true =>
   rw [hl0] at hl
   have e : cz4 s = (List.range s.size).all fun j => wcF (ag0 s j) := by
    unfold cz4; rw [hl0, h20, h0]; rfl
   have hw0 : wcF (ag0 s 0) = true := by unfold wcF; rw [hl0]; rfl
   have hst1 : ((List.range s.size).all fun j => wcF (ag0 s j)) = ((List.range s.size).drop 1).all fun j => wcF (ag0 s j) := by
    have := bz3 (cz7 (show 0 < s.size by omega));rw [fq4] at this
    conv => lhs; rw [this]
    rw [fn7, hw0, fm3]
   rw [e];refine ye1 func109 ntmps109 fun _ _ _=>?_
   repeat' (first | refine yz ?_ | refine yp bu5 hl ?_ | refine yx ?_)
   refine ac7 (α := SNm s) (fun p => ⟨[(0, .d (.str s)), (3, .d (.int p.i))], []⟩) (fun p => s.size - p.i) ⟨1, by omega, hst1⟩ (zle 0) ?_;rintro ⟨i, hi, ok⟩;dsimp only;rcases fk1 i s.size with hlt | hge
   ·have hd : decide ((i : Int) < (s.size : Int)) = true := by simpa using hlt
    have hb := cz8 s i hlt;rw [ok, bz3 (cz7 hlt), fn7];have hli := cz6 (ag0 s i);have hti : (i : Int).toNat = i := fl0 i;rw [← hti] at hli hb
    cases hl1 : cz3 (ag0 s (i : Int).toNat) with
    | true =>
     rw [hl1] at hli;rw [hti] at hl1;have hw : wcF (ag0 s i) = true := by unfold wcF; rw [hl1]; rfl
     repeat' (first | refine yz ?_ | refine yp bu5 hli ?_)
     refine ac1 ?_;exact ⟨⟨i + 1, by omega, by rw [ok, bz3 (cz7 hlt), fn7, hw, fm3]⟩, by dsimp only; omega, (zle 0)⟩
    | false =>
     rw [hl1] at hli
     have key : ∀ b, ((decide (ag0 s i ≥ 48) && decide (ag0 s i ≤ 57)) || ag0 s i == 95) = b → wcF (ag0 s i) = b := by
      intro b hb;unfold wcF;rw [← hti, hl1, hti, hb, fn1]
     cases h95 : ag0 s (i : Int).toNat != 95 with
     | false =>
      have hw : wcF (ag0 s i) = true := key _ (by rw [hti] at h95; simp at h95 ⊢; exact .inr h95)
      repeat' (first | refine yz ?_ | refine yp bu5 hli ?_ | refine yx ?_)
      refine ac1 ?_;exact ⟨⟨i + 1, by omega, by rw [ok, bz3 (cz7 hlt), fn7, hw, fm3]⟩, by dsimp only; omega, (zle 0)⟩
     | true =>
      cases h48 : decide (ag0 s (i : Int).toNat < 48) with
      | true =>
       have hw : wcF (ag0 s i) = false := key _ (by rw [hti] at h48 h95; simp at h48 h95 ⊢; exact ⟨fun h => by omega, h95⟩)
       repeat' (first | refine yz ?_ | refine yp bu5 hli ?_ | refine yx ?_)
       rw [hw]; rfl
      | false =>
       cases h57 : decide (ag0 s (i : Int).toNat > 57) with
       | false =>
        have hw : wcF (ag0 s i) = true := key _ (by rw [hti] at h48 h57; simp at h48 h57 ⊢; exact .inl ⟨h48, h57⟩)
        repeat' (first | refine yz ?_ | refine yp bu5 hli ?_ | refine yx ?_)
        refine ac1 ?_;exact ⟨⟨i + 1, by omega, by rw [ok, bz3 (cz7 hlt), fn7, hw, fm3]⟩, by dsimp only; omega, (zle 0)⟩
       | true =>
        have hw : wcF (ag0 s i) = false := key _ (by rw [hti] at h48 h57 h95; simp at h48 h57 h95 ⊢; exact ⟨fun h => by omega, h95⟩)
        repeat' (first | refine yz ?_ | refine yp bu5 hli ?_ | refine yx ?_)
        rw [hw]; rfl
   ·have hd : decide ((i : Int) < (s.size : Int)) = false := by simp; omega
    have : (List.range s.size).drop i = [] := fl9 (by simpa using hge);rw [ok, this]
    repeat' (first | refine yz ?_ | exact zD)
end Go.Proofs.YtaiiailapeffgaaGreatDoor
namespace Go.Proofs.YtaiiailapeffgaaGreatDoor
set_option maxRecDepth 4000
open Go Go.Abs Go.Val Go.Proofs.Tryz
def da1 : List (List UInt8) → List UInt8
 | [] => [32]
 | w :: r => 32 :: (w ++ da1 r)
theorem da2 : ∀ r, ∃ t, da1 r = 32 :: t
 | [] => ⟨[], rfl⟩
 | w :: r => ⟨w ++ da1 r, rfl⟩
theorem da3 (b : UInt8) (l sub : List UInt8) : Lib.contains (b :: l) sub = (sub.isPrefixOf (b :: l) || Lib.contains l sub) := by
 unfold Lib.contains;have hg := Lib.index_ge l sub;rw [show Lib.index (b :: l) sub = if sub.isPrefixOf (b :: l) then 0 else if Lib.index l sub == -1 then -1 else Lib.index l sub + 1 from rfl]
 cases hp : sub.isPrefixOf (b :: l) with
 | true => simp
 | false =>
  simp only [Bool.false_eq_true, if_false, fn1]
  by_cases h : Lib.index l sub = -1
  ·simp [h]
  ·have hb : (Lib.index l sub == -1) = false := by rw [beq_eq_false_iff_ne]; exact h
   rw [hb];simp only [Bool.false_eq_true, if_false, decide_eq_decide];omega
theorem da4 (p : List UInt8) : ∀ (w l : List UInt8), (32 : UInt8) ∉ w → Lib.contains (w ++ l) (32 :: p) = Lib.contains l (32 :: p)
 | [], l, _ => rfl
 | b :: w, l, h => by
  simp only [fl1, not_or] at h;have hb : ((32 : UInt8) == b) = false := by rw [beq_eq_false_iff_ne]; exact h.1
  rw [fs4, da3, da4 p w l h.2];have : (32 :: p).isPrefixOf (b :: (w ++ l)) = false := by simp only [List.isPrefixOf, hb, fn3]
  rw [this, fn1]
theorem da5 : ∀ (U w t : List UInt8), (32 : UInt8) ∉ U → (32 : UInt8) ∉ w → (U ++ [32]).isPrefixOf (w ++ 32 :: t) = (U == w)
 | [], [], t, _, _ => by simp [List.isPrefixOf]
 | [], b :: w, t, _, h => by
  simp only [fl1, not_or] at h;have hb : ((32 : UInt8) == b) = false := by rw [beq_eq_false_iff_ne]; exact h.1
  simp only [fr2, fs4, List.isPrefixOf, hb, fn3];rfl
 | a :: U, [], t, h, _ => by
  simp only [fl1, not_or] at h;have ha : (a == (32 : UInt8)) = false := by rw [beq_eq_false_iff_ne]; exact fun e => h.1 e.symm
  simp only [fr2, fs4, List.isPrefixOf, ha, fn3];rfl
 | a :: U, b :: w, t, h, h' => by
  simp only [fl1, not_or] at h h';simp only [fs4, List.isPrefixOf];rw [da5 U w t h.2 h'.2];rfl
theorem da6 (U : List UInt8) (hU : (32 : UInt8) ∉ U) : ∀ ws : List (List UInt8), (∀ w ∈ ws, (32 : UInt8) ∉ w) → Lib.contains (da1 ws) (32 :: (U ++ [32])) = ws.any fun w => U == w
 | [], _ => by
  have : (32 :: (U ++ [32])).isPrefixOf [(32 : UInt8)] = false := by cases U <;> simp [List.isPrefixOf]
  rw [da1, da3, this];simp [Lib.contains, Lib.index]
 | w :: r, h => by
  obtain ⟨t, ht⟩ := da2 r;have ih := da6 U hU r fun x hx => h x (by simp [hx])
  rw [da1, da3, da4 _ w _ (h w (by simp)), ih, List.any_cons];congr 1;rw [ht];show ((32 : UInt8) == 32 && (U ++ [32]).isPrefixOf (w ++ 32 :: t)) = _;rw [da5 U w t hU (h w (by simp))];rfl
attribute [local irreducible] Ev EvO EvS aw0 an2 SGo go
def isS (s : ByteArray) (t : ByteArray) : Bool := s.toList == t.toList
def da7 (s : ByteArray) : Bool := isS s ⟨#[105, 100]⟩ || (isS s ⟨#[116, 121, 112, 101]⟩ || (isS s ⟨#[108, 97, 98, 101, 108, 115]⟩ || (isS s ⟨#[115, 105, 122, 101]⟩ || (isS s ⟨#[108, 101, 110, 103, 116, 104]⟩ || (isS s ⟨#[110, 111, 100, 101, 115]⟩ ||
 (isS s ⟨#[101, 100, 103, 101, 115]⟩ || (isS s ⟨#[102, 105, 114, 115, 116]⟩ || (isS s ⟨#[108, 97, 115, 116]⟩ || (isS s ⟨#[115, 116, 97, 114, 116]⟩ || (isS s ⟨#[101, 110, 100]⟩ || (isS s ⟨#[97, 98, 115]⟩ || isS s ⟨#[116, 101, 120, 116]⟩)))))))))))
def da8 (s : ByteArray) : Bool := isS s ⟨#[99, 111, 97, 108, 101, 115, 99, 101]⟩
def da9 (s : ByteArray) : Int := bif da7 s then 1 else bif da8 s then 2 else 0
def db0 (s : ByteArray) : Int := bif da7 s then 1 else bif da8 s then 4 else 0
def db1 (s : ByteArray) : Bool := isS s ⟨#[99, 111, 117, 110, 116]⟩ || (isS s ⟨#[115, 117, 109]⟩ || (isS s ⟨#[109, 105, 110]⟩ || (isS s ⟨#[109, 97, 120]⟩ || (isS s ⟨#[97, 118, 103]⟩ || isS s ⟨#[99, 111, 108, 108, 101, 99, 116]⟩))))
theorem db2 (s : ByteArray) : Ev E 138 [.str s] (.tup [.int (da9 s), .int (db0 s)]) := by
 refine ye1 func138 ntmps138 fun _ _ _=>?_
 repeat' (first | refine yz ?_ | (refine qV rfl ?_ ?_ <;> intro _))
 all_goals simp_all [da9, db0, da7, da8, isS, fr3]
theorem db3 (s : ByteArray) : Ev E 225 [.str s] (.tup [.int (da9 s), .int (db0 s)]) := by
 refine ye1 func225 ntmps225 fun _ _ _=>?_
 repeat' (first | refine yz ?_ | (refine qV rfl ?_ ?_ <;> intro _))
 all_goals simp_all [da9, db0, da7, da8, isS, fr3]
theorem db4 (s : ByteArray) : Ev E 142 [.str s] (.d (.bool (db1 s))) := by
 refine ye1 func142 ntmps142 fun _ _ _=>?_
 repeat' (first | refine yz ?_ | (refine qV rfl ?_ ?_ <;> intro _))
 all_goals (refine congrArg D.bool ?_; simp_all [db1, isS])
theorem db5 (s : ByteArray) : Ev E 224 [.str s] (.d (.bool (db1 s))) := by
 refine ye1 func224 ntmps224 fun _ _ _=>?_
 repeat' (first | refine yz ?_ | (refine qV rfl ?_ ?_ <;> intro _))
 all_goals (refine congrArg D.bool ?_; simp_all [db1, isS])
def db6 (v : V) : Bool := v.k == 0 && (v.n == 0 && (v.d == 0 && (s0 v.s && l0 v)))
theorem db7 (v : V) : Ev E 139 [enc v] (.d (.bool (db6 v))) := by
 refine ye1 func139 ntmps139 fun _ _ _=>?_
 repeat' (first | refine yz ?_ | (refine yy ?_ ?_ <;> intro _))
 all_goals (refine congrArg D.bool ?_; simp_all [db6, s0, l0])
theorem db8 (v : V) : Ev E 156 [enc v] (.d (.bool (db6 v))) := by
 refine ye1 func156 ntmps156 fun _ _ _=>?_
 repeat' (first | refine yz ?_ | (refine yy ?_ ?_ <;> intro _))
 all_goals (refine congrArg D.bool ?_; simp_all [db6, s0, l0])
def kn0 (e : Ex) : Int := ((cy1 e).length : Int)
def db9 (e : Ex) : Bool :=
 bif e.op == 1 || e.op == 2 then kn0 e == 0 else
 bif e.op == 3 || (e.op == 4 || (e.op == 5 || (e.op == 6 || e.op == 21))) then kn0 e == 1 else
 bif e.op == 22 then decide (kn0 e ≤ 16) else
 bif e.op == 23 then da9 e.nm == 0 || (decide (kn0 e ≥ da9 e.nm) && decide (kn0 e ≤ db0 e.nm)) else
 bif e.op == 24 then kn0 e == 1 || (kn0 e == 0 && (isS e.nm ⟨#[99, 111, 117, 110, 116]⟩ && !e.ds)) else kn0 e == 2
theorem dc0 (s : ByteArray) : (db0 s == 0) = (da9 s == 0) := by
 unfold db0 da9
 cases da7 s <;> cases da8 s <;> rfl
theorem dc1 (e : Ex) : Ev E 86 [cy3 e] (.d (.bool (db9 e))) := by
 have ha := db2 e.nm;refine ye1 func86 ntmps86 fun _ _ _=>?_
 repeat' (first | refine yz ?_ | refine yp b138 ha ?_ | (refine yy ?_ ?_ <;> intro _) | (refine qV rfl ?_ ?_ <;> intro _))
 all_goals (refine congrArg D.bool ?_; simp_all [db9, kn0, isS, fr3] <;> first | rfl | (intro h; exfalso; omega) | (rw [show (da9 e.nm == 0) = false by rw [beq_eq_false_iff_ne]; assumption]; rfl))
theorem dc2 (e : Ex) : Ev E 222 [cy3 e] (.d (.bool (db9 e))) := by
 have ha := db3 e.nm;have hz := dc0 e.nm;refine ye1 func222 ntmps222 fun _ _ _=>?_
 repeat' (first | refine yz ?_ | refine yp b225 ha ?_ | (refine yy ?_ ?_ <;> intro _) | (refine qV rfl ?_ ?_ <;> intro _))
 all_goals (refine congrArg D.bool ?_; simp_all [db9, kn0, isS, fr3] <;> first | rfl | (intro h; exfalso; omega) | (rw [show (da9 e.nm == 0) = false by rw [beq_eq_false_iff_ne]; assumption]; rfl))
def dc3 (op : Int) : Bool := op == 2 || (op == 3 || (op == 4 || (op == 23 || op == 24)))
theorem dc4 (op : Int) : Ev E 223 [.int op] (.d (.bool (dc3 op))) := by
 refine ye1 func223 ntmps223 fun _ _ _=>?_
 repeat' (first | refine yz ?_ | (refine yy ?_ ?_ <;> intro _))
 all_goals (refine congrArg D.bool ?_; simp_all [dc3] <;> (rw [fm5]; simp [*]))
def dc5 (e : Ex) : Bool := (e.op == 1 || db6 e.v) && ((dc3 e.op || isS e.nm ⟨#[]⟩) && (e.op == 24 || !e.ds))
theorem dc6 (e : Ex) : Ev E 87 [cy3 e] (.d (.bool (dc5 e))) := by
 have hb := db7 e.v;refine ye1 func87 ntmps87 fun _ _ _=>?_
 repeat' (first | refine yz ?_ | refine yp b139 hb ?_ | refine yx ?_ | (refine yy ?_ ?_ <;> intro _))
 all_goals (refine congrArg D.bool ?_; simp_all [dc5, dc3, isS])
def dc7 (v : V) : Bool := db6 v || ((v.k == 1 || (v.k == 2 || v.k == 4)) && Val.okV v)
theorem dc8 (v : V) : Ev E 88 [enc v] (.d (.bool (dc7 v))) := by
 have hb := db7 v;have hv := ca6 cc1 v;refine ye1 func88 ntmps88 fun _ _ _=>?_
 repeat' (first | refine yz ?_ | refine yp b139 hb ?_ | refine yp bt7 hv ?_ | (refine yy ?_ ?_ <;> intro _))
 all_goals (refine congrArg D.bool ?_; simp_all [dc7])
mutual
def nd : Ex → Nat
 | .mk _ _ _ _ l => ndL l + 1
def ndL : List Ex → Nat
 | [] => 0
 | x :: r => nd x + ndL r
end
theorem dc9 (e : Ex) : nd e = ndL e.ks + 1 := by cases e; simp [nd, Ex.ks]
theorem dd0 : ∀ {l : List Ex} {x : Ex}, x ∈ l → nd x ≤ ndL l
 | [], x, h => by simp at h
 | y :: r, x, h => by
  simp only [ndL];rcases fl1.1 h with e | e
  ·rw [e]; omega
  ·have := dd0 e; omega
theorem dd1 {l : List Ex} {i : Nat} {x : Ex} (h : l[i]? = some x) : ndL (l.drop i) = nd x + ndL (l.drop (i + 1)) := by
 rw [bz3 h]; rfl
structure SNd (l : List Ex) where
 i : Nat
 n : Nat
 hi : i ≤ l.length
 ok : ndL l + 1 = n + ndL (l.drop i)
theorem dd2 (e : Ex) : nd e ≤ 1000000 → Ev E 46 [cy3 e] (.d (.int (nd e))) := by
 refine cz2 (P := fun e => nd e ≤ 1000000 → Ev E 46 [cy3 e] (.d (.int (nd e)))) (fun op v nm ds ks ih hb => ?_) e;refine Ev.fit fun hfit => ?_
 obtain ⟨-, -, -, hmax, -⟩ := cz0 (hfit (cy3 (.mk op v nm ds ks)) (by simp));simp only [Ex.ks] at hmax;have hlen : (cy1 (.mk op v nm ds ks)).length = ks.length := cy8 _;have hnd : nd (.mk op v nm ds ks) = ndL ks + 1 := dc9 _;rw [hnd] at hb ⊢;refine ye1 func46 ntmps46 fun _ _ _=>?_
 repeat' (refine yz ?_)
 refine ac7 (α := SNd ks) (fun p => ⟨[(3, .d (.int p.n)), (7, .d (.sl (cy1 (.mk op v nm ds ks)))), (8, .d (.int (cy1 (.mk op v nm ds ks)).length)), (9, .d (.int p.i))], []⟩) (fun p => ks.length - p.i) ⟨0, 1, by omega, by rw [fq4]; omega⟩ (zle 0) ?_;rintro ⟨i, n, hi, ok⟩;dsimp only;rcases fk1 i ks.length with hlt | hge
 ·have hd1 : decide ((i : Int) < ((cy1 (.mk op v nm ds ks)).length : Int)) = true := by rw [hlen]; simpa using hlt
  have hx0 := fk0 hlt;generalize ks[i] = x at hx0;have hx : (cy1 (.mk op v nm ds ks))[(i : Int).toNat]? = some (cy3 x) := cy6 (e := .mk op v nm ds ks) (by rw [fl0]; exact hx0);have hdr := dd1 hx0;have hm := dd0 (fk4 hx0);have hs := ih x (fk4 hx0) (by omega)
  repeat' (first | refine yz ?_ | refine yi (cy3 x) hx ?_ | refine yp b46 hs ?_)
  refine ac1 ?_;refine ⟨⟨i + 1, n + nd x, by omega, by omega⟩, by dsimp only; omega, ?_⟩;dsimp only;rw [Int.natCast_add];exact (zle 0)
 ·have hd1 : decide ((i : Int) < ((cy1 (.mk op v nm ds ks)).length : Int)) = false := by rw [hlen]; simp; omega
  have : ks.drop i = [] := fl9 hge;rw [ok, this]
  repeat' (first | refine yz ?_ | exact zD)
theorem dd3 (e : Ex) : nd e ≤ 1000000 → Ev E 107 [cy3 e] (.d (.int (nd e))) := by
 refine cz2 (P := fun e => nd e ≤ 1000000 → Ev E 107 [cy3 e] (.d (.int (nd e)))) (fun op v nm ds ks ih hb => ?_) e;refine Ev.fit fun hfit => ?_
 obtain ⟨-, -, -, hmax, -⟩ := cz0 (hfit (cy3 (.mk op v nm ds ks)) (by simp));simp only [Ex.ks] at hmax;have hlen : (cy1 (.mk op v nm ds ks)).length = ks.length := cy8 _;have hnd : nd (.mk op v nm ds ks) = ndL ks + 1 := dc9 _;rw [hnd] at hb ⊢;refine ye1 func107 ntmps107 fun _ _ _=>?_
 repeat' (refine yz ?_)
 refine ac7 (α := SNd ks) (fun p => ⟨[(1, .ptr 0 0), (3, .d (.int p.n)), (4, .d (.int p.i))], [.var 27 (.w (.d (cy3 (.mk op v nm ds ks))))]⟩) (fun p => ks.length - p.i) ⟨0, 1, by omega, by rw [fq4]; omega⟩ (zle 1) ?_;rintro ⟨i, n, hi, ok⟩;dsimp only;rcases fk1 i ks.length with hlt | hge
 ·have hd1 : decide ((i : Int) < ((cy1 (.mk op v nm ds ks)).length : Int)) = true := by rw [hlen]; simpa using hlt
  have hx0 := fk0 hlt;generalize ks[i] = x at hx0;have hx : (cy1 (.mk op v nm ds ks))[(i : Int).toNat]? = some (cy3 x) := cy6 (e := .mk op v nm ds ks) (by rw [fl0]; exact hx0);have hdr := dd1 hx0;have hm := dd0 (fk4 hx0);have hs := ih x (fk4 hx0) (by omega)
  repeat' (first | refine yz ?_ | refine yi (cy3 x) hx ?_ | refine yp b107 hs ?_)
  refine ac1 ?_;refine ⟨⟨i + 1, n + nd x, by omega, by omega⟩, by dsimp only; omega, ?_⟩;dsimp only;rw [Int.natCast_add];exact (zle 1)
 ·have hd1 : decide ((i : Int) < ((cy1 (.mk op v nm ds ks)).length : Int)) = false := by rw [hlen]; simp; omega
  have : ks.drop i = [] := fl9 hge;rw [ok, this]
  repeat' (first | refine yz ?_ | exact zD)
end Go.Proofs.YtaiiailapeffgaaGreatDoor
namespace Go.Proofs.YtaiiailapeffgaaGreatDoor
set_option maxRecDepth 4000
open Go Go.Abs Go.Val Go.Proofs.Tryz
attribute [local irreducible] go SGo an2 Ev aw0 EvO EvS
mutual
def dp : Ex → Nat
 | .mk _ _ _ _ l => dpL l + 1
def dpL : List Ex → Nat
 | [] => 0
 | x :: r => max (dp x) (dpL r)
end
theorem dd4 (e : Ex) : dp e = dpL e.ks + 1 := by cases e; simp [dp, Ex.ks]
theorem dd5 : ∀ {l : List Ex} {x : Ex}, x ∈ l → dp x ≤ dpL l
 | [], x, h => by simp at h
 | y :: r, x, h => by
  simp only [dpL];rcases fl1.1 h with e | e
  ·rw [e]; omega
  ·have := dd5 e; omega
theorem dd6 {l : List Ex} {i : Nat} {x : Ex} (h : l[i]? = some x) : dpL (l.drop i) = max (dp x) (dpL (l.drop (i + 1))) := by
 rw [bz3 h]; rfl
structure SDp (l : List Ex) where
 i : Nat
 n : Nat
 hi : i ≤ l.length
 ok : dpL l = max n (dpL (l.drop i))
theorem dd7 (e : Ex) : dp e ≤ 1000000 → Ev E 106 [cy3 e] (.d (.int (dp e))) := by
 refine cz2 (P := fun e => dp e ≤ 1000000 → Ev E 106 [cy3 e] (.d (.int (dp e)))) (fun op v nm ds ks ih hb => ?_) e;refine Ev.fit fun hfit => ?_
 obtain ⟨-, -, -, hmax, -⟩ := cz0 (hfit (cy3 (.mk op v nm ds ks)) (by simp));simp only [Ex.ks] at hmax;have hlen : (cy1 (.mk op v nm ds ks)).length = ks.length := cy8 _;have hnd : dp (.mk op v nm ds ks) = dpL ks + 1 := dd4 _;rw [hnd] at hb ⊢;refine ye1 func106 ntmps106 fun _ _ _=>?_
 repeat' (refine yz ?_)
 refine ac7 (α := SDp ks) (fun p => ⟨[(1, .ptr 0 0), (3, .d (.int p.n)), (4, .d (.int p.i))], [.var 27 (.w (.d (cy3 (.mk op v nm ds ks))))]⟩) (fun p => ks.length - p.i) ⟨0, 0, by omega, by rw [fq4]; omega⟩ (zle 1) ?_;rintro ⟨i, n, hi, ok⟩;dsimp only;rcases fk1 i ks.length with hlt | hge
 ·have hd1 : decide ((i : Int) < ((cy1 (.mk op v nm ds ks)).length : Int)) = true := by rw [hlen]; simpa using hlt
  have hx0 := fk0 hlt;generalize ks[i] = x at hx0;have hx : (cy1 (.mk op v nm ds ks))[(i : Int).toNat]? = some (cy3 x) := cy6 (e := .mk op v nm ds ks) (by rw [fl0]; exact hx0);have hdr := dd6 hx0;have hm := dd5 (fk4 hx0);have hs := ih x (fk4 hx0) (by omega)
  cases hgt : decide ((dp x : Int) > (n : Int)) with
  | true =>
   have hgt' := of_decide_eq_true hgt
   repeat' (first | refine yz ?_ | refine yi (cy3 x) hx ?_ | refine yp bs7 hs ?_)
   refine ac1 ?_;exact ⟨⟨i + 1, dp x, by omega, by omega⟩, by dsimp only; omega, (zle 1)⟩
  | false =>
   have hgt' := of_decide_eq_false hgt
   repeat' (first | refine yz ?_ | refine yi (cy3 x) hx ?_ | refine yp bs7 hs ?_)
   refine ac1 ?_;exact ⟨⟨i + 1, n, by omega, by omega⟩, by dsimp only; omega, (zle 1)⟩
 ·have hd1 : decide ((i : Int) < ((cy1 (.mk op v nm ds ks)).length : Int)) = false := by rw [hlen]; simp; omega
  have : ks.drop i = [] := fl9 hge;have hn : n = dpL ks := by rw [ok, this]; simp [dpL]
  subst hn
  repeat' (first | refine yz ?_ | exact zD)
theorem dd8 (e : Ex) : dp e ≤ 1000000 → Ev E 45 [cy3 e] (.d (.int (dp e))) := by
 refine cz2 (P := fun e => dp e ≤ 1000000 → Ev E 45 [cy3 e] (.d (.int (dp e)))) (fun op v nm ds ks ih hb => ?_) e;refine Ev.fit fun hfit => ?_
 obtain ⟨-, -, -, hmax, -⟩ := cz0 (hfit (cy3 (.mk op v nm ds ks)) (by simp));simp only [Ex.ks] at hmax;have hlen : (cy1 (.mk op v nm ds ks)).length = ks.length := cy8 _;have hnd : dp (.mk op v nm ds ks) = dpL ks + 1 := dd4 _;rw [hnd] at hb ⊢;refine ye1 func45 ntmps45 fun _ _ _=>?_
 repeat' (refine yz ?_)
 refine ac7 (α := SDp ks) (fun p => ⟨[(3, .d (.int p.n)), (7, .d (.sl (cy1 (.mk op v nm ds ks)))), (8, .d (.int (cy1 (.mk op v nm ds ks)).length)), (9, .d (.int p.i))], []⟩) (fun p => ks.length - p.i) ⟨0, 0, by omega, by rw [fq4]; omega⟩ (zle 0) ?_;rintro ⟨i, n, hi, ok⟩;dsimp only;rcases fk1 i ks.length with hlt | hge
 ·have hd1 : decide ((i : Int) < ((cy1 (.mk op v nm ds ks)).length : Int)) = true := by rw [hlen]; simpa using hlt
  have hx0 := fk0 hlt;generalize ks[i] = x at hx0;have hx : (cy1 (.mk op v nm ds ks))[(i : Int).toNat]? = some (cy3 x) := cy6 (e := .mk op v nm ds ks) (by rw [fl0]; exact hx0);have hdr := dd6 hx0;have hm := dd5 (fk4 hx0);have hs := ih x (fk4 hx0) (by omega)
  repeat' (first | refine yz ?_ | refine yi (cy3 x) hx ?_ | refine yp b45 hs ?_)
  refine ac1 ?_;refine ⟨⟨i + 1, max n (dp x), by omega, by omega⟩, by dsimp only; omega, ?_⟩;dsimp only;rw [show ((max n (dp x) : Nat) : Int) = max (n : Int) (dp x : Int) by omega];exact (zle 0)
 ·have hd1 : decide ((i : Int) < ((cy1 (.mk op v nm ds ks)).length : Int)) = false := by rw [hlen]; simp; omega
  have : ks.drop i = [] := fl9 hge;have hn : n = dpL ks := by rw [ok, this]; simp [dpL]
  subst hn
  repeat' (first | refine yz ?_ | exact zD)
end Go.Proofs.YtaiiailapeffgaaGreatDoor
namespace Go.Proofs.YtaiiailapeffgaaGreatDoor
set_option maxRecDepth 4000
open Go Go.Abs Go.Val Go.RowKit Go.Proofs.Tryz
attribute [local irreducible] go SGo an2 Ev aw0 EvO EvS
theorem dd9 (i : Nat) : Nat.blt i i = false := by
 cases h : Nat.blt i i with
 | false => rfl
 | true => simp at h
def upN (n : Int) : Int := bif decide (n ≥ 97) && decide (n ≤ 122) then n - 32 else n
def de0 (s : ByteArray) (i : Nat) : List D := (List.range s.size).map fun j => D.imm (.int .u8 (bif Nat.blt j i then upN (ag0 s j) else ag0 s j))
def upL (s : ByteArray) (i : Nat) : List Int := (List.range i).map fun j => upN (ag0 s j)
def upF (s : ByteArray) : ByteArray := Go.Abs.strOf (upL s s.size)
theorem de1 (s : ByteArray) (i : Nat) : (upL s i).length = i := by simp [upL]
theorem de2 (s : ByteArray) (i : Nat) : upL s (i + 1) = upL s i ++ [upN (ag0 s i)] := by simp [upL, List.range_succ]
theorem de3 (s : ByteArray) (i : Nat) : (de0 s i).length = s.size := by simp [de0]
theorem de4 {s : ByteArray} {i j : Nat} (h : j < s.size) : (de0 s i)[j]? = some (D.imm (.int .u8 (bif Nat.blt j i then upN (ag0 s j) else ag0 s j))) := by
 rw [de0, fk7, fq5 h]; rfl
theorem de5 (s : ByteArray) : de0 s 0 = bd7 s := by
 refine fq6 fun j => ?_
 rcases fk1 j s.size with h | h
 ·rw [de4 h, be0 h]; rfl
 ·rw [fn5 (by rw [de3]; exact h), fn5 (by rw [bd8]; exact h)]
theorem de6 {s : ByteArray} {i : Nat} (h : i < s.size) : (de0 s i).set i (.imm (.int .u8 (upN (ag0 s i)))) = de0 s (i + 1) := by
 refine fq6 fun j => ?_
 rcases fk1 j s.size with hj | hj
 ·rw [fo7, de4 hj, de4 hj]
  by_cases e : i = j
  ·subst e;rw [if_pos rfl, if_pos (by rw [de3]; exact h), show Nat.blt i (i + 1) = true by simp];rfl
  ·rw [if_neg e];have : Nat.blt j (i + 1) = Nat.blt j i := by rw [fm5]; simp; omega
   rw [this]
 ·rw [fn5 (by rw [List.length_set, de3]; exact hj), fn5 (by rw [de3]; exact hj)]
theorem de7 {s : ByteArray} {i : Nat} (h : i < s.size) (hn : upN (ag0 s i) = ag0 s i) : de0 s i = de0 s (i + 1) := by
 rw [← de6 h, hn];refine fq6 fun j => ?_
 rw [fo7]
 by_cases e : i = j
 ·subst e;rw [if_pos rfl, if_pos (by rw [de3]; exact h), de4 h, dd9];rfl
 ·rw [if_neg e]
theorem de8 (s : ByteArray) : de0 s s.size = (upL s s.size).map fun n => .imm (.int .u8 n) := by
 refine fq6 fun j => ?_
 rcases fk1 j s.size with hj | hj
 ·rw [de4 hj, upL, List.map_map, fk7, fq5 hj, show Nat.blt j s.size = true by simpa using hj];rfl
 ·rw [fn5 (by rw [de3]; exact hj), fn5 (by rw [fl4, de1]; exact hj)]
theorem de9 (ns : List Int) (n : Int) : Go.Abs.strOf (ns ++ [n]) = Go.Abs.strOf ns ++ Go.Abs.strOf [n] := by
 unfold Go.Abs.strOf;rw [List.foldl_append];simp only [List.foldl_cons, List.foldl_nil];apply ByteArray.ext;simp [ByteArray.push]
structure SUp (s : ByteArray) where
 i : Nat
 hi : i ≤ s.size
set_option maxHeartbeats 1000000 in
theorem df0 (s : ByteArray) : Ev E 258 [.str s] (.d (.str (upF s))) := Ev.fit fun hfit => by
 have hs := (hfit (.str s) (by simp)).str;have hlen : (bd7 s).length = s.size := bd8 s;refine ye1 func258 ntmps258 fun _ _ _=>?_
 repeat' (first | refine yz ?_ | refine be6 rfl rfl rfl rfl rfl rfl rfl rfl ?_)
 rw [hlen, ← de5];refine ac7 (α := SUp s) (fun p => ⟨[(3, .own 0), (8, .own 0), (9, .d (.int s.size)), (10, .d (.int p.i))], [.mrow 5 1 (de0 s p.i)]⟩) (fun p => s.size - p.i) ⟨0, by omega⟩ (zle 1) ?_;rintro ⟨i, hi⟩;dsimp only;have hrl := de3 s i;rcases fk1 i s.size with hlt | hge
 ·have hd1 : decide ((i : Int) < (s.size : Int)) = true := by simpa using hlt
  have hti : (i : Int).toNat = i := fl0 i;have hx : (de0 s i)[(i : Int).toNat]? = some (.imm (.int .u8 (ag0 s i))) := by rw [hti, de4 hlt, dd9]; rfl
  have hb := cz8 s i hlt
  cases h1 : decide (ag0 s i ≥ 97) with
  | false =>
   have hn : upN (ag0 s i) = ag0 s i := by unfold upN; rw [h1]; rfl
   repeat' (first | refine yz ?_ | refine be9 rfl rfl rfl rfl rfl rfl rfl rfl (by constructor <;> first | omega | (simp; omega) | decide) ?_ | refine bf0 _ rfl rfl rfl rfl rfl rfl hx rfl ?_ | refine yx ?_)
   refine ac1 ?_;refine ⟨⟨i + 1, by omega⟩, by dsimp only; omega, ?_⟩;rw [de7 hlt hn];exact (zle 1)
  | true =>
   cases h2 : decide (ag0 s i ≤ 122) with
   | false =>
    have hn : upN (ag0 s i) = ag0 s i := by unfold upN; rw [h1, h2]; rfl
    repeat' (first | refine yz ?_ | refine be9 rfl rfl rfl rfl rfl rfl rfl rfl (by constructor <;> first | omega | (simp; omega) | decide) ?_ | refine bf0 _ rfl rfl rfl rfl rfl rfl hx rfl ?_ | refine yx ?_)
    refine ac1 ?_;refine ⟨⟨i + 1, by omega⟩, by dsimp only; omega, ?_⟩;rw [de7 hlt hn];exact (zle 1)
   | true =>
    have h1' := of_decide_eq_true h1;have h2' := of_decide_eq_true h2;have hn : ag0 s i - 97 + 65 = upN (ag0 s i) := by unfold upN; rw [h1, h2]; simp; omega
    repeat' (first | refine yz ?_ | refine be9 rfl rfl rfl rfl rfl rfl rfl rfl (by constructor <;> first | omega | (simp; omega) | decide) ?_ | refine bf0 _ rfl rfl rfl rfl rfl rfl hx rfl ?_ | refine bf1 _ rfl rfl rfl rfl rfl rfl hx rfl rfl rfl ?_ | refine yx ?_)
    refine ac1 ?_;refine ⟨⟨i + 1, by omega⟩, by dsimp only; omega, ?_⟩;rw [hti, hn, de6 hlt];exact (zle 1)
 ·have hd1 : decide ((i : Int) < (s.size : Int)) = false := by simp; omega
  obtain rfl : i = s.size := by omega
  repeat' (refine yz ?_)
  refine be7 0 rfl ?_;dsimp only [ar8, ar7];have he := de8 s
  repeat' (first | refine yz ?_ | refine be8 (upL s s.size) rfl rfl rfl rfl rfl rfl rfl rfl he ?_ | exact zD)
set_option maxHeartbeats 1000000 in
theorem df1 (s : ByteArray) : Ev E 168 [.str s] (.d (.str (upF s))) := Ev.fit fun hfit => by
 have hs := (hfit (.str s) (by simp)).str;refine ye1 func168 ntmps168 fun _ _ _=>?_
 repeat' (refine yz ?_)
 refine ac7 (α := SUp s) (fun p => ⟨[(0, .d (.str s)), (3, .d (.str (Go.Abs.strOf (upL s p.i)))), (4, .d (.int p.i))], []⟩) (fun p => s.size - p.i) ⟨0, by omega⟩ (zle 0) ?_;rintro ⟨i, hi⟩;dsimp only;have hz : (Go.Abs.strOf (upL s i)).size = i := by rw [at2, de1]
 rcases fk1 i s.size with hlt | hge
 ·have hd1 : decide ((i : Int) < (s.size : Int)) = true := by simpa using hlt
  have hti : (i : Int).toNat = i := fl0 i;have hb := cz8 s i hlt;rw [← hti] at hb;have hz1 : ∀ n, (Go.Abs.strOf [n]).size = 1 := fun n => at2 [n]
  have e1 : Go.Abs.strOf (upL s (i + 1)) = Go.Abs.strOf (upL s i) ++ Go.Abs.strOf [upN (ag0 s (i : Int).toNat)] := by rw [de2, de9, hti]
  cases h1 : decide (ag0 s (i : Int).toNat ≥ 97) with
  | false =>
   have hn : upN (ag0 s (i : Int).toNat) = ag0 s (i : Int).toNat := by unfold upN; rw [h1]; rfl
   have hz2 := hz1 (ag0 s (i : Int).toNat)
   repeat' (first | refine yz ?_ | refine yx ?_)
   refine ac1 ?_;refine ⟨⟨i + 1, by omega⟩, by dsimp only; omega, ?_⟩;dsimp only;rw [e1, hn];exact (zle 0)
  | true =>
   cases h2 : decide (ag0 s (i : Int).toNat ≤ 122) with
   | false =>
    have hn : upN (ag0 s (i : Int).toNat) = ag0 s (i : Int).toNat := by unfold upN; rw [h1, h2]; rfl
    have hz2 := hz1 (ag0 s (i : Int).toNat)
    repeat' (first | refine yz ?_ | refine yx ?_)
    refine ac1 ?_;refine ⟨⟨i + 1, by omega⟩, by dsimp only; omega, ?_⟩;dsimp only;rw [e1, hn];exact (zle 0)
   | true =>
    have h1' := of_decide_eq_true h1;have h2' := of_decide_eq_true h2;have hn : upN (ag0 s (i : Int).toNat) = ag0 s (i : Int).toNat - 32 := by unfold upN; rw [h1, h2]; rfl
    have hz2 := hz1 (ag0 s (i : Int).toNat - 32)
    repeat' (first | refine yz ?_ | refine yx ?_)
    refine ac1 ?_;refine ⟨⟨i + 1, by omega⟩, by dsimp only; omega, ?_⟩;dsimp only;rw [e1, hn];exact (zle 0)
 ·have hd1 : decide ((i : Int) < (s.size : Int)) = false := by simp; omega
  obtain rfl : i = s.size := by omega
  repeat' (first | refine yz ?_ | exact zD)
def df2 : List ByteArray := [⟨#[77, 65, 84, 67, 72]⟩, ⟨#[79, 80, 84, 73, 79, 78, 65, 76]⟩, ⟨#[87, 72, 69, 82, 69]⟩, ⟨#[85, 78, 87, 73, 78, 68]⟩, ⟨#[65, 83]⟩, ⟨#[87, 73, 84, 72]⟩, ⟨#[68, 73, 83, 84, 73, 78, 67, 84]⟩, ⟨#[79, 82, 68, 69, 82]⟩, ⟨#[66, 89]⟩, ⟨#[65, 83, 67]⟩, ⟨#[68, 69, 83, 67]⟩, ⟨#[83, 75, 73, 80]⟩, ⟨#[76, 73, 77, 73, 84]⟩, ⟨#[82, 69, 84, 85, 82, 78]⟩, ⟨#[67, 82, 69, 65, 84, 69]⟩, ⟨#[77, 69, 82, 71, 69]⟩, ⟨#[83, 69, 84]⟩, ⟨#[82, 69, 77, 79, 86, 69]⟩, ⟨#[68, 69, 76, 69, 84, 69]⟩, ⟨#[68, 69, 84, 65, 67, 72]⟩, ⟨#[65, 78, 68]⟩, ⟨#[79, 82]⟩, ⟨#[78, 79, 84]⟩, ⟨#[73, 78]⟩, ⟨#[73, 83]⟩, ⟨#[78, 85, 76, 76]⟩, ⟨#[84, 82, 85, 69]⟩, ⟨#[70, 65, 76, 83, 69]⟩, ⟨#[87, 65, 76, 75]⟩, ⟨#[84, 82, 65, 73, 76]⟩, ⟨#[83, 73, 77, 80, 76, 69]⟩, ⟨#[83, 72, 79, 82, 84, 69, 83, 84]⟩, ⟨#[65, 78, 89]⟩]
def df3 (s : ByteArray) : Bool := df2.any fun w => w.toList == (upF s).toList
theorem df4 : Ev E 169 [] (.d (.sl (df2.map .str))) := by
 refine ap5 func169 ntmps169 rfl rfl fun w0 F0 O => ?_
 repeat' (first | refine yz ?_ | exact zD)
structure SWd (u : ByteArray) where
 i : Nat
 hi : i ≤ df2.length
 ok : (df2.any fun w => w.toList == u.toList) = ((df2.drop i).any fun w => w.toList == u.toList)
theorem df5 (s : ByteArray) : Ev E 110 [.str s] (.d (.bool (df3 s))) := by
 have h1 := df1 s;have h2 := df4;unfold df3;have hwl : df2.length = 33 := rfl;have h33 : (df2.map D.str).length = df2.length := by rw [fl4]
 generalize hw : df2.map D.str = ws at *;generalize upF s = u at *;refine ye1 func110 ntmps110 fun _ _ _=>?_
 repeat' (first | refine yz ?_ | refine yp b168 h1 ?_ | refine yp b169 h2 ?_)
 refine ac7 (α := SWd u) (fun p => ⟨[(3, .d (.str u)), (4, .d (.sl ws)), (5, .d (.int p.i))], []⟩) (fun p => df2.length - p.i) ⟨0, fm7 _, rfl⟩ (zle 0) ?_;rintro ⟨i, hi, ok⟩;dsimp only;rcases fk1 i df2.length with hlt | hge
 ·have hd1 : decide ((i : Int) < (ws.length : Int)) = true := by rw [h33]; simpa using hlt
  have hx0 := fk0 hlt;generalize df2[i] = x at hx0;have hx : ws[(i : Int).toNat]? = some (.str x) := by rw [← hw, fl0, fk7, hx0]; rfl
  rw [ok, bz3 hx0, List.any_cons]
  cases he : x.toList == u.toList with
  | true =>
   repeat' (first | refine yz ?_ | refine yi (.str x) hx ?_ | exact zD)
  | false =>
   repeat' (first | refine yz ?_ | refine yi (.str x) hx ?_)
   refine ac1 ?_;exact ⟨⟨i + 1, by omega, by rw [ok, bz3 hx0, List.any_cons, he, fn1]⟩, by dsimp only; omega, (zle 0)⟩
 ·have hd1 : decide ((i : Int) < (ws.length : Int)) = false := by rw [h33]; simp; omega
  rw [ok, fl9 hge]
  repeat' (first | refine yz ?_ | exact zD)
def upB (b : UInt8) : UInt8 := UInt8.ofNat (upN b.toNat).toNat
theorem df6 (ns : List Int) : (Go.Abs.strOf ns).data.toList = ns.map fun n => UInt8.ofNat n.toNat := by
 have key : ∀ (ns : List Int) (r : ByteArray), (ns.foldl (fun r n => r.push (UInt8.ofNat n.toNat)) r).data.toList = r.data.toList ++ ns.map fun n => UInt8.ofNat n.toNat := by
  intro ns
  induction ns with
  | nil => intro r; simp
  | cons n ns ih =>
   intro r;rw [List.foldl_cons, ih];simp [ByteArray.push]
 have := key ns ByteArray.empty;unfold Go.Abs.strOf;rw [this];simp
theorem df7 (s : ByteArray) : (upF s).data.toList = s.data.toList.map upB := by
 unfold upF;rw [df6];refine fq6 fun j => ?_
 have hl : s.data.toList.length = s.size := by simp
 rcases fk1 j s.size with hj | hj
 ·have hx := fk0 (show j < s.data.toList.length by omega);rw [fk7, upL, fk7, fq5 hj, fk7, hx];simp only [fn2, upB, ag0, fp7, hx, fr0]
 ·rw [fn5 (by rw [fl4, de1]; exact hj), fn5 (by rw [fl4]; omega)]
theorem df8 (b : UInt8) : upB b = 32 ↔ b = 32 := by
 have key : ∀ c : Fin 256, (upB (UInt8.ofFin c) = 32) = (UInt8.ofFin c = 32) := by
  intro c;revert c;decide +kernel
 have hb : b = UInt8.ofFin b.toFin := by rfl
 rw [hb];exact iff_of_eq (key b.toFin)
theorem df9 : ∀ l : List UInt8, Lib.contains l [32] = decide ((32 : UInt8) ∈ l)
 | [] => by simp [Lib.contains, Lib.index]
 | b :: l => by
  rw [da3, df9 l];have : ([32] : List UInt8).isPrefixOf (b :: l) = ((32 : UInt8) == b) := by simp only [List.isPrefixOf, fq7]
  rw [this, fm5, fm4, beq_iff_eq, decide_eq_true_eq, decide_eq_true_eq, fl1]
theorem dg0 (s : ByteArray) : (32 : UInt8) ∈ (upF s).data.toList ↔ (32 : UInt8) ∈ s.data.toList := by
 rw [df7, fo8];constructor
 ·rintro ⟨b, h1, h2⟩;rw [(df8 b).1 h2] at h1;exact h1
 ·intro h;exact ⟨32, h, (df8 32).2 rfl⟩
theorem dg1 : ∀ w ∈ df2.map (·.data.toList), (32 : UInt8) ∉ w := by
 have : (df2.map (·.data.toList)).all (fun w => !w.contains 32) = true := by decide
 intro w hw hm;have := fm2.1 this w hw;simp [List.contains_iff_mem] at this;exact this hm
theorem dg2 (U : List UInt8) : ((df2.map (·.data.toList)).any fun w => U == w) = df2.any fun w => w.data.toList == U := by
 rw [List.any_map];congr 1
 funext w
 simp only [Function.comp];rw [fm5, beq_iff_eq, beq_iff_eq];exact ⟨fun h => h.symm, fun h => h.symm⟩
theorem dg3 (s : ByteArray) : df3 s = df2.any fun w => w.data.toList == (upF s).data.toList := by
 unfold df3;simp only [ByteArray.toList_eq]
theorem dg4 (s : ByteArray) (h : Lib.contains s.data.toList [32] = false) : Lib.contains (da1 (df2.map (·.data.toList))) (32 :: ((upF s).data.toList ++ [32])) = df3 s := by
 rw [df9, decide_eq_false_iff_not] at h;rw [da6 _ (fun hm => h ((dg0 s).1 hm)) _ dg1, dg2, dg3]
theorem dg5 (s : ByteArray) (h : Lib.contains s.data.toList [32] = true) : df3 s = false := by
 rw [df9, decide_eq_true_eq] at h;rw [dg3, List.any_eq_false];intro w hw he;have e := eq_of_beq he;refine dg1 _ (fr8 hw) ?_;rw [e];exact (dg0 s).2 h
theorem dg6 (s sub : ByteArray) (hs : s.size < 4294967281) : Ev E 257 [.str s, .str sub] (.d (.bool (Lib.contains s.data.toList sub.data.toList))) := by
 refine cb3 rfl fun w F hG _ _ => ?_
 obtain ⟨-, -, m, hm⟩ := hG.2;refine (Tryz.strings_Contains s sub m w hs hm).mono ?_;rintro e w' ⟨rfl, rfl⟩;exact ⟨rfl, Below.refl _ _⟩
theorem dg7 (s : ByteArray) : (upF s).size = s.size := by unfold upF; rw [at2, de1]
set_option maxRecDepth 10000 in
attribute [local irreducible] upF df3 da1 df2 in
theorem dg8 (s : ByteArray) (hs : s.size ≤ 1000) : Ev E 194 [.str s] (.d (.bool (df3 s))) := by
 have hu := df0 s;have hus := dg7 s;have h1 : (⟨#[32]⟩ : ByteArray).size = 1 := rfl;have hc1 := dg6 s ⟨#[32]⟩ (by omega)
 cases h0 : !(s.toList == (⟨#[]⟩ : ByteArray).toList) with
 | false =>
  have e : df3 s = false := by
   rw [dg3, df7];have : s.data.toList = [] := by rw [Bool.not_eq_false', beq_iff_eq, ByteArray.toList_eq, ByteArray.toList_eq] at h0; exact h0
   rw [this];unfold df2;decide +kernel
  rw [e];refine ye1 func194 ntmps194 fun _ _ _=>?_
  repeat' (first | refine yz ?_ | refine yx ?_ | exact zD)
 | true =>
  cases hb : Lib.contains s.data.toList [32] with
  | true =>
   rw [show (⟨#[32]⟩ : ByteArray).data.toList = [32] from rfl, hb] at hc1;rw [dg5 s hb];refine ye1 func194 ntmps194 fun _ _ _=>?_
   repeat' (first | refine yz ?_ | refine yp b257 hc1 ?_ | refine yx ?_ | exact zD)
  | false =>
   rw [show (⟨#[32]⟩ : ByteArray).data.toList = [32] from rfl, hb] at hc1;have hr := dg4 s hb;refine ye1 func194 ntmps194 fun _ _ _=>?_
   repeat' (first | refine yz ?_ | refine qP (d := 7) rfl rfl rfl rfl rfl rfl b257 (hc1) ?_ | refine yp b258 hu ?_ | refine qP (d := 15) rfl rfl rfl rfl rfl rfl b257 ((dg6 _ _ (by decide +kernel))) ?_ | refine yx ?_)
   rw [show ∀ x, (cond (bif true then !false else false) x false) = x from fun _ => rfl];refine congrArg D.bool (Eq.trans (congr (congrArg Lib.contains ?_) ?_) hr)
   ·unfold da1 df2;decide +kernel
   ·simp only [ByteArray.data_append, Array.toList_append];simp
def dg9 (s : ByteArray) : Bool := cz4 s && !df3 s
theorem dh0 {s : ByteArray} (h : cz4 s = true) : s.size ≤ 1000 := by
 unfold cz4 at h;simp only [fk3, decide_eq_true_eq] at h;omega
theorem dh1 (s : ByteArray) : Ev E 141 [.str s] (.d (.bool (dg9 s))) := by
 have h1 := cz9 s;unfold dg9
 cases hn : cz4 s with
 | false =>
  rw [hn] at h1;refine ye1 func141 ntmps141 fun _ _ _=>?_
  repeat' (first | refine yz ?_ | refine yp b193 h1 ?_ | exact zD)
 | true =>
  rw [hn] at h1;have h2 := dg8 s (dh0 hn);refine ye1 func141 ntmps141 fun _ _ _=>?_
  repeat' (first | refine yz ?_ | refine yp b193 h1 ?_ | refine yp b194 h2 ?_ | exact zD)
theorem dh2 (s : ByteArray) : Ev E 61 [.str s] (.d (.bool (dg9 s))) := by
 have h1 := da0 s;have h2 := df5 s;unfold dg9
 cases hn : cz4 s with
 | false =>
  rw [hn] at h1;refine ye1 func61 ntmps61 fun _ _ _=>?_
  repeat' (first | refine yz ?_ | refine yp b109 h1 ?_ | exact zD)
 | true =>
  rw [hn] at h1;refine ye1 func61 ntmps61 fun _ _ _=>?_
  repeat' (first | refine yz ?_ | refine yp b109 h1 ?_ | refine yp b110 h2 ?_ | exact zD)
def nlF (e : Ex) : Bool :=
 bif e.op == 2 || (e.op == 3 || e.op == 4) then !dg9 e.nm else
 bif e.op == 23 then da9 e.nm == 0 else
 bif e.op == 24 then !db1 e.nm else false
theorem dh3 (e : Ex) : Ev E 89 [cy3 e] (.d (.bool (nlF e))) := by
 have h1 := dh1 e.nm;have h2 := db2 e.nm;have h3 := db4 e.nm;refine ye1 func89 ntmps89 fun _ _ _=>?_
 repeat' (first | refine yz ?_ | refine yp b141 h1 ?_ | refine yp b138 h2 ?_ | refine yp b142 h3 ?_ | (refine qV rfl ?_ ?_ <;> intro _))
 all_goals (refine congrArg D.bool ?_; simp_all [nlF, fr3])
end Go.Proofs.YtaiiailapeffgaaGreatDoor
namespace Go.Proofs.YtaiiailapeffgaaGreatDoor
set_option maxRecDepth 4000
open Go Go.Abs Go.Val Go.RowKit Go.Proofs.Tryz
attribute [local irreducible] go SGo an2 Ev aw0 EvO EvS
def dh4 (e : Ex) (w : Bool) : Int :=
 bif (decide (e.op < 1) || decide (e.op > 24)) || (!db9 e || !dc5 e) then 1 else
 bif e.op == 1 && !dc7 e.v then 8 else
 bif nlF e then 6 else
 bif e.op == 24 && w then 9 else 0
mutual
def dh5 : Ex → Bool → Int
 | .mk op v nm ds ks, w => bif dh4 (.mk op v nm ds ks) w != 0 then dh4 (.mk op v nm ds ks) w else dh6 ks (w || op == 24)
def dh6 : List Ex → Bool → Int
 | [], _ => 0
 | x :: r, w => bif dh5 x w != 0 then dh5 x w else dh6 r w
end
theorem dh7 {l : List Ex} {i : Nat} {x : Ex} {w : Bool} (h : l[i]? = some x) : dh6 (l.drop i) w = bif dh5 x w != 0 then dh5 x w else dh6 (l.drop (i + 1)) w := by
 rw [bz3 h, dh6]
structure SVs (l : List Ex) (w : Bool) where
 i : Nat
 hi : i ≤ l.length
 ok : dh6 l w = dh6 (l.drop i) w
theorem dh8 {e : Ex} {w : Bool} (h : dh4 e w = 0) : dh5 e w = dh6 e.ks (w || e.op == 24) := by
 cases e
 rw [dh5, h]; rfl
theorem dh9 {e : Ex} {w : Bool} {c : Int} (h : dh4 e w = c) (hc : (c != 0) = true) : c = dh5 e w := by
 cases e
 rw [dh5, h, hc]; rfl
set_option maxHeartbeats 4000000 in
theorem di0 (e : Ex) : ∀ w, Ev E 47 [cy3 e, .bool w] (.d (.int (dh5 e w))) := by
 refine cz2 (P := fun e => ∀ w, Ev E 47 [cy3 e, .bool w] (.d (.int (dh5 e w)))) (fun op v nm ds ks ih w => ?_) e;refine Ev.fit fun hfit => ?_
 obtain ⟨-, -, -, hmax, -⟩ := cz0 (hfit (cy3 (.mk op v nm ds ks)) (by simp));have hlen : (cy1 (.mk op v nm ds ks)).length = ks.length := cy8 _;have hkg : ∀ (i : Nat) (x : Ex), ks[i]? = some x → (cy1 (.mk op v nm ds ks))[(i : Int).toNat]? = some (cy3 x) := fun i x h => cy6 (e := .mk op v nm ds ks) (by rw [fl0]; exact h)
 have hks : Ex.ks (.mk op v nm ds ks) = ks := rfl;generalize Ex.mk op v nm ds ks = e at *;rw [hks] at hmax;have h1 := dc1 e;have h2 := dc6 e;have h3 := dc8 e.v;have h4 := dh3 e;have hsf : ∀ c, (bif (decide (e.op < 1) || decide (e.op > 24)) || (!db9 e || !dc5 e) then 1 else bif e.op == 1 && !dc7 e.v then 8 else bif nlF e then 6 else bif e.op == 24 && w then 9 else 0) = c → dh4 e w = c := fun c h => h
 have hbad := fun c (h : dh4 e w = c) => dh9 h
 have hok := dh8 (e := e) (w := w);rw [hks] at hok;clear hks;generalize hW : (w || e.op == 24) = W at hok
 cases w
 all_goals
  refine ye2 func47 ntmps47 fun _ _ _=>?_
  repeat' (first | refine yz ?_ | refine yp b86 h1 ?_ | refine yp b87 h2 ?_ | refine yp b88 h3 ?_ | refine yp b89 h4 ?_ | (refine yy ?_ ?_ <;> intro _) | (refine qV rfl ?_ ?_ <;> intro _))
  any_goals (refine congrArg D.int (hbad _ (hsf _ ?_) rfl); clear ih hkg hfit hsf hbad hok h1 h2 h3 h4; simp_all [fr3]; done)
 all_goals
  rw [hok (hsf _ (by clear ih hkg hfit hsf hbad hok h1 h2 h3 h4; simp_all [fr3]))];clear hsf hbad hok h1 h2 h3 h4;refine ac7 (α := SVs ks W) (fun p => ⟨[(1, .d (.bool _)), (2, .ptr 0 0), (44, .d (.sl (cy1 e))), (45, .d (.int (cy1 e).length)), (46, .d (.int p.i))], [.var 27 (.w (.d (cy3 e)))]⟩) (fun p => ks.length - p.i) ⟨0, by omega, rfl⟩ (zle 1) ?_;rintro ⟨i, hi, ok⟩;dsimp only;rcases fk1 i ks.length with hlt | hge
  ·have hd1 : decide ((i : Int) < ((cy1 e).length : Int)) = true := by rw [hlen]; simpa using hlt
   have hx0 := fk0 hlt;generalize ks[i] = x at hx0;have hx := hkg i x hx0;have hv := ih x (fk4 hx0) W;rw [← hW] at hv;rw [ok, dh7 hx0]
   cases hz : dh5 x W != 0 with
   | true =>
    rw [← hW] at hz ⊢
    repeat' (first | refine yz ?_ | refine yi (cy3 x) hx ?_ | refine yp b47 hv ?_ | exact zD)
   | false =>
    rw [← hW] at hz
    repeat' (first | refine yz ?_ | refine yi (cy3 x) hx ?_ | refine yp b47 hv ?_)
    refine ac1 ?_;exact ⟨⟨i + 1, by omega, by rw [ok, dh7 hx0, ← hW, hz]; rfl⟩, by dsimp only; omega, (zle 1)⟩
  ·have hd1 : decide ((i : Int) < ((cy1 e).length : Int)) = false := by rw [hlen]; simp; omega
   rw [ok, fl9 hge, dh6]
   repeat' (first | refine yz ?_ | exact zD)
end Go.Proofs.YtaiiailapeffgaaGreatDoor
namespace Go.Proofs.YtaiiailapeffgaaGreatDoor
set_option maxRecDepth 4000
open Go Go.Abs Go.Val Go.RowKit Go.Proofs.Tryz
attribute [local irreducible] go SGo an2 Ev aw0 EvO EvS
set_option maxHeartbeats 4000000 in
theorem di1 (e : Ex) (w : Bool) : Ev E 166 [cy3 e, .bool w] (.d (.int (dh4 e w))) := by
 have h1 := dc2 e;have h2 := db8 e.v;have h3 := ca7 e.v;have h4 := dc4 e.op;have h5 := dh2 e.nm;have h6 := db3 e.nm;have h7 := db5 e.nm;have hz := dc0 e.nm;generalize hc1 : ((decide (e.op < 1) || decide (e.op > 24)) || (!db9 e || !dc5 e)) = c1;generalize hc2 : (e.op == 1 && !dc7 e.v) = c2;generalize hc3 : ((bif e.op == 2 || (e.op == 3 || e.op == 4) then !dg9 e.nm else bif e.op == 24 then !db1 e.nm else false)) = c3;refine ye2 func166 ntmps166 fun _ _ _=>?_
 repeat' (first | refine bf3 1 (fun b => ⟨[(50, .d (.bool b)), (1, .d (.bool w)), (2, .ptr 0 0)], [.var 27 (.w (.d (cy3 e)))]⟩) (c1) ?_ ?_ | refine bf3 3 (fun b => ⟨[(83, .d (.bool b)), (1, .d (.bool w)), (2, .ptr 0 0)], [.var 27 (.w (.d (cy3 e)))]⟩) (c2) ?_ ?_ | refine bf3 5 (fun b => ⟨[(113, .d (.bool b)), (1, .d (.bool w)), (2, .ptr 0 0)], [.var 27 (.w (.d (cy3 e)))]⟩) (c3) ?_ ?_ | refine yz ?_ | refine ac1 ⟨_, ?_, (zle 1)⟩ | refine yp b222 h1 ?_ | refine yp b156 h2 ?_ | refine yp b38 h3 ?_ | refine yp b223 h4 ?_ | refine yp b61 h5 ?_ | refine yp b225 h6 ?_ | refine yp b224 h7 ?_ | (refine yy ?_ ?_ <;> intro _) | (refine qV rfl ?_ ?_ <;> intro _))
 all_goals clear h1 h2 h3 h4 h5 h6 h7
 any_goals (refine Eq.trans ?_ hc1; clear hc1 hc2 hc3; simp_all [dc5, dc7, nlF, isS, fr3])
 any_goals (refine Eq.trans ?_ hc2; clear hc1 hc2 hc3; simp_all [dc5, dc7, nlF, isS, fr3])
 any_goals (refine Eq.trans ?_ hc3; clear hc1 hc2 hc3; simp_all [dc5, dc7, nlF, isS, fr3])
 any_goals (refine congrArg D.int ?_; unfold dh4; rw [hc1, hc2]; clear hc1 hc2; simp_all [nlF, fr3])
 all_goals first
  | (have o1 : ¬ e.op < 1 := (by omega); have o2 : ¬ 24 < e.op := (by omega); simp_all; done)
  | (rw [fm5]; simp_all; done)
  | (split at hc3 <;> simp_all; done)
theorem di2 (e : Ex) : ∀ w, Ev E 108 [cy3 e, .bool w] (.d (.int (dh5 e w))) := by
 refine cz2 (P := fun e => ∀ w, Ev E 108 [cy3 e, .bool w] (.d (.int (dh5 e w)))) (fun op v nm ds ks ih w => ?_) e;refine Ev.fit fun hfit => ?_
 obtain ⟨-, -, -, hmax, -⟩ := cz0 (hfit (cy3 (.mk op v nm ds ks)) (by simp));have hlen : (cy1 (.mk op v nm ds ks)).length = ks.length := cy8 _;have hkg : ∀ (i : Nat) (x : Ex), ks[i]? = some x → (cy1 (.mk op v nm ds ks))[(i : Int).toNat]? = some (cy3 x) := fun i x h => cy6 (e := .mk op v nm ds ks) (by rw [fl0]; exact h)
 have hks : Ex.ks (.mk op v nm ds ks) = ks := rfl;generalize Ex.mk op v nm ds ks = e at *;rw [hks] at hmax;have h1 := di1 e w;have hbad := dh9 (e := e) (w := w) rfl;have hok := dh8 (e := e) (w := w);rw [hks] at hok;clear hks;generalize hW : (w || e.op == 24) = W at hok
 cases hsf : dh4 e w != 0 with
 | true =>
  rw [← hbad hsf];refine ye2 func108 ntmps108 fun _ _ _=>?_
  repeat' (first | refine yz ?_ | refine yp b166 h1 ?_ | exact zD)
 | false =>
  rw [hok (by simpa using hsf)]
  cases w
  all_goals
   refine ye2 func108 ntmps108 fun _ _ _=>?_
   repeat' (first | refine yz ?_ | refine yp b166 h1 ?_)
   refine ac7 (α := SVs ks W) (fun p => ⟨[(1, .d (.bool _)), (2, .ptr 0 0), (6, .d (.int p.i))], [.var 27 (.w (.d (cy3 e)))]⟩) (fun p => ks.length - p.i) ⟨0, by omega, rfl⟩ (zle 1) ?_;rintro ⟨i, hi, ok⟩;dsimp only;rcases fk1 i ks.length with hlt | hge
   ·have hd1 : decide ((i : Int) < ((cy1 e).length : Int)) = true := by rw [hlen]; simpa using hlt
    have hx0 := fk0 hlt;generalize ks[i] = x at hx0;have hx := hkg i x hx0;have hv := ih x (fk4 hx0) W;rw [← hW] at hv;rw [ok, dh7 hx0]
    cases hz : dh5 x W != 0 with
    | true =>
     rw [← hW] at hz ⊢
     repeat' (first | refine yz ?_ | refine yi (cy3 x) hx ?_ | refine yp b108 hv ?_ | exact zD)
    | false =>
     rw [← hW] at hz
     repeat' (first | refine yz ?_ | refine yi (cy3 x) hx ?_ | refine yp b108 hv ?_)
     refine ac1 ?_;exact ⟨⟨i + 1, by omega, by rw [ok, dh7 hx0, ← hW, hz]; rfl⟩, by dsimp only; omega, (zle 1)⟩
   ·have hd1 : decide ((i : Int) < ((cy1 e).length : Int)) = false := by rw [hlen]; simp; omega
    rw [ok, fl9 hge, dh6]
    repeat' (first | refine yz ?_ | exact zD)
def di3 (e : Ex) : Int := bif decide (dp e > 24) then 5 else bif decide (nd e > 300) then 4 else dh5 e false
theorem di4 (e : Ex) (h1 : dp e ≤ 1000000) (h2 : nd e ≤ 1000000) : Ev E 26 [cy3 e] (.d (.int (di3 e))) := by
 have a1 := dd8 e h1;have a2 := dd2 e h2;have a3 := di0 e false;unfold di3
 cases g1 : decide (dp e > 24) with
 | true =>
  have b1 : decide ((dp e : Int) > 24) = true := by simp at g1 ⊢; omega
  refine ye1 func26 ntmps26 fun _ _ _=>?_
  repeat' (first | refine yz ?_ | refine yp b45 a1 ?_ | exact zD)
 | false =>
  have b1 : decide ((dp e : Int) > 24) = false := by simp at g1 ⊢; omega
  cases g2 : decide (nd e > 300) with
  | true =>
   have b2 : decide ((nd e : Int) > 300) = true := by simp at g2 ⊢; omega
   refine ye1 func26 ntmps26 fun _ _ _=>?_
   repeat' (first | refine yz ?_ | refine yp b45 a1 ?_ | refine yp b46 a2 ?_ | exact zD)
  | false =>
   have b2 : decide ((nd e : Int) > 300) = false := by simp at g2 ⊢; omega
   refine ye1 func26 ntmps26 fun _ _ _=>?_
   repeat' (first | refine yz ?_ | refine yp b45 a1 ?_ | refine yp b46 a2 ?_ | refine yp b47 a3 ?_ | exact zD)
theorem di5 (e : Ex) (h1 : dp e ≤ 1000000) (h2 : nd e ≤ 1000000) : Ev E 60 [cy3 e] (.d (.int (di3 e))) := by
 have a1 := dd7 e h1;have a2 := dd3 e h2;have a3 := di2 e false;unfold di3
 cases g1 : decide (dp e > 24) with
 | true =>
  have b1 : decide ((dp e : Int) > 24) = true := by simp at g1 ⊢; omega
  refine ye1 func60 ntmps60 fun _ _ _=>?_
  repeat' (first | refine yz ?_ | refine yp bs7 a1 ?_ | exact zD)
 | false =>
  have b1 : decide ((dp e : Int) > 24) = false := by simp at g1 ⊢; omega
  cases g2 : decide (nd e > 300) with
  | true =>
   have b2 : decide ((nd e : Int) > 300) = true := by simp at g2 ⊢; omega
   refine ye1 func60 ntmps60 fun _ _ _=>?_
   repeat' (first | refine yz ?_ | refine yp bs7 a1 ?_ | refine yp b107 a2 ?_ | exact zD)
  | false =>
   have b2 : decide ((nd e : Int) > 300) = false := by simp at g2 ⊢; omega
   refine ye1 func60 ntmps60 fun _ _ _=>?_
   repeat' (first | refine yz ?_ | refine yp bs7 a1 ?_ | refine yp b107 a2 ?_ | refine yp b108 a3 ?_ | exact zD)
end Go.Proofs.YtaiiailapeffgaaGreatDoor
