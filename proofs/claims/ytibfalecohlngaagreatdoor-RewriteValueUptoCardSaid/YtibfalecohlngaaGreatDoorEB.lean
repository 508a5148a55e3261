/- The reference's evaluation of expressions; The reference's functions and its evaluation; Eval and Test of both texts; The reference's functions; The reference's evaluation; Eval and Test of both texts. Conditions: each part's own, as it says. -/
import Derived.Test.YtibfalecohlngaaGreatDoorGC
import Derived.Test.YtibfalecohlngaaGreatDoorEA
import Derived.Test.YtibfalecohlngaaGreatDoorMC
import Derived.Test.YtibfalecohlngaaGreatDoorMD
set_option linter.unusedVariables false
set_option linter.unusedSimpArgs false
namespace Go.Proofs.YtibfalecohlngaaGreatDoor
set_option maxRecDepth 4000
open Go Go.Abs Go.Val Go.RowKit Go.Proofs.Tryz
attribute [local irreducible] go SGo an2 Ev aw0 EvO EvS binOp RGo
theorem ea4 (v : V) : Ev E 60 [enc v] (.d (enc (giv v))) := by
 have h := ce9 v;unfold giv
 cases hv : Val.okV v <;> rw [hv] at h
 all_goals
  refine ye1 func60 ntmps60 fun _ _ _=>?_
  repeat' (first | refine yz ?_ | refine yp b39 h ?_ | refine yp b34 cb1 ?_ | refine yx ?_ | (refine yy ?_ ?_ <;> intro _) | exact zD | exact zL)
theorem ea5 (n d : Int) (b : Bool) : Ev E 98 [.agg [.int n, .int d], .bool b] (.d (enc (ds0 b n d))) := by
 have h := cc1 n d;unfold ds0
 cases b
 all_goals
  refine ye2 func98 ntmps98 fun _ _ _=>?_
  repeat' (first | refine yz ?_ | refine yp b162 h ?_ | refine yp b34 cb1 ?_ | refine yx ?_ | (refine yy ?_ ?_ <;> intro _) | exact zD | exact zL)
def ea6 (g : Gr) (a : V) : List Pr := bif a.k == 5 then (du7 g a).props else bif a.k == 6 then (du9 g a).props else []
theorem ea7 (g : Gr) (a : V) : Ev E 105 [dc3 g, enc a] (.d (.sl ((ea6 g a).map dc0))) := by
 have h1 := dd2 g a.n;have h2 := dd3 g a.n;unfold ea6 du7 du9
 cases k5 : a.k == 5 with
 | true =>
  refine ye2 func105 ntmps105 fun _ _ _=>?_
  repeat' (first | refine yz ?_ | refine yp br0 h1 ?_ | refine yx ?_ | (refine yy ?_ ?_ <;> intro _) | exact zD | exact zL)
 | false =>
 cases k6 : a.k == 6 with
 | true =>
  refine ye2 func105 ntmps105 fun _ _ _=>?_
  repeat' (first | refine yz ?_ | refine yp bs7 h2 ?_ | refine yx ?_ | (refine yy ?_ ?_ <;> intro _) | exact zD | exact zL)
 | false =>
  refine ye2 func105 ntmps105 fun _ _ _=>?_
  repeat' (first | refine yz ?_ | refine yx ?_ | (refine yy ?_ ?_ <;> intro _) | exact zD | exact zL)
theorem ea8 (g : Gr) (a : V) (key : ByteArray) : dd1 (ea6 g a) key = dv6 g a key := by
 unfold ea6 dv6 du8 dv0
 cases k5 : a.k == 5 with
 | true =>
  simp only [cond_true, fh3];have k6 : (a.k == 6) = false := by simp at k5 ⊢; omega
  cases hf : dc9 g.nodes a.n with
  | some n => rfl
  | none =>
   rw [k6];simp only [Option.isSome_none, cond_false, fi6];unfold du7;rw [k5, hf];rfl
 | false =>
  simp only [cond_false, fi6]
  cases k6 : a.k == 6 with
  | false => rfl
  | true =>
   simp only [cond_true, fh3]
   cases hf : dd0 g.edges a.n with
   | some n => rfl
   | none =>
    unfold du9;rw [k6, hf];rfl
theorem ea9 {n d : Int} (h : bp2 n d = true) : bp2 (0 - n) d = true := by
 obtain ⟨h1, h2, h3⟩ := cz8 h;unfold bp2;rw [(bp0 (0 - n)).2 (by omega), show Int.gcd (0 - n) d = Int.gcd n d by rw [Int.zero_sub, Int.neg_gcd], h3];simp;omega
theorem eb0 {n d : Int} (h : bp2 n d = true) : cz5 0 1 (0 - n) d = true ∧ cz6 0 1 (0 - n) d = 0 - n ∧ cz7 0 1 (0 - n) d = d := by
  obtain ⟨h1, h2, h3⟩ := cz8 h;have hv := ea9 h;have hG : adG 1 d = 1 := by unfold adG; simp
  have hT : adT 0 1 (0 - n) d = 0 - n := by unfold adT; rw [hG]; simp
  have hH : adH 0 1 (0 - n) d = 1 := by unfold adH; rw [hG, hT]; simp
  have hD : adD 0 1 (0 - n) d = d := by unfold adD; rw [hG, hH]; simp
  have hN : adN 0 1 (0 - n) d = 0 - n := by
    unfold adN;rw [hT, hH, Nat.div_one];rcases Int.lt_trichotomy (0 - n) 0 with hl | hl | hl
    · rw [cj9 hl]; omega
    · rw [hl]; rfl
    · rw [cj8 hl]; omega
  have hK : adK 0 1 (0 - n) d = true := by
    unfold adK ovB;rw [hT, hH, hD, Nat.div_one];simp;omega
  have hB : cz5 0 1 (0 - n) d = true := by
    unfold cz5;rw [hv, hK, show bp2 0 1 = true by decide];simp
  refine ⟨hB, ?_, ?_⟩
  · unfold cz6;rw [hB, hT, hN]
    cases hz : (0 - n == 0) with
    | true => have : 0 - n = 0 := by simpa using hz
              simp [this]
    | false => rfl
  · unfold cz7;rw [hB, hT, hD]
    cases hz : (0 - n == 0) with
    | true =>
      have : 0 - n = 0 := by simpa using hz
      obtain rfl : n = 0 := by omega
      simp at h3;simp;omega
    | false => rfl
theorem eb1 (g : Gr) (env : List Bd) (op : Int) (v : V) (nm : ByteArray) (ds : Bool) (ks : List Ex) (a : V) (ho : op = 3 ∨ op = 4 ∨ op = 5 ∨ op = 6 ∨ op = 21) : Ev E 63 [dc3 g, dg0 (.mk op v nm ds ks), enc a] (.d (enc (apF g env op v nm [a]))) := by
 rcases ho with rfl | rfl | rfl | rfl | rfl
 ·rw [show apF g env 3 v nm [a] = dv6 g a nm from rfl, ← ea8];have h1 := ea7 g a;have h2 := dd8 (ea6 g a) nm;refine ye3 func63 ntmps63 fun _ _ _=>?_
  repeat' (first | refine yq 3 [6] ?_ | refine yf 3 0 6 ?_ | refine yw ?_ | refine rgN ?_ | refine yv ?_ | refine yz ?_ | refine yp b105 h1 ?_ | refine yp b104 h2 ?_ | refine yx ?_ | (refine yy ?_ ?_ <;> intro _) | exact zD | exact zL)
 ·rw [show apF g env 4 v nm [a] = bif du8 g a then bp4 (dd4 (du7 g a).labels nm) else bp9 from rfl];have h1 := dd2 g a.n;have h2 := dd7 ((dc9 g.nodes a.n).getD nd0) nm;have h3 := cb3 (dd4 ((dc9 g.nodes a.n).getD nd0).labels nm);unfold du8 du7
  cases hs : (dc9 g.nodes a.n).isSome <;> cases k5 : a.k == 5 <;> rw [hs] at h1
  all_goals
   refine ye3 func63 ntmps63 fun _ _ _=>?_
   repeat' (first | refine yz ?_ | refine yp br0 h1 ?_ | refine yp b107 h2 ?_ | refine yp b30 h3 ?_ | refine yp b34 cb1 ?_ | refine yx ?_ | (refine yy ?_ ?_ <;> intro _) | exact zD | exact zL)
 ·rw [show apF g env 5 v nm [a] = bq9 (2 - kn (bq8 a)) from rfl];have t1 := cf3 a;have t2 := ca5 (bq8 a);have t3 := cc5 (2 - kn (bq8 a));refine ye3 func63 ntmps63 fun _ _ _=>?_
  repeat' (first | refine yz ?_ | refine yp b36 t1 ?_ | refine yp b109 t2 ?_ | refine yp br1 t3 ?_ | refine yx ?_ | (refine yy ?_ ?_ <;> intro _) | exact zD | exact zL)
 ·rw [show apF g env 6 v nm [a] = bif bq5 a then bp6 (0 - bq6 a) (bq7 a) else bp9 from rfl];have n1 := cf1 a
  cases hn : bq5 a with
  | true =>
   rw [hn] at n1;have hf := ds2 hn;have s1 := db8 0 1 (bq6 a) (bq7 a) hf;obtain ⟨e1, e2, e3⟩ := eb0 hf;rw [e1, e2, e3] at s1;have r1 := ea5 (0 - bq6 a) (bq7 a) true;refine ye3 func63 ntmps63 fun _ _ _=>?_
   repeat' (first | refine yz ?_ | refine yp b44 n1 ?_ | refine yp b110 s1 ?_ | refine yp b98 r1 ?_ | refine yx ?_ | (refine yy ?_ ?_ <;> intro _) | exact zD | exact zL)
  | false =>
   rw [hn] at n1;refine ye3 func63 ntmps63 fun _ _ _=>?_
   repeat' (first | refine yz ?_ | refine yp b44 n1 ?_ | refine yp b34 cb1 ?_ | refine yx ?_ | (refine yy ?_ ?_ <;> intro _) | exact zD | exact zL)
 ·rw [show apF g env 21 v nm [a] = bp4 (a.k == 0) from rfl];have h1 := cb3 (a.k == 0);refine ye3 func63 ntmps63 fun _ _ _=>?_
  repeat' (first | refine yz ?_ | refine yp b30 h1 ?_ | refine yx ?_ | (refine yy ?_ ?_ <;> intro _) | exact zD | exact zL)
theorem eb2 (a b : V) : Ev E 115 [enc a, enc b] (.d (.int (dr5 (cu0 a b) (eqF a b)))) := by
 have h1 := cu1 a b;have h2 := ct7 a b;unfold dr5;generalize cu0 a b = l at *;generalize eqF a b = q at *
 cases c1 : l == 2 <;> cases c2 : q == 2 <;> cases c3 : l == 0 <;> cases c4 : q == 0
 all_goals
  refine ye2 func115 ntmps115 fun _ _ _=>?_
  repeat' (first | refine yz ?_ | refine yp b114 h1 ?_ | refine yp br2 h2 ?_ | refine yx ?_ | (refine yy ?_ ?_ <;> intro _) | exact zD | exact zL)
theorem eb3 (a b : V) : Ev E 116 [enc a, enc b] (.d (enc (bq9 (bif b.k != 8 then 1 else inL a b.l 0)))) := Ev.fit fun hfit => by
 obtain ⟨-, -, -, -, hmax, -⟩ := bo8 (v := b) (hfit _ (by simp));have hle : (kids b).length = b.l.length := bo6 b
 cases c8 : b.k != 8 with
 | true =>
  rw [show bq9 (bif true then 1 else inL a b.l 0) = bp9 from rfl];refine ye2 func116 ntmps116 fun _ _ _=>?_
  repeat' (first | refine yz ?_ | refine yp b34 cb1 ?_ | refine yx ?_ | (refine yy ?_ ?_ <;> intro _) | exact zD | exact zL)
 | false =>
  have hft := cc5 (inL a b.l 0);rw [cond_false];refine ye2 func116 ntmps116 fun _ _ _=>?_
  repeat' (first | refine yz ?_ | refine yx ?_ | (refine yy ?_ ?_ <;> intro _) | exact zD | exact zL)
  refine ac7 (α := SIn a b.l) (fun p => ⟨[(2, .ptr 0 0), (3, .ptr 1 0), (4, .ptr 2 0), (5, .d (.int p.t)), (6, .d (.int p.i))], [.var 24 (.w (.d (enc a))), .var 24 (.w (.d (enc b))), du1]⟩) (fun p => b.l.length - p.i) ⟨0, 0, by omega, rfl⟩ (zle 3) ?_;rintro ⟨i, t, hi, ok⟩;dsimp only;rcases fg7 i b.l.length with hlt | hge
  ·have g1 : decide ((i : Int) < ((kids b).length : Int)) = true := by rw [hle]; simpa using hlt
   have hx0 := fg5 hlt;generalize b.l[i] = x at hx0;have hx : (kids b)[(i : Int).toNat]? = some (enc x) := by rw [fh0]; exact bo4 hx0
   have q1 := ct7 a x;have q2 := ca9 t (eqF a x);rw [dr8 hx0] at ok
   repeat' (first | refine yz ?_ | refine yi (enc x) hx ?_ | refine yp br2 q1 ?_ | refine yp b112 q2 ?_ | refine yx ?_ | (refine yy ?_ ?_ <;> intro _) | exact zD | exact zL)
   refine ac1 ?_;exact ⟨⟨i + 1, _, by omega, ok⟩, by dsimp only; omega, (zle 3)⟩
  ·have g1 : decide ((i : Int) < ((kids b).length : Int)) = false := by rw [hle]; simp; omega
   rw [fh6 hge] at ok;have ok' : inL a b.l 0 = t := ok;rw [ok'] at hft ⊢
   repeat' (first | refine yz ?_ | refine yp br1 hft ?_ | refine yx ?_ | (refine yy ?_ ?_ <;> intro _) | exact zD | exact zL)
theorem eb4 {b : Bool} {n d : Int} : ds0 b (bif b then n else 0) (bif b then d else 0) = ds0 b n d := by cases b <;> rfl
set_option maxHeartbeats 4000000 in
theorem eb5 (op : Int) (a b : V) (ho : 7 ≤ op ∧ op ≤ 11) (ha : Val.okV a = true) (hb : Val.okV b = true) : Ev E 117 [.int op, enc a, enc b] (.d (enc (arF op a b))) := by
 have n1 := cf1 a;have n2 := cf1 b;obtain rfl | rfl | rfl | rfl | rfl : op = 7 ∨ op = 8 ∨ op = 9 ∨ op = 10 ∨ op = 11 := by omega
 ·have e0 : arF 7 a b = bif ds1 a b then bp7 (a.s ++ b.s) else bif !(bq5 a) || !(bq5 b) then bp9 else ds0 (cz5 (bq6 a) (bq7 a) (bq6 b) (bq7 b)) (cz6 (bq6 a) (bq7 a) (bq6 b) (bq7 b)) (cz7 (bq6 a) (bq7 a) (bq6 b) (bq7 b)) := rfl;rw [e0];unfold ds1
  cases ka : a.k == 4 with
  | true =>
   have hna : bq5 a = false := by unfold bq5; have : a.k = 4 := (by simpa using ka); rw [this]; rfl
   rw [hna] at n1 ⊢
   cases kb : b.k == 4 with
   | true =>
    have z1 := ds3 ha ka;have z2 := ds3 hb kb;have s1 := cb7 (a.s ++ b.s);refine ye3 func117 ntmps117 fun _ _ _=>?_
    repeat' (first | refine yz ?_ | refine yp b99 s1 ?_ | refine yx ?_ | (refine yy ?_ ?_ <;> intro _) | exact zD | exact zL)
   | false =>
    simp only [fk4, cond_false, fi7, fi8, cond_true];refine ye3 func117 ntmps117 fun _ _ _=>?_
    repeat' (first | refine yz ?_ | refine yp b44 n1 ?_ | refine yp b44 n2 ?_ | refine yp b34 cb1 ?_ | refine yx ?_ | (refine yy ?_ ?_ <;> intro _) | exact zD | exact zL)
  | false =>
  simp only [fi6, cond_false]
  cases na : bq5 a with
  | false =>
   rw [na] at n1;simp only [fi7, fi8, cond_true];refine ye3 func117 ntmps117 fun _ _ _=>?_
   repeat' (first | refine yz ?_ | refine yp b44 n1 ?_ | refine yp b44 n2 ?_ | refine yp b34 cb1 ?_ | refine yx ?_ | (refine yy ?_ ?_ <;> intro _) | exact zD | exact zL)
  | true =>
   rw [na] at n1
   cases nb : bq5 b with
   | false =>
    rw [nb] at n2;simp only [fi7, fj4, cond_true];refine ye3 func117 ntmps117 fun _ _ _=>?_
    repeat' (first | refine yz ?_ | refine yp b44 n1 ?_ | refine yp b44 n2 ?_ | refine yp b34 cb1 ?_ | refine yx ?_ | (refine yy ?_ ?_ <;> intro _) | exact zD | exact zL)
   | true =>
    rw [nb] at n2;have fb := ds2 nb;have a1 := da5 (bq6 a) (bq7 a) (bq6 b) (bq7 b);have r1 := ea5 (cz6 (bq6 a) (bq7 a) (bq6 b) (bq7 b)) (cz7 (bq6 a) (bq7 a) (bq6 b) (bq7 b)) (cz5 (bq6 a) (bq7 a) (bq6 b) (bq7 b));simp only [fk6, fk5, cond_false];refine ye3 func117 ntmps117 fun _ _ _=>?_
    repeat' (first | refine yz ?_ | refine yp b44 n1 ?_ | refine yp b44 n2 ?_ | refine yp b170 a1 ?_ | refine yp b98 r1 ?_ | refine yx ?_ | (refine yy ?_ ?_ <;> intro _) | exact zD | exact zL)
 ·have e0 : arF 8 a b = bif !(bq5 a) || !(bq5 b) then bp9 else ds0 (cz5 (bq6 a) (bq7 a) (0 - bq6 b) (bq7 b)) (cz6 (bq6 a) (bq7 a) (0 - bq6 b) (bq7 b)) (cz7 (bq6 a) (bq7 a) (0 - bq6 b) (bq7 b)) := rfl;rw [e0]
  cases na : bq5 a with
  | false =>
   rw [na] at n1;simp only [fi7, fi8, cond_true];refine ye3 func117 ntmps117 fun _ _ _=>?_
   repeat' (first | refine yz ?_ | refine yp b44 n1 ?_ | refine yp b44 n2 ?_ | refine yp b34 cb1 ?_ | refine yx ?_ | (refine yy ?_ ?_ <;> intro _) | exact zD | exact zL)
  | true =>
   rw [na] at n1
   cases nb : bq5 b with
   | false =>
    rw [nb] at n2;simp only [fi7, fj4, cond_true];refine ye3 func117 ntmps117 fun _ _ _=>?_
    repeat' (first | refine yz ?_ | refine yp b44 n1 ?_ | refine yp b44 n2 ?_ | refine yp b34 cb1 ?_ | refine yx ?_ | (refine yy ?_ ?_ <;> intro _) | exact zD | exact zL)
   | true =>
    rw [nb] at n2;have fb := ds2 nb;have a1 := db8 (bq6 a) (bq7 a) (bq6 b) (bq7 b) fb;have r1 := ea5 (cz6 (bq6 a) (bq7 a) (0 - bq6 b) (bq7 b)) (cz7 (bq6 a) (bq7 a) (0 - bq6 b) (bq7 b)) (cz5 (bq6 a) (bq7 a) (0 - bq6 b) (bq7 b));simp only [fk6, fk5, cond_false];refine ye3 func117 ntmps117 fun _ _ _=>?_
    repeat' (first | refine yz ?_ | refine yp b44 n1 ?_ | refine yp b44 n2 ?_ | refine yp b110 a1 ?_ | refine yp b98 r1 ?_ | refine yx ?_ | (refine yy ?_ ?_ <;> intro _) | exact zD | exact zL)
 ·have e0 : arF 9 a b = bif !(bq5 a) || !(bq5 b) then bp9 else ds0 (da6 (bq6 a) (bq7 a) (bq6 b) (bq7 b)) (muN (bq6 a) (bq7 a) (bq6 b) (bq7 b)) (muD (bq6 a) (bq7 a) (bq6 b) (bq7 b)) := rfl;rw [e0]
  cases na : bq5 a with
  | false =>
   rw [na] at n1;simp only [fi7, fi8, cond_true];refine ye3 func117 ntmps117 fun _ _ _=>?_
   repeat' (first | refine yz ?_ | refine yp b44 n1 ?_ | refine yp b44 n2 ?_ | refine yp b34 cb1 ?_ | refine yx ?_ | (refine yy ?_ ?_ <;> intro _) | exact zD | exact zL)
  | true =>
   rw [na] at n1
   cases nb : bq5 b with
   | false =>
    rw [nb] at n2;simp only [fi7, fj4, cond_true];refine ye3 func117 ntmps117 fun _ _ _=>?_
    repeat' (first | refine yz ?_ | refine yp b44 n1 ?_ | refine yp b44 n2 ?_ | refine yp b34 cb1 ?_ | refine yx ?_ | (refine yy ?_ ?_ <;> intro _) | exact zD | exact zL)
   | true =>
    rw [nb] at n2;have fb := ds2 nb;have a1 := db5 (bq6 a) (bq7 a) (bq6 b) (bq7 b);have r1 := ea5 (bif da6 (bq6 a) (bq7 a) (bq6 b) (bq7 b) then muN (bq6 a) (bq7 a) (bq6 b) (bq7 b) else 0) (bif da6 (bq6 a) (bq7 a) (bq6 b) (bq7 b) then muD (bq6 a) (bq7 a) (bq6 b) (bq7 b) else 0) (da6 (bq6 a) (bq7 a) (bq6 b) (bq7 b));rw [eb4] at r1;simp only [fk6, fk5, cond_false];refine ye3 func117 ntmps117 fun _ _ _=>?_
    repeat' (first | refine yz ?_ | refine yp b44 n1 ?_ | refine yp b44 n2 ?_ | refine yp b171 a1 ?_ | refine yp b98 r1 ?_ | refine yx ?_ | (refine yy ?_ ?_ <;> intro _) | exact zD | exact zL)
 ·have e0 : arF 10 a b = bif !(bq5 a) || !(bq5 b) then bp9 else ds0 (da9 (bq6 a) (bq7 a) (bq6 b) (bq7 b)) (db0 (bq6 a) (bq7 a) (bq6 b) (bq7 b)) (db1 (bq6 a) (bq7 a) (bq6 b) (bq7 b)) := rfl;rw [e0]
  cases na : bq5 a with
  | false =>
   rw [na] at n1;simp only [fi7, fi8, cond_true];refine ye3 func117 ntmps117 fun _ _ _=>?_
   repeat' (first | refine yz ?_ | refine yp b44 n1 ?_ | refine yp b44 n2 ?_ | refine yp b34 cb1 ?_ | refine yx ?_ | (refine yy ?_ ?_ <;> intro _) | exact zD | exact zL)
  | true =>
   rw [na] at n1
   cases nb : bq5 b with
   | false =>
    rw [nb] at n2;simp only [fi7, fj4, cond_true];refine ye3 func117 ntmps117 fun _ _ _=>?_
    repeat' (first | refine yz ?_ | refine yp b44 n1 ?_ | refine yp b44 n2 ?_ | refine yp b34 cb1 ?_ | refine yx ?_ | (refine yy ?_ ?_ <;> intro _) | exact zD | exact zL)
   | true =>
    rw [nb] at n2;have fb := ds2 nb;have a1 := db9 (bq6 a) (bq7 a) (bq6 b) (bq7 b);have r1 := ea5 (db0 (bq6 a) (bq7 a) (bq6 b) (bq7 b)) (db1 (bq6 a) (bq7 a) (bq6 b) (bq7 b)) (da9 (bq6 a) (bq7 a) (bq6 b) (bq7 b));simp only [fk6, fk5, cond_false];refine ye3 func117 ntmps117 fun _ _ _=>?_
    repeat' (first | refine yz ?_ | refine yp b44 n1 ?_ | refine yp b44 n2 ?_ | refine yp b172 a1 ?_ | refine yp b98 r1 ?_ | refine yx ?_ | (refine yy ?_ ?_ <;> intro _) | exact zD | exact zL)
 ·have m := db3 a.n b.n;have i1 := cb5 (cz0 a.n b.n);have e0 : arF 11 a b = bif !(bq5 a) || !(bq5 b) then bp9 else bif cy9 a.n b.n && (a.k == 2 && b.k == 2) then bp5 (cz0 a.n b.n) else bp9 := rfl;rw [e0]
  cases na : bq5 a with
  | false =>
   rw [na] at n1;simp only [fi7, fi8, cond_true];refine ye3 func117 ntmps117 fun _ _ _=>?_
   repeat' (first | refine yz ?_ | refine yp b44 n1 ?_ | refine yp b44 n2 ?_ | refine yp b34 cb1 ?_ | refine yx ?_ | (refine yy ?_ ?_ <;> intro _) | exact zD | exact zL)
  | true =>
   rw [na] at n1
   cases nb : bq5 b with
   | false =>
    rw [nb] at n2;simp only [fi7, fj4, cond_true];refine ye3 func117 ntmps117 fun _ _ _=>?_
    repeat' (first | refine yz ?_ | refine yp b44 n1 ?_ | refine yp b44 n2 ?_ | refine yp b34 cb1 ?_ | refine yx ?_ | (refine yy ?_ ?_ <;> intro _) | exact zD | exact zL)
   | true =>
    rw [nb] at n2;simp only [fk6, fk5, cond_false]
    cases k1 : a.k == 2 with
    | false =>
     have k1' : (a.k != 2) = true := by rw [bne, k1]; rfl
     rw [fi6, fk4, cond_false];refine ye3 func117 ntmps117 fun _ _ _=>?_
     repeat' (first | refine yz ?_ | refine yp b44 n1 ?_ | refine yp b44 n2 ?_ | refine yp b34 cb1 ?_ | refine yx ?_ | (refine yy ?_ ?_ <;> intro _) | exact zD | exact zL)
    | true =>
    have k1' : (a.k != 2) = false := by rw [bne, k1]; rfl
    cases k2 : b.k == 2 with
    | false =>
     have k2' : (b.k != 2) = true := by rw [bne, k2]; rfl
     rw [fk4, fk4, cond_false];refine ye3 func117 ntmps117 fun _ _ _=>?_
     repeat' (first | refine yz ?_ | refine yp b44 n1 ?_ | refine yp b44 n2 ?_ | refine yp b34 cb1 ?_ | refine yx ?_ | (refine yy ?_ ?_ <;> intro _) | exact zD | exact zL)
    | true =>
     have k2' : (b.k != 2) = false := by rw [bne, k2]; rfl
     cases hm : cy9 a.n b.n <;> rw [hm] at m
     all_goals
      refine ye3 func117 ntmps117 fun _ _ _=>?_
      repeat' (first | refine yz ?_ | refine yp b44 n1 ?_ | refine yp b44 n2 ?_ | refine yp b173 m ?_ | refine yp b34 cb1 ?_ | refine yp b97 i1 ?_ | refine yx ?_ | (refine yy ?_ ?_ <;> intro _) | exact zD | exact zL)
set_option maxHeartbeats 4000000 in
theorem eb6 (g : Gr) (env : List Bd) (op : Int) (v : V) (nm : ByteArray) (a b : V) (ho : 7 ≤ op ∧ op ≤ 20) (ha : Val.okV a = true) (hb : Val.okV b = true) : Ev E 64 [.int op, enc a, enc b] (.d (enc (apF g env op v nm [a, b]))) := by
 have t1 := cf3 a;have t2 := cf3 b;have q1 := ct7 a b;have l1 := cu1 a b;have l2 := cu1 b a;have m1 := eb2 a b;have m2 := eb2 b a;rw [cx1] at m2;have i1 := eb3 a b;obtain rfl | rfl | rfl | rfl | rfl | rfl | rfl | rfl | rfl | rfl | rfl | rfl | rfl | rfl : op = 7 ∨ op = 8 ∨ op = 9 ∨ op = 10 ∨ op = 11 ∨ op = 12 ∨ op = 13 ∨ op = 14 ∨ op = 15 ∨ op = 16 ∨ op = 17 ∨ op = 18 ∨ op = 19 ∨ op = 20 := by omega
 ·have h := eb5 7 a b (by omega) ha hb;rw [show apF g env 7 v nm [a, b] = arF 7 a b from rfl];refine ye3 func64 ntmps64 fun _ _ _=>?_
  repeat' (first | refine yz ?_ | refine yp br3 h ?_ | refine yx ?_ | (refine yy ?_ ?_ <;> intro _) | exact zD | exact zL)
 ·have h := eb5 8 a b (by omega) ha hb;rw [show apF g env 8 v nm [a, b] = arF 8 a b from rfl];refine ye3 func64 ntmps64 fun _ _ _=>?_
  repeat' (first | refine yz ?_ | refine yp br3 h ?_ | refine yx ?_ | (refine yy ?_ ?_ <;> intro _) | exact zD | exact zL)
 ·have h := eb5 9 a b (by omega) ha hb;rw [show apF g env 9 v nm [a, b] = arF 9 a b from rfl];refine ye3 func64 ntmps64 fun _ _ _=>?_
  repeat' (first | refine yz ?_ | refine yp br3 h ?_ | refine yx ?_ | (refine yy ?_ ?_ <;> intro _) | exact zD | exact zL)
 ·have h := eb5 10 a b (by omega) ha hb;rw [show apF g env 10 v nm [a, b] = arF 10 a b from rfl];refine ye3 func64 ntmps64 fun _ _ _=>?_
  repeat' (first | refine yz ?_ | refine yp br3 h ?_ | refine yx ?_ | (refine yy ?_ ?_ <;> intro _) | exact zD | exact zL)
 ·have h := eb5 11 a b (by omega) ha hb;rw [show apF g env 11 v nm [a, b] = arF 11 a b from rfl];refine ye3 func64 ntmps64 fun _ _ _=>?_
  repeat' (first | refine yz ?_ | refine yp br3 h ?_ | refine yx ?_ | (refine yy ?_ ?_ <;> intro _) | exact zD | exact zL)
 ·have t5 := ca5 (eqF a b);have t6 := cc5 (eqF a b);rw [show apF g env 12 v nm [a, b] = bq9 (eqF a b) from rfl];refine ye3 func64 ntmps64 fun _ _ _=>?_
  repeat' (first | refine yz ?_ | refine yp br2 q1 ?_ | refine yp br1 t6 ?_ | refine yx ?_ | (refine yy ?_ ?_ <;> intro _) | exact zD | exact zL)
 ·have t5 := ca5 (eqF a b);have t6 := cc5 (2 - kn (eqF a b));rw [show apF g env 13 v nm [a, b] = bq9 (2 - kn (eqF a b)) from rfl];refine ye3 func64 ntmps64 fun _ _ _=>?_
  repeat' (first | refine yz ?_ | refine yp br2 q1 ?_ | refine yp b109 t5 ?_ | refine yp br1 t6 ?_ | refine yx ?_ | (refine yy ?_ ?_ <;> intro _) | exact zD | exact zL)
 ·have t5 := ca5 (eqF a b);have t6 := cc5 (cu0 a b);rw [show apF g env 14 v nm [a, b] = bq9 (cu0 a b) from rfl];refine ye3 func64 ntmps64 fun _ _ _=>?_
  repeat' (first | refine yz ?_ | refine yp b114 l1 ?_ | refine yp br1 t6 ?_ | refine yx ?_ | (refine yy ?_ ?_ <;> intro _) | exact zD | exact zL)
 ·have t5 := ca5 (eqF a b);have t6 := cc5 (dr5 (cu0 a b) (eqF a b));rw [show apF g env 15 v nm [a, b] = bq9 (dr5 (cu0 a b) (eqF a b)) from rfl];refine ye3 func64 ntmps64 fun _ _ _=>?_
  repeat' (first | refine yz ?_ | refine yp b115 m1 ?_ | refine yp br1 t6 ?_ | refine yx ?_ | (refine yy ?_ ?_ <;> intro _) | exact zD | exact zL)
 ·have t5 := ca5 (eqF a b);have t6 := cc5 (cu0 b a);rw [show apF g env 16 v nm [a, b] = bq9 (cu0 b a) from rfl];refine ye3 func64 ntmps64 fun _ _ _=>?_
  repeat' (first | refine yz ?_ | refine yp b114 l2 ?_ | refine yp br1 t6 ?_ | refine yx ?_ | (refine yy ?_ ?_ <;> intro _) | exact zD | exact zL)
 ·have t5 := ca5 (eqF a b);have t6 := cc5 (dr5 (cu0 b a) (eqF a b));rw [show apF g env 17 v nm [a, b] = bq9 (dr5 (cu0 b a) (eqF a b)) from rfl];refine ye3 func64 ntmps64 fun _ _ _=>?_
  repeat' (first | refine yz ?_ | refine yp b115 m2 ?_ | refine yp br1 t6 ?_ | refine yx ?_ | (refine yy ?_ ?_ <;> intro _) | exact zD | exact zL)
 ·have t5 := ca7 (bq8 a) (bq8 b);have t6 := cc5 (min (kn (bq8 a)) (kn (bq8 b)));rw [show apF g env 18 v nm [a, b] = bq9 (min (kn (bq8 a)) (kn (bq8 b))) from rfl];refine ye3 func64 ntmps64 fun _ _ _=>?_
  repeat' (first | refine yq 3 [6] ?_ | refine yf 3 0 6 ?_ | refine yw ?_ | refine rgN ?_ | refine yv ?_ | refine yz ?_ | refine yp b36 t1 ?_ | refine yp b36 t2 ?_ | refine yp b111 t5 ?_ | refine yp br1 t6 ?_ | refine yx ?_ | (refine yy ?_ ?_ <;> intro _) | exact zD | exact zL)
 ·have t5 := ca9 (bq8 a) (bq8 b);have t6 := cc5 (max (kn (bq8 a)) (kn (bq8 b)));rw [show apF g env 19 v nm [a, b] = bq9 (max (kn (bq8 a)) (kn (bq8 b))) from rfl];refine ye3 func64 ntmps64 fun _ _ _=>?_
  repeat' (first | refine yq 5 [6] ?_ | refine yf 5 0 6 ?_ | refine yw ?_ | refine rgN ?_ | refine yv ?_ | refine yz ?_ | refine yp b36 t1 ?_ | refine yp b36 t2 ?_ | refine yp b112 t5 ?_ | refine yp br1 t6 ?_ | refine yx ?_ | (refine yy ?_ ?_ <;> intro _) | exact zD | exact zL)
 ·rw [show apF g env 20 v nm [a, b] = bq9 (bif b.k != 8 then 1 else inL a b.l 0) from rfl];refine ye3 func64 ntmps64 fun _ _ _=>?_
  repeat' (first | refine yz ?_ | refine yp b116 i1 ?_ | refine yx ?_ | (refine yy ?_ ?_ <;> intro _) | exact zD | exact zL)
theorem eb7 (g : Gr) (nm : ByteArray) (a : V) (hn : eqS nm ds6 = true ∨ eqS nm ds7 = true ∨ eqS nm ds8 = true) : Ev E 101 [dc3 g, .str nm, enc a] (.d (enc (bif dv0 g a then ofE nm (du9 g a) else bp9))) := by
 have h := dd3 g a.n;have i1 := cb7 ((dd0 g.edges a.n).getD ed0).ty;have i2 := cb9 ((dd0 g.edges a.n).getD ed0).src;have i3 := cb9 ((dd0 g.edges a.n).getD ed0).dst;unfold dv0 du9
 cases k6 : a.k == 6 with
 | false =>
  have k6' : (a.k != 6) = true := by rw [bne, k6]; rfl
  rw [fi6, cond_false];refine ye3 func101 ntmps101 fun _ _ _=>?_
  repeat' (first | refine yz ?_ | refine yp bs7 h ?_ | refine yp b34 cb1 ?_ | refine yx ?_ | exact zD)
 | true =>
  have k6' : (a.k != 6) = false := by rw [bne, k6]; rfl
  rw [fh3, cond_true];generalize (dd0 g.edges a.n).getD ed0 = x at *
  cases hs : (dd0 g.edges a.n).isSome with
  | false =>
   rw [hs] at h;rw [cond_false];refine ye3 func101 ntmps101 fun _ _ _=>?_
   repeat' (first | refine yz ?_ | refine yp bs7 h ?_ | refine yp b34 cb1 ?_ | refine yx ?_ | exact zD)
  | true =>
   rw [hs] at h;rw [cond_true];unfold ofE
   have n1 : eqS nm ds7 = true → eqS nm ds6 = false := fun h => by
    unfold eqS ds7 ds6 at *;rw [show nm.toList = _ from beq_iff_eq.1 h];decide +kernel
   have n2 : eqS nm ds8 = true → eqS nm ds6 = false ∧ eqS nm ds7 = false := fun h => by
    unfold eqS ds8 ds6 ds7 at *;rw [show nm.toList = _ from beq_iff_eq.1 h];decide +kernel
   rcases hn with hn | hn | hn
   ·have c1 : (nm.toList == (⟨#[115, 116, 97, 114, 116]⟩ : ByteArray).toList) = false := by
     cases hc : eqS nm ds7 with
     | false => exact hc
     | true => rw [n1 hc] at hn; cases hn
    have c2 : (nm.toList == (⟨#[101, 110, 100]⟩ : ByteArray).toList) = false := by
     cases hc : eqS nm ds8 with
     | false => exact hc
     | true => rw [(n2 hc).1] at hn; cases hn
    rw [hn, cond_true];refine ye3 func101 ntmps101 fun _ _ _=>?_
    repeat' (first | refine yz ?_ | refine yp bs7 h ?_ | refine yp b99 i1 ?_ | refine yx ?_ | exact zD)
   ·have c1 : (nm.toList == (⟨#[115, 116, 97, 114, 116]⟩ : ByteArray).toList) = true := hn;rw [n1 hn, hn, cond_false, cond_true];refine ye3 func101 ntmps101 fun _ _ _=>?_
    repeat' (first | refine yz ?_ | refine yp bs7 h ?_ | refine yp b167 i2 ?_ | refine yx ?_ | exact zD)
   ·have c1 : (nm.toList == (⟨#[115, 116, 97, 114, 116]⟩ : ByteArray).toList) = false := (n2 hn).2;have c2 : (nm.toList == (⟨#[101, 110, 100]⟩ : ByteArray).toList) = true := hn;rw [(n2 hn).1, (n2 hn).2, cond_false, cond_false];refine ye3 func101 ntmps101 fun _ _ _=>?_
    repeat' (first | refine yz ?_ | refine yp bs7 h ?_ | refine yp b167 i3 ?_ | refine yx ?_ | exact zD)
set_option maxHeartbeats 4000000 in
theorem eb8 (g : Gr) (a : V) (hg : du4 g) : Ev E 102 [dc3 g, enc a] (.d (enc (bif du8 g a then cu3 ((du7 g a).labels.map bp7) else bp9))) := by
 have h := dd2 g a.n;have hnn := (dv4 hg a).1;unfold du8 du7 at *
 cases k5 : a.k == 5 with
 | false =>
  have k5' : (a.k != 5) = true := by rw [bne, k5]; rfl
  rw [fi6, cond_false];refine ye2 func102 ntmps102 fun _ _ _=>?_
  repeat' (first | refine yz ?_ | refine yp br0 h ?_ | refine yp b34 cb1 ?_ | refine yx ?_ | exact zD)
 | true =>
  have k5' : (a.k != 5) = false := by rw [bne, k5]; rfl
  rw [k5] at hnn;rw [fh3, cond_true];rw [cond_true] at hnn
  cases hs : (dc9 g.nodes a.n).isSome with
  | false =>
   rw [hs] at h;rw [cond_false];refine ye2 func102 ntmps102 fun _ _ _=>?_
   repeat' (first | refine yz ?_ | refine yp br0 h ?_ | refine yp b34 cb1 ?_ | refine yx ?_ | exact zD)
  | true =>
   rw [hs] at h;rw [cond_true];generalize (dc9 g.nodes a.n).getD nd0 = nd at h hnn ⊢
   have hL := cu5 (nd.labels.map bp7) (dt9 (by simpa using hnn) fun x hx => by
    obtain ⟨s, -, rfl⟩ := fk8.1 hx;rfl)
   have hll0 : (nd.labels.map D.str).length = nd.labels.length := by simp
   refine ye2 func102 ntmps102 fun _ _ _=>?_
   repeat' (first | refine yz ?_ | refine yp br0 h ?_ | refine yx ?_)
   refine ac7 (α := Fin (nd.labels.length + 1)) (fun p => ⟨[(4, .ptr 0 0), (5, .ptr 1 0), (7, bi6 2 (bo1 ((nd.labels.take p.val).map bp7))), (8, .d (.int p.val))], [du1, .var 124 (.w (.d (dc1 nd)))] ++ ay5 24 5 (bo1 ((nd.labels.take p.val).map bp7))⟩) (fun p => nd.labels.length - p.val) ⟨0, by omega⟩ (bj8 [2, 3]) ?_;rintro ⟨i, hi⟩;dsimp only;rcases fg7 i nd.labels.length with hlt | hge
   ·have g1 : decide ((i : Int) < ((nd.labels.map D.str).length : Int)) = true := by rw [hll0]; simpa using hlt
    have hy0 := fg5 hlt;have htk : nd.labels.take (i + 1) = nd.labels.take i ++ [nd.labels[i]] := by rw [fo5 hlt]
    generalize nd.labels[i] = x at hy0 htk;have hx := dc5 (f := D.str) hy0;have s1 := cb7 x;have hta : bo1 ((nd.labels.take (i + 1)).map bp7) = bo1 ((nd.labels.take i).map bp7) ++ [enc (bp7 x)] := by rw [htk, fm7, fj0, fn5, du0]
    have hll : (bo1 ((nd.labels.take i).map bp7)).length ≤ i := by rw [bo7]; simp; omega
    match ho' : bo1 ((nd.labels.take i).map bp7), hll with
    | [], hll =>
     dsimp only [bi6, ay5, List.append, HAppend.hAppend, Append.append]
     repeat' (first | refine yz ?_ | refine yi (.str x) hx ?_ | refine yp b99 s1 ?_ | (refine qS rfl ⟨by simp, du2 _, by (show (0 + 1) * 64 ≤ 140737488355328; omega), by (show 0 + 1 ≤ 9223372036854775807; omega)⟩ ?_))
     refine ac1 ?_;refine ⟨⟨i + 1, by omega⟩, by dsimp only; omega, ?_⟩;dsimp only;rw [hta, ho'];exact (bj8 [0, 1, 2])
    | b :: q, hll =>
     dsimp only [bi6, ay5, List.append, HAppend.hAppend, Append.append]
     repeat' (first | refine yz ?_ | refine yi (.str x) hx ?_ | refine yp b99 s1 ?_ | (refine qS rfl ⟨by simp, du2 _, by (show ((b :: q).length + 1) * 64 ≤ 140737488355328; omega), by (show (b :: q).length + 1 ≤ 9223372036854775807; omega)⟩ ?_))
     refine ac1 ?_;refine ⟨⟨i + 1, by omega⟩, by dsimp only; omega, ?_⟩;dsimp only;rw [hta, ho'];exact (bj8 [0, 1, 3])
   ·have g1 : decide ((i : Int) < ((nd.labels.map D.str).length : Int)) = false := by rw [hll0]; simp; omega
    rw [fk9 hge]
    match ho' : bo1 (nd.labels.map bp7), hL with
    | [], hL =>
     dsimp only [bi6, ay5, List.append, HAppend.hAppend, Append.append]
     repeat' (first | refine yz ?_ | refine yp b61 hL ?_ | exact zD)
    | b :: q, hL =>
     dsimp only [bi6, ay5, List.append, HAppend.hAppend, Append.append];refine qA ?_;refine au6 2 rfl ?_
     repeat' (first | refine yz ?_ | refine yp b61 hL ?_ | exact zD)
def eb9 (nm : ByteArray) (a : V) : V :=
 bif a.k == 8 && !a.l.isEmpty && eqS nm dw3 then a.l.headD bp9 else
 bif a.k == 8 && !a.l.isEmpty && eqS nm dw4 then a.l.getLastD bp9 else
 bif a.k == 7 && (eqS nm ds9 || (eqS nm dt0 || eqS nm dt1)) then dt5 nm a.l else bp9
def ec0 (b : Bool) (l : List V) (i : Nat) : List V := dt3 (l.drop (bif (i % 2 == 0) == b then i else i + 1))
structure SRp (b : Bool) (l : List V) where
 i : Nat
 out : List V
 hi : i ≤ l.length
 ho : out.length ≤ i
 ok : ec0 b l 0 = out ++ ec0 b l i
theorem ec1 {b : Bool} {l : List V} {i : Nat} {x : V} (h : l[i]? = some x) (hc : ((i % 2 == 0) == b) = true) : ec0 b l i = x :: ec0 b l (i + 1) := by
 unfold ec0
 have h2 : (((i + 1) % 2 == 0) == b) = false := by
  rcases fq8 i with hm | hm
  ·rw [hm] at hc; rw [show (i + 1) % 2 = 1 by omega]; cases b <;> simp_all
  ·rw [hm] at hc; rw [show (i + 1) % 2 = 0 by omega]; cases b <;> simp_all
 rw [hc, h2, cond_true, cond_false];exact dt4 h
theorem ec2 {b : Bool} {l : List V} {i : Nat} (hc : ((i % 2 == 0) == b) = false) : ec0 b l i = ec0 b l (i + 1) := by
 unfold ec0
 have h2 : (((i + 1) % 2 == 0) == b) = true := by
  rcases fq8 i with hm | hm
  ·rw [hm] at hc; rw [show (i + 1) % 2 = 1 by omega]; cases b <;> simp_all
  ·rw [hm] at hc; rw [show (i + 1) % 2 = 0 by omega]; cases b <;> simp_all
 rw [hc, h2];rfl
theorem ec3 (i : Nat) : (Int.tmod (i : Int) 2 == 0) = (i % 2 == 0) := by
 rw [fm3, beq_iff_eq, beq_iff_eq, fl3 (by omega)];omega
set_option maxHeartbeats 8000000 in
theorem ec4 (nm : ByteArray) (a : V) (hna : nar a = true) : Ev E 103 [.str nm, enc a] (.d (enc (eb9 nm a))) := by
 obtain ⟨hal, hnl⟩ := cp8 hna;have hkl : (kids a).length = a.l.length := bo6 a;unfold eb9
 have dis : ∀ s t : ByteArray, (s.toList == t.toList) = false → eqS nm s = true → eqS nm t = false := fun s t hst h => by
  unfold eqS at *;rw [show nm.toList = s.toList from beq_iff_eq.1 h];exact hst
 cases k8 : a.k == 8 with
 | true =>
  have k7 : (a.k == 7) = false := by simp at k8 ⊢; omega
  have k7' : (a.k != 7) = true := by rw [bne, k7]; rfl
  rw [k7];simp only [fh3, fi6, cond_false]
  cases he : a.l with
  | nil =>
   have hk0 : kids a = [] := by rw [bo3, he]; rfl
   have g0 : decide (((kids a).length : Int) > 0) = false := by rw [hk0]; rfl
   simp only [List.isEmpty_nil, fk6, fi6, cond_false];refine ye2 func103 ntmps103 fun _ _ _=>?_
   repeat' (first | refine yz ?_ | refine yp b34 cb1 ?_ | refine yx ?_ | exact zD)
  | cons b q =>
   have hpos : 1 ≤ (kids a).length := by rw [hkl, he]; simp
   have g0 : decide (((kids a).length : Int) > 0) = true := by simp; omega
   simp only [List.isEmpty_cons, fi7, fh3]
   cases cf : eqS nm dw3 with
   | true =>
    have cf' : (nm.toList == (⟨#[102, 105, 114, 115, 116]⟩ : ByteArray).toList) = true := cf;have hb0 : (kids a)[(0 : Int).toNat]? = some (enc b) := bo4 (by rw [he]; rfl);refine ye2 func103 ntmps103 fun _ _ _=>?_
    repeat' (first | refine yz ?_ | refine yi (enc b) hb0 ?_ | refine yx ?_ | exact zD)
   | false =>
    have cf' : (nm.toList == (⟨#[102, 105, 114, 115, 116]⟩ : ByteArray).toList) = false := cf
    cases cl : eqS nm dw4 with
    | true =>
     have cl' : (nm.toList == (⟨#[108, 97, 115, 116]⟩ : ByteArray).toList) = true := cl
     have hbl : (kids a)[((((kids a).length : Int) - 1)).toNat]? = some (enc ((b :: q).getLastD bp9)) := by
      refine bo4 ?_;rw [hkl, he, show (((b :: q).length : Int) - 1).toNat = (b :: q).length - 1 by simp, List.getLastD_cons];rw [← List.getLast?_eq_getElem?];simp [List.getLast?_cons]
     refine ye2 func103 ntmps103 fun _ _ _=>?_
     repeat' (first | refine yz ?_ | refine qI (enc ((b :: q).getLastD bp9)) rfl (ap2 rfl) rfl rfl rfl rfl rfl rfl (by first | omega | decide) hbl ?_ | refine yx ?_ | exact zD)
    | false =>
     have cl' : (nm.toList == (⟨#[108, 97, 115, 116]⟩ : ByteArray).toList) = false := cl;refine ye2 func103 ntmps103 fun _ _ _=>?_
     repeat' (first | refine yz ?_ | refine yp b34 cb1 ?_ | refine yx ?_ | exact zD)
 | false =>
  simp only [fi6, cond_false]
  cases k7 : a.k == 7 with
  | false =>
   have k7' : (a.k != 7) = true := by rw [bne, k7]; rfl
   rw [fi6, cond_false];refine ye2 func103 ntmps103 fun _ _ _=>?_
   repeat' (first | refine yz ?_ | refine yp b34 cb1 ?_ | refine yx ?_ | exact zD)
  | true =>
   have k7' : (a.k != 7) = false := by rw [bne, k7]; rfl
   rw [fh3]
   cases cl : eqS nm ds9 with
   | true =>
    have cl' : (nm.toList == (⟨#[108, 101, 110, 103, 116, 104]⟩ : ByteArray).toList) = true := cl;rw [fi8, cond_true];unfold dt5;rw [cl, cond_true];have i1 := cb5 (Int.tdiv ((kids a).length : Int) 2);have e : ((a.l.length : Int) / 2) = Int.tdiv ((kids a).length : Int) 2 := by rw [hkl, fm1 (by omega)]
    have w1 : (2 : Int) ≠ 0 ∧ inR .i64 (Int.tdiv ((kids a).length : Int) 2) := by rw [← e]; refine ⟨by omega, ?_⟩; simp only [inR]; omega
    rw [e];have n1 : (!(nm.toList == (⟨#[108, 101, 110, 103, 116, 104]⟩ : ByteArray).toList)) = false := by rw [cl']; rfl
    refine ye2 func103 ntmps103 fun _ _ _=>?_
    repeat' (first | refine yz ?_ | refine yp b97 i1 ?_ | refine yx ?_ | exact zD)
   | false =>
    have cl' : (nm.toList == (⟨#[108, 101, 110, 103, 116, 104]⟩ : ByteArray).toList) = false := cl;have n1 : (!(nm.toList == (⟨#[108, 101, 110, 103, 116, 104]⟩ : ByteArray).toList)) = true := by rw [cl']; rfl
    cases cn : eqS nm dt0 || eqS nm dt1 with
    | false =>
     rw [fp5] at cn;have n2 : (!(nm.toList == (⟨#[110, 111, 100, 101, 115]⟩ : ByteArray).toList)) = true := by rw [show (nm.toList == (⟨#[110, 111, 100, 101, 115]⟩ : ByteArray).toList) = false from cn.1]; rfl
     have n3 : (!(nm.toList == (⟨#[101, 100, 103, 101, 115]⟩ : ByteArray).toList)) = true := by rw [show (nm.toList == (⟨#[101, 100, 103, 101, 115]⟩ : ByteArray).toList) = false from cn.2]; rfl
     simp only [fk5, cond_false];refine ye2 func103 ntmps103 fun _ _ _=>?_
     repeat' (first | refine yz ?_ | refine yp b34 cb1 ?_ | refine yx ?_ | exact zD)
    | true =>
     rw [fj4, cond_true]
     have hst : dt5 nm a.l = cu3 (ec0 (eqS nm dt0) a.l 0) := by
      unfold dt5 ec0;rw [cl, cond_false];congr 2
      cases cd : eqS nm dt0 with
      | true => rw [dis dt0 dt1 (by decide +kernel) cd]; rfl
      | false => rw [cd, fj6] at cn; rw [cn]; rfl
     rw [hst];have hmem : ∀ x ∈ ec0 (eqS nm dt0) a.l 0, nar x = true := fun x hx => cp7 hnl x (fn8 (dt7 hx))
     have hL := cu5 (ec0 (eqS nm dt0) a.l 0) (dt9 (by have := dt6 (a.l.drop (bif (0 % 2 == 0) == eqS nm dt0 then 0 else 0 + 1)); simp only [ec0]; rw [fm5] at this; omega) hmem)
     cases cd : eqS nm dt0
     all_goals
      have cd' := cd;unfold eqS dt0 at cd';have n2 : (!(nm.toList == (⟨#[110, 111, 100, 101, 115]⟩ : ByteArray).toList)) = !(eqS nm dt0) := rfl;have n3 : (!(nm.toList == (⟨#[101, 100, 103, 101, 115]⟩ : ByteArray).toList)) = !(eqS nm dt1) := rfl;rw [cd] at n2 hL cn
     ·rw [fj6] at cn;rw [cn] at n3;simp only [fi7, fk6] at n2 n3;refine ye2 func103 ntmps103 fun _ _ _=>?_
      repeat' (first | refine yz ?_ | refine yx ?_)
      refine ac7 (α := SRp false a.l) (fun p => ⟨[(0, .d (.str nm)), (3, .ptr 0 0), (4, .ptr 1 0), (5, bi6 2 (bo1 p.out)), (6, .d (.int p.i))], [.var 24 (.w (.d (enc a))), du1] ++ ay5 24 5 (bo1 p.out)⟩) (fun p => a.l.length - p.i) ⟨0, [], by omega, by simp, rfl⟩ (zle 2) ?_;rintro ⟨i, out, hi, ho, ok⟩;dsimp only;rcases fg7 i a.l.length with hlt | hge
      ·have g1 : decide ((i : Int) < ((kids a).length : Int)) = true := by rw [hkl]; simpa using hlt
       have hx0 := fg5 hlt;generalize a.l[i] = x at hx0;have hx : (kids a)[(i : Int).toNat]? = some (enc x) := by rw [fh0]; exact bo4 hx0
       have hta := du0 out x;have hll : (bo1 out).length ≤ i := by rw [bo7]; omega
       have hcc : ((Int.tmod (i : Int) 2 == 0) == (nm.toList == (⟨#[110, 111, 100, 101, 115]⟩ : ByteArray).toList)) = ((i % 2 == 0) == false) := by rw [cd', ec3]
       have hrm : (2 : Int) ≠ 0 ∧ inR .i64 (Int.tmod (i : Int) 2) := by
        refine ⟨by omega, ?_⟩;rw [fl3 (by omega)];simp only [inR];omega
       cases hc : (i % 2 == 0) == false with
       | false =>
        rw [hc] at hcc;rw [ec2 hc] at ok
        match ho' : bo1 out, hll with
        | [], hll =>
         dsimp only [bi6, ay5, List.append, HAppend.hAppend, Append.append]
         repeat' (refine yz ?_)
         refine ac1 ?_;refine ⟨⟨i + 1, out, by omega, by omega, ok⟩, by dsimp only; omega, ?_⟩;dsimp only;rw [ho'];exact (bj8 [0, 1])
        | b :: q, hll =>
         dsimp only [bi6, ay5, List.append, HAppend.hAppend, Append.append]
         repeat' (refine yz ?_)
         refine ac1 ?_;refine ⟨⟨i + 1, out, by omega, by omega, ok⟩, by dsimp only; omega, ?_⟩;dsimp only;rw [ho'];exact (bj8 [0, 1, 2])
       | true =>
        rw [hc] at hcc;rw [ec1 hx0 hc] at ok
        match ho' : bo1 out, hll with
        | [], hll =>
         dsimp only [bi6, ay5, List.append, HAppend.hAppend, Append.append]
         repeat' (first | refine yz ?_ | refine yi (enc x) hx ?_ | (refine qS rfl ⟨by simp, du2 _, by (show (0 + 1) * 64 ≤ 140737488355328; omega), by (show 0 + 1 ≤ 9223372036854775807; omega)⟩ ?_))
         refine ac1 ?_;refine ⟨⟨i + 1, out ++ [x], by omega, by simp; omega, by rw [ok]; simp⟩, by dsimp only; omega, ?_⟩;dsimp only;rw [hta, ho'];exact (bj8 [0, 1, 2])
        | b :: q, hll =>
         dsimp only [bi6, ay5, List.append, HAppend.hAppend, Append.append]
         repeat' (first | refine yz ?_ | refine yi (enc x) hx ?_ | (refine qS rfl ⟨by simp, du2 _, by (show ((b :: q).length + 1) * 64 ≤ 140737488355328; omega), by (show (b :: q).length + 1 ≤ 9223372036854775807; omega)⟩ ?_))
         refine ac1 ?_;refine ⟨⟨i + 1, out ++ [x], by omega, by simp; omega, by rw [ok]; simp⟩, by dsimp only; omega, ?_⟩;dsimp only;rw [hta, ho'];exact (bj8 [0, 1, 3])
      ·have g1 : decide ((i : Int) < ((kids a).length : Int)) = false := by rw [hkl]; simp; omega
       have ok' : ec0 false a.l 0 = out := by
        rw [ok]
        have : ec0 false a.l i = [] := by
         unfold ec0;rw [fh6 (by cases (i % 2 == 0) == false <;> simp <;> omega)];rfl
        rw [this, fn1]
       rw [ok'] at hL ⊢
       match ho' : bo1 out, hL with
       | [], hL =>
        dsimp only [bi6, ay5, List.append, HAppend.hAppend, Append.append]
        repeat' (first | refine yz ?_ | refine yp b61 hL ?_ | exact zD)
       | b :: q, hL =>
        dsimp only [bi6, ay5, List.append, HAppend.hAppend, Append.append]
        repeat' (refine yz ?_)
        refine be7 2 rfl ?_
        repeat' (first | refine yz ?_ | refine yp b61 hL ?_ | exact zD)
     ·simp only [fk6] at n2;refine ye2 func103 ntmps103 fun _ _ _=>?_
      repeat' (first | refine yz ?_ | refine yx ?_)
      refine ac7 (α := SRp true a.l) (fun p => ⟨[(0, .d (.str nm)), (3, .ptr 0 0), (4, .ptr 1 0), (5, bi6 2 (bo1 p.out)), (6, .d (.int p.i))], [.var 24 (.w (.d (enc a))), du1] ++ ay5 24 5 (bo1 p.out)⟩) (fun p => a.l.length - p.i) ⟨0, [], by omega, by simp, rfl⟩ (zle 2) ?_;rintro ⟨i, out, hi, ho, ok⟩;dsimp only;rcases fg7 i a.l.length with hlt | hge
      ·have g1 : decide ((i : Int) < ((kids a).length : Int)) = true := by rw [hkl]; simpa using hlt
       have hx0 := fg5 hlt;generalize a.l[i] = x at hx0;have hx : (kids a)[(i : Int).toNat]? = some (enc x) := by rw [fh0]; exact bo4 hx0
       have hta := du0 out x;have hll : (bo1 out).length ≤ i := by rw [bo7]; omega
       have hcc : ((Int.tmod (i : Int) 2 == 0) == (nm.toList == (⟨#[110, 111, 100, 101, 115]⟩ : ByteArray).toList)) = ((i % 2 == 0) == true) := by rw [cd', ec3]
       have hrm : (2 : Int) ≠ 0 ∧ inR .i64 (Int.tmod (i : Int) 2) := by
        refine ⟨by omega, ?_⟩;rw [fl3 (by omega)];simp only [inR];omega
       cases hc : (i % 2 == 0) == true with
       | false =>
        rw [hc] at hcc;rw [ec2 hc] at ok
        match ho' : bo1 out, hll with
        | [], hll =>
         dsimp only [bi6, ay5, List.append, HAppend.hAppend, Append.append]
         repeat' (refine yz ?_)
         refine ac1 ?_;refine ⟨⟨i + 1, out, by omega, by omega, ok⟩, by dsimp only; omega, ?_⟩;dsimp only;rw [ho'];exact (bj8 [0, 1])
        | b :: q, hll =>
         dsimp only [bi6, ay5, List.append, HAppend.hAppend, Append.append]
         repeat' (refine yz ?_)
         refine ac1 ?_;refine ⟨⟨i + 1, out, by omega, by omega, ok⟩, by dsimp only; omega, ?_⟩;dsimp only;rw [ho'];exact (bj8 [0, 1, 2])
       | true =>
        rw [hc] at hcc;rw [ec1 hx0 hc] at ok
        match ho' : bo1 out, hll with
        | [], hll =>
         dsimp only [bi6, ay5, List.append, HAppend.hAppend, Append.append]
         repeat' (first | refine yz ?_ | refine yi (enc x) hx ?_ | (refine qS rfl ⟨by simp, du2 _, by (show (0 + 1) * 64 ≤ 140737488355328; omega), by (show 0 + 1 ≤ 9223372036854775807; omega)⟩ ?_))
         refine ac1 ?_;refine ⟨⟨i + 1, out ++ [x], by omega, by simp; omega, by rw [ok]; simp⟩, by dsimp only; omega, ?_⟩;dsimp only;rw [hta, ho'];exact (bj8 [0, 1, 2])
        | b :: q, hll =>
         dsimp only [bi6, ay5, List.append, HAppend.hAppend, Append.append]
         repeat' (first | refine yz ?_ | refine yi (enc x) hx ?_ | (refine qS rfl ⟨by simp, du2 _, by (show ((b :: q).length + 1) * 64 ≤ 140737488355328; omega), by (show (b :: q).length + 1 ≤ 9223372036854775807; omega)⟩ ?_))
         refine ac1 ?_;refine ⟨⟨i + 1, out ++ [x], by omega, by simp; omega, by rw [ok]; simp⟩, by dsimp only; omega, ?_⟩;dsimp only;rw [hta, ho'];exact (bj8 [0, 1, 3])
      ·have g1 : decide ((i : Int) < ((kids a).length : Int)) = false := by rw [hkl]; simp; omega
       have ok' : ec0 true a.l 0 = out := by
        rw [ok]
        have : ec0 true a.l i = [] := by
         unfold ec0;rw [fh6 (by cases (i % 2 == 0) == true <;> simp <;> omega)];rfl
        rw [this, fn1]
       rw [ok'] at hL ⊢
       match ho' : bo1 out, hL with
       | [], hL =>
        dsimp only [bi6, ay5, List.append, HAppend.hAppend, Append.append]
        repeat' (first | refine yz ?_ | refine yp b61 hL ?_ | exact zD)
       | b :: q, hL =>
        dsimp only [bi6, ay5, List.append, HAppend.hAppend, Append.append]
        repeat' (refine yz ?_)
        refine be7 2 rfl ?_
        repeat' (first | refine yz ?_ | refine yp b61 hL ?_ | exact zD)
theorem ec5 {nm s t : ByteArray} (hst : (s.toList == t.toList) = false) (h : eqS nm s = true) : eqS nm t = false := by
 unfold eqS at *;rw [show nm.toList = s.toList from beq_iff_eq.1 h];exact hst
theorem ec6 {nm : ByteArray} {a : V} (h : eqS nm dw3 = false ∧ eqS nm dw4 = false ∧ eqS nm ds9 = false ∧ eqS nm dt0 = false ∧ eqS nm dt1 = false) : eb9 nm a = bp9 := by
 obtain ⟨h1, h2, h3, h4, h5⟩ := h;unfold eb9;rw [h1, h2, h3, h4, h5];simp
theorem ec7 (g : Gr) (nm : ByteArray) (a : V) (r : List V) (h0 : eqS nm dv8 = false) (h1 : eqS nm nmId = false) (h2 : eqS nm dv9 = false) (h3 : eqS nm dw0 = false) (h4 : eqS nm ds6 = false) (h5 : eqS nm ds7 = false) (h6 : eqS nm ds8 = false) (h7 : eqS nm dw1 = false) (h8 : eqS nm dw2 = false) :
  fnF g nm (a :: r) = eb9 nm a := by
 unfold fnF eb9;rw [h0, h1, h2, h3, h4, h5, h6, h7, h8, show a0 (a :: r) = a from rfl];simp only [fk5, cond_false]
 cases k8 : a.k == 8 with
 | true =>
  have k7 : (a.k == 7) = false := by simp at k8 ⊢; omega
  rw [k7]
  cases cf : eqS nm dw3 with
  | true =>
   have e1 : eqS nm ds9 = false := ec5 (by decide +kernel) cf;have e2 : eqS nm dt0 = false := ec5 (by decide +kernel) cf;have e3 : eqS nm dt1 = false := ec5 (by decide +kernel) cf;have e4 : eqS nm dw4 = false := ec5 (by decide +kernel) cf;rw [e1, e2, e3, e4]
   cases a.l.isEmpty <;> simp
  | false =>
   cases cl : eqS nm dw4 with
   | true =>
    have e1 : eqS nm ds9 = false := ec5 (by decide +kernel) cl;have e2 : eqS nm dt0 = false := ec5 (by decide +kernel) cl;have e3 : eqS nm dt1 = false := ec5 (by decide +kernel) cl;rw [e1, e2, e3]
    cases a.l.isEmpty <;> simp
   | false =>
    cases eqS nm ds9 <;> cases eqS nm dt0 <;> cases eqS nm dt1 <;> simp
 | false =>
  cases k7 : a.k == 7 <;> cases eqS nm ds9 <;> cases eqS nm dt0 <;> cases eqS nm dt1 <;> simp
set_option maxHeartbeats 8000000 in
theorem ec8 (g : Gr) (nm : ByteArray) (l : List V) (hg : du4 g) (hok : dw7 nm l) : Ev E 62 [dc3 g, .str nm, .sl (bo1 l)] (.d (enc (fnF g nm l))) := by
 obtain ⟨hne, hmax, hnar, htx, hal⟩ := hok;have hle : (bo1 l).length = l.length := bo7 _
 obtain ⟨a, r, hl⟩ : ∃ a r, l = a :: r := by
  cases l with
  | nil => exact absurd rfl hne
  | cons a r => exact ⟨a, r, rfl⟩
 have ha0 : a0 l = a := by rw [hl]; rfl
 have hx0 : (bo1 l)[(0 : Int).toNat]? = some (enc a) := by rw [hl]; rfl
 have hna : nar a = true := hnar a (by rw [hl]; simp);have hkl : (kids a).length = a.l.length := bo6 a;have hpt := ec4 nm a hna;rw [ha0] at htx hal;have hkm : (kids a).length ≤ 2000000 := by rw [hkl]; exact hal
 cases c0 : eqS nm dv8 with
 | true =>
  have c0' : (nm.toList == (⟨#[99, 111, 97, 108, 101, 115, 99, 101]⟩ : ByteArray).toList) = true := c0;have e0 : fnF g nm l = dw5 l := by unfold fnF; rw [c0]; rfl
  rw [e0];unfold dw5;refine ye3 func62 ntmps62 fun _ _ _=>?_
  repeat' (refine yz ?_)
  refine ac7 (α := SFd l fun v => v.k != 0) (fun p => ⟨[(2, .d (.sl (bo1 l))), (6, .ptr 1 0), (7, .d (.int p.i))], [.var 40 (.w (.d (dc3 g))), du1]⟩) (fun p => l.length - p.i) ⟨0, by omega, rfl⟩ (zle 2) ?_;rintro ⟨i, hi, ok⟩;dsimp only;rcases fg7 i l.length with hlt | hge
  ·have g1 : decide ((i : Int) < ((bo1 l).length : Int)) = true := by rw [hle]; simpa using hlt
   have hy0 := fg5 hlt;generalize l[i] = x at hy0;have hx : (bo1 l)[(i : Int).toNat]? = some (enc x) := bo5 (by rw [fh0]; exact hy0);rw [ok, dc8 hy0]
   cases hc : x.k != 0 with
   | true =>
    repeat' (first | refine yz ?_ | refine yi (enc x) hx ?_ | exact zD)
   | false =>
    repeat' (first | refine yz ?_ | refine yi (enc x) hx ?_)
    refine ac1 ?_;exact ⟨⟨i + 1, by omega, by rw [ok, dc8 hy0, hc]; rfl⟩, by dsimp only; omega, (zle 2)⟩
  ·have g1 : decide ((i : Int) < ((bo1 l).length : Int)) = false := by rw [hle]; simp; omega
   rw [ok, fh6 hge]
   repeat' (first | refine yz ?_ | refine yp b34 cb1 ?_ | exact zD)
 | false =>
 have c0' : (nm.toList == (⟨#[99, 111, 97, 108, 101, 115, 99, 101]⟩ : ByteArray).toList) = false := c0
 cases c1 : eqS nm nmId with
 | true =>
  have c1' : (nm.toList == (⟨#[105, 100]⟩ : ByteArray).toList) = true := c1;have i1 := cb5 a.n;rw [ec6 (nm := nm) (a := a) ⟨ec5 (by decide +kernel) c1, ec5 (by decide +kernel) c1, ec5 (by decide +kernel) c1, ec5 (by decide +kernel) c1, ec5 (by decide +kernel) c1⟩] at hpt;have e0 : fnF g nm l = bif a.k == 5 || a.k == 6 then bp5 a.n else bp9 := by unfold fnF; rw [c0, c1, ha0]; rfl
  rw [e0]
  cases k5 : a.k == 5 <;> cases k6 : a.k == 6
  all_goals
   refine ye3 func62 ntmps62 fun _ _ _=>?_
   repeat' (first | refine yz ?_ | refine yi (enc a) hx0 ?_ | refine yp b97 i1 ?_ | refine yp b103 hpt ?_ | refine yx ?_ | exact zD)
 | false =>
 have c1' : (nm.toList == (⟨#[105, 100]⟩ : ByteArray).toList) = false := c1
 cases c2 : eqS nm dv9 with
 | true =>
  have c2' : (nm.toList == (⟨#[97, 98, 115]⟩ : ByteArray).toList) = true := c2;have n1 := cf1 a;have e0 : fnF g nm l = dw6 a := by unfold fnF; rw [c0, c1, c2, ha0]; rfl
  rw [e0];unfold dw6
  cases hn : bq5 a with
  | true =>
   rw [hn] at n1;obtain ⟨-, f2, -⟩ := cz8 (ds2 hn)
   cases hs : decide (bq6 a < 0) with
   | true =>
    have hs' := of_decide_eq_true hs;have r1 := ea5 (0 - bq6 a) (bq7 a) true;rw [show max (bq6 a) (0 - bq6 a) = 0 - bq6 a by omega];refine ye3 func62 ntmps62 fun _ _ _=>?_
    repeat' (first | refine yz ?_ | refine yi (enc a) hx0 ?_ | refine yp b44 n1 ?_ | refine yp b98 r1 ?_ | exact zD)
   | false =>
    have hs' := of_decide_eq_false hs;have r1 := ea5 (bq6 a) (bq7 a) true;rw [show max (bq6 a) (0 - bq6 a) = bq6 a by omega];refine ye3 func62 ntmps62 fun _ _ _=>?_
    repeat' (first | refine yz ?_ | refine yi (enc a) hx0 ?_ | refine yp b44 n1 ?_ | refine yp b98 r1 ?_ | exact zD)
  | false =>
   rw [hn] at n1;have hz : bq6 a = 0 := by unfold bq6; rw [hn]; rfl
   have hs : decide (bq6 a < 0) = false := by rw [hz]; rfl
   have r1 := ea5 (bq6 a) (bq7 a) false;refine ye3 func62 ntmps62 fun _ _ _=>?_
   repeat' (first | refine yz ?_ | refine yi (enc a) hx0 ?_ | refine yp b44 n1 ?_ | refine yp b98 r1 ?_ | exact zD)
 | false =>
 have c2' : (nm.toList == (⟨#[97, 98, 115]⟩ : ByteArray).toList) = false := c2
 cases c3 : eqS nm dw0 with
 | true =>
  have c3' : (nm.toList == (⟨#[116, 101, 120, 116]⟩ : ByteArray).toList) = true := c3;have t1 := cp1 a (htx c3);have s1 := cb7 (bs (txt a));rw [ec6 (nm := nm) (a := a) ⟨ec5 (by decide +kernel) c3, ec5 (by decide +kernel) c3, ec5 (by decide +kernel) c3, ec5 (by decide +kernel) c3, ec5 (by decide +kernel) c3⟩] at hpt;have e0 : fnF g nm l = bif a.k != 0 then bp7 (bs (txt a)) else bp9 := by unfold fnF; rw [c0, c1, c2, c3, ha0]; rfl
  rw [e0]
  cases k0 : a.k != 0
  all_goals
   refine ye3 func62 ntmps62 fun _ _ _=>?_
   repeat' (first | refine yz ?_ | refine yi (enc a) hx0 ?_ | refine yp b100 t1 ?_ | refine yp b99 s1 ?_ | refine yp b103 hpt ?_ | exact zD)
 | false =>
 have c3' : (nm.toList == (⟨#[116, 101, 120, 116]⟩ : ByteArray).toList) = false := c3
 cases c4 : eqS nm dw2 with
 | true =>
  have c4' : (nm.toList == (⟨#[115, 105, 122, 101]⟩ : ByteArray).toList) = true := c4;have x4 : eqS nm ds6 = false := ec5 (by decide +kernel) c4;have x5 : eqS nm ds7 = false := ec5 (by decide +kernel) c4;have x6 : eqS nm ds8 = false := ec5 (by decide +kernel) c4;have x7 : eqS nm dw1 = false := ec5 (by decide +kernel) c4;rw [ec6 (nm := nm) (a := a) ⟨ec5 (by decide +kernel) c4, ec5 (by decide +kernel) c4, ec5 (by decide +kernel) c4, ec5 (by decide +kernel) c4, ec5 (by decide +kernel) c4⟩] at hpt;have i1 := cb5 a.s.size;have i2 := cb5 (kids a).length;have e0 : fnF g nm l = bif a.k == 4 then bp5 a.s.size else bif a.k == 8 then bp5 (kids a).length else bp9 := by unfold fnF; rw [c0, c1, c2, c3, x4, x5, x6, x7, c4, ha0, hkl]; rfl
  rw [e0];have y5 : (nm.toList == (⟨#[116, 121, 112, 101]⟩ : ByteArray).toList) = false := x4;have y6 : (nm.toList == (⟨#[115, 116, 97, 114, 116]⟩ : ByteArray).toList) = false := x5;have y7 : (nm.toList == (⟨#[101, 110, 100]⟩ : ByteArray).toList) = false := x6;have y8 : (nm.toList == (⟨#[108, 97, 98, 101, 108, 115]⟩ : ByteArray).toList) = false := x7
  cases k4 : a.k == 4 <;> cases k8 : a.k == 8
  all_goals
   refine Ev.fit fun hfit => ?_
   have hfa : Fit (enc a) := (hfit (.sl (bo1 l)) (by simp)).sls.2 _ (by rw [hl]; simp [bo2]);obtain ⟨-, -, -, f1, f2, -⟩ := bo8 hfa;refine ye3 func62 ntmps62 fun _ _ _=>?_
   repeat' (first | refine yz ?_ | refine yi (enc a) hx0 ?_ | refine yp b97 i1 ?_ | refine yp b97 i2 ?_ | refine yp b103 hpt ?_ | exact zD)
 | false =>
 have c4' : (nm.toList == (⟨#[115, 105, 122, 101]⟩ : ByteArray).toList) = false := c4
 cases c5 : eqS nm ds6 with
 | true =>
  have c5' : (nm.toList == (⟨#[116, 121, 112, 101]⟩ : ByteArray).toList) = true := c5;have h1 := eb7 g nm a (by simp [c5]);have e0 : fnF g nm l = bif dv0 g a then ofE nm (du9 g a) else bp9 := by unfold fnF; rw [c0, c1, c2, c3, c5, ha0]; simp
  rw [e0];refine ye3 func62 ntmps62 fun _ _ _=>?_
  repeat' (first | refine yz ?_ | refine yi (enc a) hx0 ?_ | refine yp b101 h1 ?_ | exact zD)
 | false =>
 have c5' : (nm.toList == (⟨#[116, 121, 112, 101]⟩ : ByteArray).toList) = false := c5
 cases c6 : eqS nm ds7 with
 | true =>
  have c6' : (nm.toList == (⟨#[115, 116, 97, 114, 116]⟩ : ByteArray).toList) = true := c6;have h1 := eb7 g nm a (by simp [c6]);have e0 : fnF g nm l = bif dv0 g a then ofE nm (du9 g a) else bp9 := by unfold fnF; rw [c0, c1, c2, c3, c5, c6, ha0]; simp
  rw [e0];refine ye3 func62 ntmps62 fun _ _ _=>?_
  repeat' (first | refine yz ?_ | refine yi (enc a) hx0 ?_ | refine yp b101 h1 ?_ | exact zD)
 | false =>
 have c6' : (nm.toList == (⟨#[115, 116, 97, 114, 116]⟩ : ByteArray).toList) = false := c6
 cases c7 : eqS nm ds8 with
 | true =>
  have c7' : (nm.toList == (⟨#[101, 110, 100]⟩ : ByteArray).toList) = true := c7;have h1 := eb7 g nm a (by simp [c7]);have e0 : fnF g nm l = bif dv0 g a then ofE nm (du9 g a) else bp9 := by unfold fnF; rw [c0, c1, c2, c3, c5, c6, c7, ha0]; simp
  rw [e0];refine ye3 func62 ntmps62 fun _ _ _=>?_
  repeat' (first | refine yz ?_ | refine yi (enc a) hx0 ?_ | refine yp b101 h1 ?_ | exact zD)
 | false =>
 have c7' : (nm.toList == (⟨#[101, 110, 100]⟩ : ByteArray).toList) = false := c7
 cases c8 : eqS nm dw1 with
 | true =>
  have c8' : (nm.toList == (⟨#[108, 97, 98, 101, 108, 115]⟩ : ByteArray).toList) = true := c8;have h1 := eb8 g a hg;have e0 : fnF g nm l = bif du8 g a then cu3 ((du7 g a).labels.map bp7) else bp9 := by unfold fnF; rw [c0, c1, c2, c3, c5, c6, c7, c8, ha0]; simp
  rw [e0];refine ye3 func62 ntmps62 fun _ _ _=>?_
  repeat' (first | refine yz ?_ | refine yi (enc a) hx0 ?_ | refine yp b102 h1 ?_ | exact zD)
 | false =>
 have c8' : (nm.toList == (⟨#[108, 97, 98, 101, 108, 115]⟩ : ByteArray).toList) = false := c8;rw [hl, ec7 g nm a r c0 c1 c2 c3 c5 c6 c7 c8 c4, ← hl];refine ye3 func62 ntmps62 fun _ _ _=>?_
 repeat' (first | refine yz ?_ | refine yi (enc a) hx0 ?_ | refine yp b103 hpt ?_ | exact zD)
theorem ec9 : giv bp9 = bp9 := by
 unfold giv;rw [show Val.okV bp9 = true by decide +kernel];rfl
set_option maxHeartbeats 16000000 in
theorem ed1 (g : Gr) (env : List Bd) (hg : du4 g) (henv : env.length ≤ 2000000) (e : Ex) : okE g env e → Ev E 35 [dc3 g, dg0 e, .sl (env.map dc4)] (.d (enc (evF g env e))) := by
 refine dg9 (P := fun e => okE g env e → Ev E 35 [dc3 g, dg0 e, .sl (env.map dc4)] (.d (enc (evF g env e)))) (fun op v nm ds ks ih hok => ?_) e;simp only [okE] at hok;obtain ⟨hs, hmax, htx, hks⟩ := hok;have hlen : (df8 (.mk op v nm ds ks)).length = ks.length := dg5 _;have hkg : ∀ (i : Nat) (x : Ex), ks[i]? = some x → (df8 (.mk op v nm ds ks))[(i : Int).toNat]? = some (dg0 x) := fun i x h => dg3 (e := .mk op v nm ds ks) (by rw [fh0]; exact h)
 have hle : (env.map dc4).length = env.length := by simp
 have hLl : (evL g env ks).length = ks.length := dz8 g env ks;have hLo := dz9 g env ks;rw [show evF g env (.mk op v nm ds ks) = giv (apF g env op v nm (evL g env ks)) by simp only [evF]];refine ye3 func35 ntmps35 fun _ _ _=>?_
 repeat' (first | refine yz ?_ | refine yx ?_ | (refine yy ?_ ?_ <;> intro _) | exact zD | exact zL)
 refine ac7 (α := Fin (ks.length + 1)) (fun p => ⟨[(7, bi6 3 (bo1 (evL g env (ks.take p.val)))), (2, .d (.sl (env.map dc4))), (3, .ptr 0 0), (4, .ptr 1 0), (6, .ptr 2 0), (8, .d (.int p.val))], [.var 40 (.w (.d (dc3 g))), .var 27 (.w (.d (dg0 (.mk op v nm ds ks)))), du1] ++ ay5 24 5 (bo1 (evL g env (ks.take p.val)))⟩) (fun p => ks.length - p.val) ⟨0, by omega⟩ (zle 3) ?_;rintro ⟨i, hi⟩;dsimp only;rcases fg7 i ks.length with hlt | hge
 ·have g1 : decide ((i : Int) < ((df8 (.mk op v nm ds ks)).length : Int)) = true := by rw [hlen]; simpa using hlt
  have hx0 := fg5 hlt;generalize ks[i] = x at hx0;have hx := hkg i x hx0;have hcx := ih x (fg9 hx0) (ea1 hks x (fg9 hx0));have hta := ea3 (g := g) (env := env) hx0;have hll : (bo1 (evL g env (ks.take i))).length ≤ i := by rw [bo7, dz8]; simp; omega
  match ho' : bo1 (evL g env (ks.take i)), hll with
  | [], hll =>
   dsimp only [bi6, ay5, List.append, HAppend.hAppend, Append.append]
   repeat' (first | refine yq 5 [10] ?_ | refine yf 5 0 10 ?_ | refine yw ?_ | refine yf 5 11 1 ?_ | refine rgN ?_ | refine yv ?_ | refine yz ?_ | refine yi (dg0 x) hx ?_ | refine yp b35 hcx ?_ | refine rgS (id := 5) (i := 10) rfl rfl rfl rfl (⟨by simp, du2 _, by first | (show (0 + 1) * 64 ≤ 140737488355328; omega) | (show ((b :: q).length + 1) * 64 ≤ 140737488355328; omega), by first | (show 0 + 1 ≤ 9223372036854775807; omega) | (show (b :: q).length + 1 ≤ 9223372036854775807; omega)⟩) (by repeat (first | exact trivial | refine ⟨⟨rfl, rfl⟩, ?_⟩ | refine ⟨trivial, ?_⟩)) ?_ | refine yx ?_ | (refine yy ?_ ?_ <;> intro _) | exact zD | exact zL)
   refine ac1 ?_;refine ⟨⟨i + 1, by omega⟩, by dsimp only; omega, ?_⟩;dsimp only;rw [hta, ho'];exact (bj8 [0, 1, 2, 3])
  | b :: q, hll =>
   dsimp only [bi6, ay5, List.append, HAppend.hAppend, Append.append]
   repeat' (first | refine yq 5 [10] ?_ | refine yf 5 0 10 ?_ | refine yw ?_ | refine yf 5 11 1 ?_ | refine rgN ?_ | refine yv ?_ | refine yz ?_ | refine yi (dg0 x) hx ?_ | refine yp b35 hcx ?_ | refine rgS (id := 5) (i := 10) rfl rfl rfl rfl (⟨by simp, du2 _, by first | (show (0 + 1) * 64 ≤ 140737488355328; omega) | (show ((b :: q).length + 1) * 64 ≤ 140737488355328; omega), by first | (show 0 + 1 ≤ 9223372036854775807; omega) | (show (b :: q).length + 1 ≤ 9223372036854775807; omega)⟩) (by repeat (first | exact trivial | refine ⟨⟨rfl, rfl⟩, ?_⟩ | refine ⟨trivial, ?_⟩)) ?_ | refine yx ?_ | (refine yy ?_ ?_ <;> intro _) | exact zD | exact zL)
   refine ac1 ?_;refine ⟨⟨i + 1, by omega⟩, by dsimp only; omega, ?_⟩;dsimp only;rw [hta, ho'];exact (bj8 [0, 1, 2, 4])
 ·have g1 : decide ((i : Int) < ((df8 (.mk op v nm ds ks)).length : Int)) = false := by rw [hlen]; simp; omega
  rw [fk9 hge];have hfn := fun (h : op = 23) => ea2 (g := g) (env := env) (nm := nm) (hs.2.2.2 h) hmax (htx h)
  clear htx ih hks hkg;generalize evL g env ks = l at *;refine bi9 rfl rfl (by repeat (first | exact trivial | refine ⟨rfl, ?_⟩)) (by repeat (first | exact trivial | refine ⟨rfl, ?_⟩)) ?_;rw [← hLl] at hs hmax;obtain ⟨⟨o1, o2⟩, hu, hb, -⟩ := hs
  have hun : l.length = 1 → ∃ a, l = [a] := fun h => by
   match l, h with
   | [a], _ => exact ⟨a, rfl⟩
  have hbi : l.length = 2 → ∃ a b, l = [a, b] := fun h => by
   match l, h with
   | [a, b], _ => exact ⟨a, b, rfl⟩
  have hgv := ea4 (apF g env op v nm l);have hop : op = 1 ∨ op = 2 ∨ op = 3 ∨ op = 4 ∨ op = 5 ∨ op = 6 ∨ op = 7 ∨ op = 8 ∨ op = 9 ∨ op = 10 ∨ op = 11 ∨ op = 12 ∨ op = 13 ∨ op = 14 ∨ op = 15 ∨ op = 16 ∨ op = 17 ∨ op = 18 ∨ op = 19 ∨ op = 20 ∨ op = 21 ∨ op = 22 ∨ op = 23 ∨ op = 24 := by omega
  rcases hop with rfl | rfl | rfl | rfl | rfl | rfl | rfl | rfl | rfl | rfl | rfl | rfl | rfl | rfl | rfl | rfl | rfl | rfl | rfl | rfl | rfl | rfl | rfl | rfl
  ·skip
   rw [show apF g env 1 v nm l = v from rfl] at hgv ⊢
   repeat' (first | refine yz ?_ | refine yp b60 hgv ?_ | refine yx ?_ | (refine yy ?_ ?_ <;> intro _) | exact zD | exact zL)
  ·skip
   rw [show apF g env 2 v nm l = du5 env nm from rfl] at hgv ⊢;unfold du5 at hgv ⊢
   repeat' (first | refine yz ?_ | refine yx ?_ | (refine yy ?_ ?_ <;> intro _) | exact zD | exact zL)
   refine ac7 (α := SFd env fun b => b.name.toList == nm.toList) (fun p => ⟨[(2, .d (.sl (env.map dc4))), (4, .ptr 1 0), (6, .ptr 2 0), (9, .d (.int p.i))], [.var 40 (.w (.d (dc3 g))), .var 27 (.w (.d (dg0 (.mk 2 v nm ds ks)))), du1]⟩) (fun p => env.length - p.i) ⟨0, by omega, rfl⟩ (zle 3) ?_;rintro ⟨i, hi, ok⟩;dsimp only;rcases fg7 i env.length with hlt | hge
   ·have g2 : decide ((i : Int) < ((env.map dc4).length : Int)) = true := by rw [hle]; simpa using hlt
    have hx0 := fg5 hlt;generalize env[i] = x at hx0;have hx := dc5 (f := dc4) hx0;rw [dc8 hx0] at ok;rw [ok] at hgv ⊢
    cases hc : x.name.toList == nm.toList with
    | true =>
     rw [hc] at hgv
     repeat' (first | refine yz ?_ | refine yi (dc4 x) hx ?_ | refine yp b60 hgv ?_ | refine yx ?_ | (refine yy ?_ ?_ <;> intro _) | exact zD | exact zL)
    | false =>
     repeat' (first | refine yz ?_ | refine yi (dc4 x) hx ?_ | refine yx ?_ | (refine yy ?_ ?_ <;> intro _) | exact zD | exact zL)
     refine ac1 ?_;exact ⟨⟨i + 1, by omega, by rw [ok, hc]; rfl⟩, by dsimp only; omega, (zle 3)⟩
   ·have g2 : decide ((i : Int) < ((env.map dc4).length : Int)) = false := by rw [hle]; simp; omega
    rw [fh6 hge] at ok;rw [ok];show go _ _ _ (an6 _ _ (.d (enc (giv bp9))));rw [ec9]
    repeat' (first | refine yz ?_ | refine yp b34 cb1 ?_ | refine yx ?_ | (refine yy ?_ ?_ <;> intro _) | exact zD | exact zL)
  ·skip
   obtain ⟨a, rfl⟩ := hun (hu (by omega));have hx0 : (bo1 [a])[(0 : Int).toNat]? = some (enc a) := rfl;have h1 := eb1 g env 3 v nm ds ks a (by omega)
   repeat' (first | refine yq 23 [7] ?_ | refine yf 23 0 7 ?_ | refine yw ?_ | refine rgN ?_ | refine yv ?_ | refine yz ?_ | refine yi (enc a) hx0 ?_ | refine yp b63 h1 ?_ | refine yp b60 hgv ?_ | refine yx ?_ | (refine yy ?_ ?_ <;> intro _) | exact zD | exact zL)
  ·skip
   obtain ⟨a, rfl⟩ := hun (hu (by omega));have hx0 : (bo1 [a])[(0 : Int).toNat]? = some (enc a) := rfl;have h1 := eb1 g env 4 v nm ds ks a (by omega)
   repeat' (first | refine yq 23 [7] ?_ | refine yf 23 0 7 ?_ | refine yw ?_ | refine rgN ?_ | refine yv ?_ | refine yz ?_ | refine yi (enc a) hx0 ?_ | refine yp b63 h1 ?_ | refine yp b60 hgv ?_ | refine yx ?_ | (refine yy ?_ ?_ <;> intro _) | exact zD | exact zL)
  ·skip
   obtain ⟨a, rfl⟩ := hun (hu (by omega));have hx0 : (bo1 [a])[(0 : Int).toNat]? = some (enc a) := rfl;have h1 := eb1 g env 5 v nm ds ks a (by omega)
   repeat' (first | refine yq 23 [7] ?_ | refine yf 23 0 7 ?_ | refine yw ?_ | refine rgN ?_ | refine yv ?_ | refine yz ?_ | refine yi (enc a) hx0 ?_ | refine yp b63 h1 ?_ | refine yp b60 hgv ?_ | refine yx ?_ | (refine yy ?_ ?_ <;> intro _) | exact zD | exact zL)
  ·skip
   obtain ⟨a, rfl⟩ := hun (hu (by omega));have hx0 : (bo1 [a])[(0 : Int).toNat]? = some (enc a) := rfl;have h1 := eb1 g env 6 v nm ds ks a (by omega)
   repeat' (first | refine yq 23 [7] ?_ | refine yf 23 0 7 ?_ | refine yw ?_ | refine rgN ?_ | refine yv ?_ | refine yz ?_ | refine yi (enc a) hx0 ?_ | refine yp b63 h1 ?_ | refine yp b60 hgv ?_ | refine yx ?_ | (refine yy ?_ ?_ <;> intro _) | exact zD | exact zL)
  ·skip
   obtain ⟨a, b, rfl⟩ := hbi (hb (by omega));have hx0 : (bo1 [a, b])[(0 : Int).toNat]? = some (enc a) := rfl;have hx1 : (bo1 [a, b])[(1 : Int).toNat]? = some (enc b) := rfl;have h1 := eb6 g env 7 v nm a b (by omega) (hLo a (by simp)) (hLo b (by simp))
   repeat' (first | refine yq 24 [10] ?_ | refine yf 24 0 10 ?_ | refine yw ?_ | refine rgN ?_ | refine yv ?_ | refine yz ?_ | refine yi (enc a) hx0 ?_ | refine yi (enc b) hx1 ?_ | refine yp b64 h1 ?_ | refine yp b60 hgv ?_ | refine yx ?_ | (refine yy ?_ ?_ <;> intro _) | exact zD | exact zL)
  ·skip
   obtain ⟨a, b, rfl⟩ := hbi (hb (by omega));have hx0 : (bo1 [a, b])[(0 : Int).toNat]? = some (enc a) := rfl;have hx1 : (bo1 [a, b])[(1 : Int).toNat]? = some (enc b) := rfl;have h1 := eb6 g env 8 v nm a b (by omega) (hLo a (by simp)) (hLo b (by simp))
   repeat' (first | refine yq 24 [10] ?_ | refine yf 24 0 10 ?_ | refine yw ?_ | refine rgN ?_ | refine yv ?_ | refine yz ?_ | refine yi (enc a) hx0 ?_ | refine yi (enc b) hx1 ?_ | refine yp b64 h1 ?_ | refine yp b60 hgv ?_ | refine yx ?_ | (refine yy ?_ ?_ <;> intro _) | exact zD | exact zL)
  ·skip
   obtain ⟨a, b, rfl⟩ := hbi (hb (by omega));have hx0 : (bo1 [a, b])[(0 : Int).toNat]? = some (enc a) := rfl;have hx1 : (bo1 [a, b])[(1 : Int).toNat]? = some (enc b) := rfl;have h1 := eb6 g env 9 v nm a b (by omega) (hLo a (by simp)) (hLo b (by simp))
   repeat' (first | refine yq 24 [10] ?_ | refine yf 24 0 10 ?_ | refine yw ?_ | refine rgN ?_ | refine yv ?_ | refine yz ?_ | refine yi (enc a) hx0 ?_ | refine yi (enc b) hx1 ?_ | refine yp b64 h1 ?_ | refine yp b60 hgv ?_ | refine yx ?_ | (refine yy ?_ ?_ <;> intro _) | exact zD | exact zL)
  ·skip
   obtain ⟨a, b, rfl⟩ := hbi (hb (by omega));have hx0 : (bo1 [a, b])[(0 : Int).toNat]? = some (enc a) := rfl;have hx1 : (bo1 [a, b])[(1 : Int).toNat]? = some (enc b) := rfl;have h1 := eb6 g env 10 v nm a b (by omega) (hLo a (by simp)) (hLo b (by simp))
   repeat' (first | refine yq 24 [10] ?_ | refine yf 24 0 10 ?_ | refine yw ?_ | refine rgN ?_ | refine yv ?_ | refine yz ?_ | refine yi (enc a) hx0 ?_ | refine yi (enc b) hx1 ?_ | refine yp b64 h1 ?_ | refine yp b60 hgv ?_ | refine yx ?_ | (refine yy ?_ ?_ <;> intro _) | exact zD | exact zL)
  ·skip
   obtain ⟨a, b, rfl⟩ := hbi (hb (by omega));have hx0 : (bo1 [a, b])[(0 : Int).toNat]? = some (enc a) := rfl;have hx1 : (bo1 [a, b])[(1 : Int).toNat]? = some (enc b) := rfl;have h1 := eb6 g env 11 v nm a b (by omega) (hLo a (by simp)) (hLo b (by simp))
   repeat' (first | refine yq 24 [10] ?_ | refine yf 24 0 10 ?_ | refine yw ?_ | refine rgN ?_ | refine yv ?_ | refine yz ?_ | refine yi (enc a) hx0 ?_ | refine yi (enc b) hx1 ?_ | refine yp b64 h1 ?_ | refine yp b60 hgv ?_ | refine yx ?_ | (refine yy ?_ ?_ <;> intro _) | exact zD | exact zL)
  ·skip
   obtain ⟨a, b, rfl⟩ := hbi (hb (by omega));have hx0 : (bo1 [a, b])[(0 : Int).toNat]? = some (enc a) := rfl;have hx1 : (bo1 [a, b])[(1 : Int).toNat]? = some (enc b) := rfl;have h1 := eb6 g env 12 v nm a b (by omega) (hLo a (by simp)) (hLo b (by simp))
   repeat' (first | refine yq 24 [10] ?_ | refine yf 24 0 10 ?_ | refine yw ?_ | refine rgN ?_ | refine yv ?_ | refine yz ?_ | refine yi (enc a) hx0 ?_ | refine yi (enc b) hx1 ?_ | refine yp b64 h1 ?_ | refine yp b60 hgv ?_ | refine yx ?_ | (refine yy ?_ ?_ <;> intro _) | exact zD | exact zL)
  ·skip
   obtain ⟨a, b, rfl⟩ := hbi (hb (by omega));have hx0 : (bo1 [a, b])[(0 : Int).toNat]? = some (enc a) := rfl;have hx1 : (bo1 [a, b])[(1 : Int).toNat]? = some (enc b) := rfl;have h1 := eb6 g env 13 v nm a b (by omega) (hLo a (by simp)) (hLo b (by simp))
   repeat' (first | refine yq 24 [10] ?_ | refine yf 24 0 10 ?_ | refine yw ?_ | refine rgN ?_ | refine yv ?_ | refine yz ?_ | refine yi (enc a) hx0 ?_ | refine yi (enc b) hx1 ?_ | refine yp b64 h1 ?_ | refine yp b60 hgv ?_ | refine yx ?_ | (refine yy ?_ ?_ <;> intro _) | exact zD | exact zL)
  ·skip
   obtain ⟨a, b, rfl⟩ := hbi (hb (by omega));have hx0 : (bo1 [a, b])[(0 : Int).toNat]? = some (enc a) := rfl;have hx1 : (bo1 [a, b])[(1 : Int).toNat]? = some (enc b) := rfl;have h1 := eb6 g env 14 v nm a b (by omega) (hLo a (by simp)) (hLo b (by simp))
   repeat' (first | refine yq 24 [10] ?_ | refine yf 24 0 10 ?_ | refine yw ?_ | refine rgN ?_ | refine yv ?_ | refine yz ?_ | refine yi (enc a) hx0 ?_ | refine yi (enc b) hx1 ?_ | refine yp b64 h1 ?_ | refine yp b60 hgv ?_ | refine yx ?_ | (refine yy ?_ ?_ <;> intro _) | exact zD | exact zL)
  ·skip
   obtain ⟨a, b, rfl⟩ := hbi (hb (by omega));have hx0 : (bo1 [a, b])[(0 : Int).toNat]? = some (enc a) := rfl;have hx1 : (bo1 [a, b])[(1 : Int).toNat]? = some (enc b) := rfl;have h1 := eb6 g env 15 v nm a b (by omega) (hLo a (by simp)) (hLo b (by simp))
   repeat' (first | refine yq 24 [10] ?_ | refine yf 24 0 10 ?_ | refine yw ?_ | refine rgN ?_ | refine yv ?_ | refine yz ?_ | refine yi (enc a) hx0 ?_ | refine yi (enc b) hx1 ?_ | refine yp b64 h1 ?_ | refine yp b60 hgv ?_ | refine yx ?_ | (refine yy ?_ ?_ <;> intro _) | exact zD | exact zL)
  ·skip
   obtain ⟨a, b, rfl⟩ := hbi (hb (by omega));have hx0 : (bo1 [a, b])[(0 : Int).toNat]? = some (enc a) := rfl;have hx1 : (bo1 [a, b])[(1 : Int).toNat]? = some (enc b) := rfl;have h1 := eb6 g env 16 v nm a b (by omega) (hLo a (by simp)) (hLo b (by simp))
   repeat' (first | refine yq 24 [10] ?_ | refine yf 24 0 10 ?_ | refine yw ?_ | refine rgN ?_ | refine yv ?_ | refine yz ?_ | refine yi (enc a) hx0 ?_ | refine yi (enc b) hx1 ?_ | refine yp b64 h1 ?_ | refine yp b60 hgv ?_ | refine yx ?_ | (refine yy ?_ ?_ <;> intro _) | exact zD | exact zL)
  ·skip
   obtain ⟨a, b, rfl⟩ := hbi (hb (by omega));have hx0 : (bo1 [a, b])[(0 : Int).toNat]? = some (enc a) := rfl;have hx1 : (bo1 [a, b])[(1 : Int).toNat]? = some (enc b) := rfl;have h1 := eb6 g env 17 v nm a b (by omega) (hLo a (by simp)) (hLo b (by simp))
   repeat' (first | refine yq 24 [10] ?_ | refine yf 24 0 10 ?_ | refine yw ?_ | refine rgN ?_ | refine yv ?_ | refine yz ?_ | refine yi (enc a) hx0 ?_ | refine yi (enc b) hx1 ?_ | refine yp b64 h1 ?_ | refine yp b60 hgv ?_ | refine yx ?_ | (refine yy ?_ ?_ <;> intro _) | exact zD | exact zL)
  ·skip
   obtain ⟨a, b, rfl⟩ := hbi (hb (by omega));have hx0 : (bo1 [a, b])[(0 : Int).toNat]? = some (enc a) := rfl;have hx1 : (bo1 [a, b])[(1 : Int).toNat]? = some (enc b) := rfl;have h1 := eb6 g env 18 v nm a b (by omega) (hLo a (by simp)) (hLo b (by simp))
   repeat' (first | refine yq 24 [10] ?_ | refine yf 24 0 10 ?_ | refine yw ?_ | refine rgN ?_ | refine yv ?_ | refine yz ?_ | refine yi (enc a) hx0 ?_ | refine yi (enc b) hx1 ?_ | refine yp b64 h1 ?_ | refine yp b60 hgv ?_ | refine yx ?_ | (refine yy ?_ ?_ <;> intro _) | exact zD | exact zL)
  ·skip
   obtain ⟨a, b, rfl⟩ := hbi (hb (by omega));have hx0 : (bo1 [a, b])[(0 : Int).toNat]? = some (enc a) := rfl;have hx1 : (bo1 [a, b])[(1 : Int).toNat]? = some (enc b) := rfl;have h1 := eb6 g env 19 v nm a b (by omega) (hLo a (by simp)) (hLo b (by simp))
   repeat' (first | refine yq 24 [10] ?_ | refine yf 24 0 10 ?_ | refine yw ?_ | refine rgN ?_ | refine yv ?_ | refine yz ?_ | refine yi (enc a) hx0 ?_ | refine yi (enc b) hx1 ?_ | refine yp b64 h1 ?_ | refine yp b60 hgv ?_ | refine yx ?_ | (refine yy ?_ ?_ <;> intro _) | exact zD | exact zL)
  ·skip
   obtain ⟨a, b, rfl⟩ := hbi (hb (by omega));have hx0 : (bo1 [a, b])[(0 : Int).toNat]? = some (enc a) := rfl;have hx1 : (bo1 [a, b])[(1 : Int).toNat]? = some (enc b) := rfl;have h1 := eb6 g env 20 v nm a b (by omega) (hLo a (by simp)) (hLo b (by simp))
   repeat' (first | refine yq 24 [10] ?_ | refine yf 24 0 10 ?_ | refine yw ?_ | refine rgN ?_ | refine yv ?_ | refine yz ?_ | refine yi (enc a) hx0 ?_ | refine yi (enc b) hx1 ?_ | refine yp b64 h1 ?_ | refine yp b60 hgv ?_ | refine yx ?_ | (refine yy ?_ ?_ <;> intro _) | exact zD | exact zL)
  ·skip
   obtain ⟨a, rfl⟩ := hun (hu (by omega));have hx0 : (bo1 [a])[(0 : Int).toNat]? = some (enc a) := rfl;have h1 := eb1 g env 21 v nm ds ks a (by omega)
   repeat' (first | refine yq 23 [7] ?_ | refine yf 23 0 7 ?_ | refine yw ?_ | refine rgN ?_ | refine yv ?_ | refine yz ?_ | refine yi (enc a) hx0 ?_ | refine yp b63 h1 ?_ | refine yp b60 hgv ?_ | refine yx ?_ | (refine yy ?_ ?_ <;> intro _) | exact zD | exact zL)
  ·skip
   have h1 := cu5 l (dt9 hmax fun x hx => dx1 (hLo x hx));rw [show apF g env 22 v nm l = cu3 l from rfl] at hgv ⊢
   repeat' (first | refine yz ?_ | refine yp b61 h1 ?_ | refine yp b60 hgv ?_ | refine yx ?_ | (refine yy ?_ ?_ <;> intro _) | exact zD | exact zL)
  ·skip
   have h1 := ec8 g nm l hg (hfn rfl);rw [show apF g env 23 v nm l = fnF g nm l from rfl] at hgv ⊢
   repeat' (first | refine yz ?_ | refine yp b62 h1 ?_ | refine yp b60 hgv ?_ | refine yx ?_ | (refine yy ?_ ?_ <;> intro _) | exact zD | exact zL)
  ·skip
   rw [show apF g env 24 v nm l = bp9 from rfl] at hgv ⊢;rw [ec9]
   repeat' (first | refine yz ?_ | refine yp b34 cb1 ?_ | refine yx ?_ | (refine yy ?_ ?_ <;> intro _) | exact zD | exact zL)
theorem ed2 (v : V) : nar v = true → Ev E 88 [enc v] (.d (enc v)) := by
 refine cg5 (P := fun v => nar v = true → Ev E 88 [enc v] (.d (enc v))) (fun k n d s l ih hn => ?_) v;obtain ⟨hl, hm⟩ := cp8 hn;simp only [V.l] at hl hm;show Ev E 88 [.agg [.int k, .int n, .int d, .str s, .sl (bo1 l)]] (.d (.agg [.int k, .int n, .int d, .str s, .sl (bo1 l)]));have hle : (bo1 l).length = l.length := bo7 _;refine ye1 func88 ntmps88 fun _ _ _=>?_
 repeat' (first | refine yz ?_ | refine yx ?_ | (refine yy ?_ ?_ <;> intro _) | exact zD | exact zL)
 refine ac7 (α := Fin (l.length + 1)) (fun p => ⟨[(3, bi6 2 (bo1 (l.take p.val))), (1, .ptr 0 0), (2, .ptr 1 0), (7, .d (.sl (bo1 l))), (8, .d (.int (bo1 l).length)), (9, .d (.int p.val))], [.var 24 (.w (.d (.agg [.int k, .int n, .int d, .str s, .sl (bo1 l)]))), du1] ++ ay5 24 5 (bo1 (l.take p.val))⟩) (fun p => l.length - p.val) ⟨0, by omega⟩ (zle 2) ?_;rintro ⟨i, hi⟩;dsimp only;rcases fg7 i l.length with hlt | hge
 ·have g1 : decide ((i : Int) < ((bo1 l).length : Int)) = true := by rw [hle]; simpa using hlt
  have hx0 := fg5 hlt;generalize l[i] = x at hx0;have hx : (bo1 l)[(i : Int).toNat]? = some (enc x) := bo5 (by rw [fh0]; exact hx0);have hmem := fg9 hx0;have hcx := ih x hmem (cp7 hm x hmem);have hta := cq3 hx0;have hll : (bo1 (l.take i)).length ≤ i := by rw [bo7]; simp; omega
  match ho' : bo1 (l.take i), hll with
  | [], hll =>
   dsimp only [bi6, ay5, List.append, HAppend.hAppend, Append.append]
   repeat' (first | refine yz ?_ | refine yi (enc x) hx ?_ | refine yp b88 hcx ?_ | (refine qS rfl ⟨by simp, du2 _, by first | (show (0 + 1) * 64 ≤ 140737488355328; omega) | (show ((b :: q).length + 1) * 64 ≤ 140737488355328; omega), by first | (show 0 + 1 ≤ 9223372036854775807; omega) | (show (b :: q).length + 1 ≤ 9223372036854775807; omega)⟩ ?_) | refine yx ?_ | (refine yy ?_ ?_ <;> intro _) | exact zD | exact zL)
   refine ac1 ?_;refine ⟨⟨i + 1, by omega⟩, by dsimp only; omega, ?_⟩;dsimp only;rw [hta, ho'];exact (bj8 [0, 1, 3])
  | b :: q, hll =>
   dsimp only [bi6, ay5, List.append, HAppend.hAppend, Append.append]
   repeat' (first | refine yz ?_ | refine yi (enc x) hx ?_ | refine yp b88 hcx ?_ | (refine qS rfl ⟨by simp, du2 _, by first | (show (0 + 1) * 64 ≤ 140737488355328; omega) | (show ((b :: q).length + 1) * 64 ≤ 140737488355328; omega), by first | (show 0 + 1 ≤ 9223372036854775807; omega) | (show (b :: q).length + 1 ≤ 9223372036854775807; omega)⟩ ?_) | refine yx ?_ | (refine yy ?_ ?_ <;> intro _) | exact zD | exact zL)
   refine ac1 ?_;refine ⟨⟨i + 1, by omega⟩, by dsimp only; omega, ?_⟩;dsimp only;rw [hta, ho'];exact (bj8 [0, 1, 4])
 ·have g1 : decide ((i : Int) < ((bo1 l).length : Int)) = false := by rw [hle]; simp; omega
  rw [fk9 hge];refine bi9 rfl rfl (by repeat (first | exact trivial | refine ⟨rfl, ?_⟩)) (by repeat (first | exact trivial | refine ⟨rfl, ?_⟩)) ?_
  repeat' (first | refine yz ?_ | refine yx ?_ | (refine yy ?_ ?_ <;> intro _) | exact zD | exact zL)
def ed3 (g : Gr) (env : List Bd) (e : Ex) : V := bif dq0 e != 0 then bp9 else evF g env e
theorem ed4 (g : Gr) (env : List Bd) (e : Ex) : Val.okV (evF g env e) = true := by
 cases e
 simp only [evF];exact dw9 _
theorem ed5 (g : Gr) (env : List Bd) (e : Ex) : Val.okV (ed3 g env e) = true := by
 unfold ed3
 cases dq0 e != 0 with
 | true => show Val.okV bp9 = true; decide +kernel
 | false => exact ed4 g env e
structure ed6 (g : Gr) (env : List Bd) (e : Ex) : Prop where
 hg : du4 g
 henv : env.length ≤ 2000000
 hd : dp e ≤ 1000000
 hn : nd e ≤ 1000000
 hok : dq0 e = 0 → okE g env e
theorem ed7 (g : Gr) (env : List Bd) (e : Ex) (h : ed6 g env e) : Ev E 51 [dc3 g, dg0 e, .sl (env.map dc4)] (.d (enc (ed3 g env e))) := by
 obtain ⟨hg, henv, hd, hn, hok⟩ := h;have hc := dq1 e hd hn;unfold ed3
 cases hz : dq0 e != 0 with
 | true =>
  refine ye3 func51 ntmps51 fun _ _ _=>?_
  repeat' (first | refine yz ?_ | refine yp b25 hc ?_ | refine yp b86 cb0 ?_ | refine yx ?_ | (refine yy ?_ ?_ <;> intro _) | exact zD | exact zL)
 | false =>
  have hv := value_evS g env hg henv e (hok (by simpa using hz));have hcl := ed2 (evF g env e) (dx1 (ed4 g env e));refine ye3 func51 ntmps51 fun _ _ _=>?_
  repeat' (first | refine yz ?_ | refine yp b25 hc ?_ | refine bc8 rfl rfl rfl rfl rfl ?_ | refine yc [3] b89 (hv) ?_ | refine yp b88 hcl ?_ | refine yx ?_ | (refine yy ?_ ?_ <;> intro _) | exact zD | exact zL)
theorem ed8 (g : Gr) (env : List Bd) (e : Ex) (h : ed6 g env e) : Ev E 18 [dc3 g, dg0 e, .sl (env.map dc4)] (.d (enc (ed3 g env e))) := by
 obtain ⟨hg, henv, hd, hn, hok⟩ := h;have hc := dq2 e hd hn;unfold ed3
 cases hz : dq0 e != 0 with
 | true =>
  refine ye3 func18 ntmps18 fun _ _ _=>?_
  repeat' (first | refine yz ?_ | refine yp b16 hc ?_ | refine yp b34 cb1 ?_ | refine yx ?_ | (refine yy ?_ ?_ <;> intro _) | exact zD | exact zL)
 | false =>
  have hv := ed1 g env hg henv e (hok (by simpa using hz));refine ye3 func18 ntmps18 fun _ _ _=>?_
  repeat' (first | refine yz ?_ | refine yp b16 hc ?_ | refine yp b35 hv ?_ | refine yx ?_ | (refine yy ?_ ?_ <;> intro _) | exact zD | exact zL)
theorem ed9 (g : Gr) (env : List Bd) (e : Ex) (h : ed6 g env e) : Ev E 19 [dc3 g, dg0 e, .sl (env.map dc4)] (.d (.int (bq8 (ed3 g env e)))) := by
 have h1 := ed8 g env e h;have h2 := cf3 (ed3 g env e);refine ye3 func19 ntmps19 fun _ _ _=>?_
 repeat' (first | refine yz ?_ | refine yp b18 h1 ?_ | refine yp b36 h2 ?_ | refine yx ?_ | (refine yy ?_ ?_ <;> intro _) | exact zD | exact zL)
end Go.Proofs.YtibfalecohlngaaGreatDoor
