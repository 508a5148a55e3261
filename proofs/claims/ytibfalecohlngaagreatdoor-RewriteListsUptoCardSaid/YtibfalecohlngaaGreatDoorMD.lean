/- The reference's bounded integers; Products of fractions by the reference; Sums and differences of fractions by the program; quotients and differences by the reference; Graphs and bindings as data, and the reference's look-ups in them; Membership in lists of names, by the library; Copies of lists of names and of properties, by the library; Copies of values and of properties, and the look-up of nodes, edges and properties, by the program; Expressions as plain trees, how they are written as data, and the weighing of expressions by the law's own text; Names of the language: letters, names, by both. Conditions: each part's own, as it says. -/
import Derived.Test.YtibfalecohlngaaGreatDoorMC
import Derived.Test.YtibfalecohlngaaGreatDoorGC
import Derived.Test.YtibfalecohlngaaGreatDoorMA
import Derived.Test.YtibfalecohlngaaGreatDoorGB
import Derived.Test.YtibfalecohlngaaGreatDoorMB
import Derived.Lib.IndexMore
set_option linter.unusedVariables false
set_option linter.unusedSimpArgs false
namespace Go.Proofs.YtibfalecohlngaaGreatDoor
set_option maxRecDepth 4000
open Go Go.Abs Go.Val Go.RowKit Go.Proofs.Tryz
attribute [local irreducible] go SGo an2 Ev aw0 EvO EvS binOp
theorem db3 (a b : Int) : Ev E 173 [.int a, .int b] (.tup [.int (cz0 a b), .bool (cy9 a b)]) := by
 have h1 := bz3 a;have h2 := bz3 b;unfold cz0
 cases ha : inM a with
 | false =>
  rw [ha] at h1;rw [show cy9 a b = false by unfold cy9; rw [ha]; rfl];refine ye2 func173 ntmps173 fun _ _ _=>?_
  repeat' (first | refine yz ?_ | refine yp br5 h1 ?_ | refine yp br5 h2 ?_ | refine yx ?_ | (refine yy ?_ ?_ <;> intro _) | exact zD | exact zL)
 | true =>
  cases hb : inM b with
  | false =>
   rw [ha] at h1;rw [hb] at h2;rw [show cy9 a b = false by unfold cy9; rw [ha, hb]; rfl];refine ye2 func173 ntmps173 fun _ _ _=>?_
   repeat' (first | refine yz ?_ | refine yp br5 h1 ?_ | refine yp br5 h2 ?_ | refine yx ?_ | (refine yy ?_ ?_ <;> intro _) | exact zD | exact zL)
  | true =>
   rw [ha] at h1;rw [hb] at h2;have ha' := (bp0 a).1 ha;have hb' := (bp0 b).1 hb
   cases h0 : b == 0 with
   | true =>
    rw [show cy9 a b = false by unfold cy9; rw [ha, hb, h0]; rfl];refine ye2 func173 ntmps173 fun _ _ _=>?_
    repeat' (first | refine yz ?_ | refine yp br5 h1 ?_ | refine yp br5 h2 ?_ | refine yx ?_ | (refine yy ?_ ?_ <;> intro _) | exact zD | exact zL)
   | false =>
    have h0' : b ≠ 0 := by simpa using h0
    have hri : inR .i64 (a.tmod b) := by
     have e := Int.natAbs_tmod a b;have := Nat.mod_le a.natAbs b.natAbs;generalize a.tmod b = z at *;generalize a.natAbs % b.natAbs = y at *;simp only [inR]; omega
    rw [show cy9 a b = true by unfold cy9; rw [ha, hb, h0]; rfl];refine ye2 func173 ntmps173 fun _ _ _=>?_
    repeat' (first | refine yz ?_ | refine yp br5 h1 ?_ | refine yp br5 h2 ?_ | (refine qS rfl ⟨h0', hri⟩ ?_) | refine yx ?_ | (refine yy ?_ ?_ <;> intro _) | exact zD | exact zL)
attribute [local irreducible] RGo
theorem db4 (a : Int) (g : Nat) : sgn a * Int.tdiv (a.natAbs : Int) g = Int.tdiv a g := by
 rcases Int.lt_trichotomy a 0 with h | h | h
 ·rw [cj9 h, show (a.natAbs : Int) = -a by omega, Int.neg_tdiv]; omega
 ·subst h; simp [sgn]
 ·rw [cj8 h, show (a.natAbs : Int) = a by omega]; omega
set_option maxHeartbeats 4000000 in
theorem db5 (an ad bn bd : Int) : Ev E 171 [.agg [.int an, .int ad], .agg [.int bn, .int bd]] (.tup [.agg [.int (bif da6 an ad bn bd then muN an ad bn bd else 0), .int (bif da6 an ad bn bd then muD an ad bn bd else 0)], .bool (da6 an ad bn bd)]) := by
 have hva := ca1 an ad;have hvb := ca1 bn bd
 cases ha : bp2 an ad with
 | false =>
  rw [ha] at hva;rw [show da6 an ad bn bd = false by unfold da6; rw [ha]; rfl];refine ye2 func171 ntmps171 fun _ _ _=>?_
  repeat' (first | refine yz ?_ | refine yp b75 hva ?_ | refine yp b75 hvb ?_ | refine yx ?_ | (refine yy ?_ ?_ <;> intro _) | exact zD | exact zL)
 | true =>
  cases hb : bp2 bn bd with
  | false =>
   rw [ha] at hva;rw [hb] at hvb;rw [show da6 an ad bn bd = false by unfold da6; rw [ha, hb]; rfl];refine ye2 func171 ntmps171 fun _ _ _=>?_
   repeat' (first | refine yz ?_ | refine yp b75 hva ?_ | refine yp b75 hvb ?_ | refine yx ?_ | (refine yy ?_ ?_ <;> intro _) | exact zD | exact zL)
  | true =>
   obtain ⟨a1, a2, -⟩ := cz8 ha;obtain ⟨b1, b2, -⟩ := cz8 hb;rw [ha] at hva;rw [hb] at hvb;have hpw : pw 14 = 1000000000000000000000000000000000000000000 := by decide
   have hB : da6 an ad bn bd = (decide ((muN an ad bn bd).natAbs ≤ 1000000000000000) && decide (muD an ad bn bd ≤ 1000000000000000)) := by unfold da6; rw [ha, hb]; rfl
   have g1 := bz8 (an.natAbs : Int) bd (by omega) (by omega) (by omega) (by omega);have g2 := bz8 (bn.natAbs : Int) ad (by omega) (by omega) (by omega) (by omega);rw [show Int.gcd (an.natAbs : Int) bd = Int.gcd an bd by simp [Int.gcd]] at g1;rw [show Int.gcd (bn.natAbs : Int) ad = Int.gcd bn ad by simp [Int.gcd]] at g2;have hG0 : 0 < Int.gcd an bd := fr2 _ (by omega);have hH0 : 0 < Int.gcd bn ad := fr2 _ (by omega);have t1 := da7 (a := (an.natAbs : Int)) (g := Int.gcd an bd) (by omega);have t2 := da7 (a := (bn.natAbs : Int)) (g := Int.gcd bn ad) (by omega);have p1 : 0 ≤ Int.tdiv (an.natAbs : Int) (Int.gcd an bd : Nat) := Int.tdiv_nonneg (by omega) (by omega);have p2 : 0 ≤ Int.tdiv (bn.natAbs : Int) (Int.gcd bn ad : Nat) := Int.tdiv_nonneg (by omega) (by omega);have t3 := cz9 a1 (show ((Int.gcd bn ad : Nat) : Int) ∣ ad from Int.gcd_dvd_right ..) hH0;have t4 := cz9 b1 (show ((Int.gcd an bd : Nat) : Int) ∣ bd from Int.gcd_dvd_right ..) hG0
   have hmu : muN an ad bn bd = sgn an * sgn bn * (Int.tdiv (an.natAbs : Int) (Int.gcd an bd : Nat) * Int.tdiv (bn.natAbs : Int) (Int.gcd bn ad : Nat)) := by
    unfold muN;rw [← db4 an, ← db4 bn, fn6, fn6, Int.mul_left_comm (Int.tdiv _ _)]
   have hxn : Int.tdiv (an.natAbs : Int) (Int.gcd an bd : Nat) * Int.tdiv (bn.natAbs : Int) (Int.gcd bn ad : Nat) = ((muN an ad bn bd).natAbs : Int) := by
    unfold muN;rw [Int.natAbs_mul, Int.natCast_mul, (da7 (g := Int.gcd an bd) a2).1, (da7 (g := Int.gcd bn ad) b2).1, Int.natCast_ediv, Int.natCast_ediv, fm1 (by omega), fm1 (by omega)]
   have h1 := ci8 (Int.tdiv (an.natAbs : Int) (Int.gcd an bd : Nat)) (Int.tdiv (bn.natAbs : Int) (Int.gcd bn ad : Nat)) p1 (by omega) p2 (by omega);have h2 := ci8 (Int.tdiv ad (Int.gcd bn ad : Nat)) (Int.tdiv bd (Int.gcd an bd : Nat)) (by omega) (by omega) (by omega) (by omega);have hpd : 0 ≤ muD an ad bn bd := fo9 (by omega) (by omega);have hb1 : Int.tdiv (an.natAbs : Int) (Int.gcd an bd : Nat) * Int.tdiv (bn.natAbs : Int) (Int.gcd bn ad : Nat) ≤ 1000000000000000 * 1000000000000000 := Int.mul_le_mul (by omega) (by omega) p2 (by omega);have hb2 : muD an ad bn bd ≤ 1000000000000000 * 1000000000000000 := Int.mul_le_mul (by omega) (by omega) (by omega) (by omega);rw [hxn] at h1 hb1 hmu;change Ev E 78 _ (.d (.sl (cg6 (ch9 14 (muD an ad bn bd))))) at h2;have n1 := da3 (muN an ad bn bd).natAbs (by omega);have n2 := da3 (muD an ad bn bd).toNat (by omega);rw [show (((muD an ad bn bd).toNat : Nat) : Int) = muD an ad bn bd by omega, show decide ((muD an ad bn bd).toNat ≤ 1000000000000000) = decide (muD an ad bn bd ≤ 1000000000000000) by rw [decide_eq_decide]; omega] at n2;have s1 := ch5 an;have s2 := ch5 bn;have z1 := bz5 an (by omega);have z2 := bz5 bn (by omega);have ra := ck7 an;have rb := ck7 bn;rw [hB];clear hB ha hb hxn;generalize muN an ad bn bd = x at *;generalize muD an ad bn bd = y at *;generalize Int.gcd an bd = G at *;generalize Int.gcd bn ad = H at *;have w1 : inR .i64 (Int.tdiv (an.natAbs : Int) G) := by simp only [inR]; omega
   have w2 : inR .i64 (Int.tdiv (bn.natAbs : Int) H) := by simp only [inR]; omega
   have w3 : inR .i64 (Int.tdiv ad H) := by simp only [inR]; omega
   have w4 : inR .i64 (Int.tdiv bd G) := by simp only [inR]; omega
   have wG : (G : Int) ≠ 0 := by omega
   have wH : (H : Int) ≠ 0 := by omega
   have wx : decide (x.natAbs ≤ 1000000000000000) = true → inR .i64 (sgn an * sgn bn * (x.natAbs : Int)) := by intro h; rw [← hmu]; have := of_decide_eq_true h; simp only [inR]; omega
   have ws : inR .i64 (sgn an * sgn bn) := by
    rcases (show sgn an = -1 ∨ sgn an = 0 ∨ sgn an = 1 by omega) with h | h | h <;> rw [h] <;> simp only [inR] <;> omega
   have hmu' := hmu;generalize hk1 : decide (x.natAbs ≤ 1000000000000000) = k1 at *;generalize hk2 : decide (y ≤ 1000000000000000) = k2 at *
   cases k1 <;> cases k2
   all_goals
    refine ye2 func171 ntmps171 fun _ _ _=>?_
    repeat' (first | refine yq 9 [11] ?_ | refine yf 9 0 11 ?_ | refine yw ?_ | refine yf 9 12 1 ?_ | refine rgN ?_ | refine yv ?_ | refine yz ?_ | refine yp b75 hva ?_ | refine yp b75 hvb ?_ | refine qP (d := 23) rfl rfl rfl rfl rfl rfl b79 (z1) ?_ | refine qP (d := 26) rfl rfl rfl rfl rfl rfl br6 (g1) ?_ | refine qP (d := 29) rfl rfl rfl rfl rfl rfl b79 (z2) ?_ | refine qP (d := 32) rfl rfl rfl rfl rfl rfl br6 (g2) ?_ | refine qP (d := 36) rfl rfl rfl rfl rfl rfl b79 (z1) ?_ | refine qP (d := 41) rfl rfl rfl rfl rfl rfl b79 (z2) ?_ | refine qP (d := 44) rfl rfl rfl rfl rfl rfl b78 (h1) ?_ | refine qP (d := 45) rfl rfl rfl rfl rfl rfl b219 (n1) ?_ | refine qP (d := 57) rfl rfl rfl rfl rfl rfl b78 (h2) ?_ | refine qP (d := 58) rfl rfl rfl rfl rfl rfl b219 (n2) ?_ | refine qP (d := 70) rfl rfl rfl rfl rfl rfl b77 (s1) ?_ | refine qP (d := 73) rfl rfl rfl rfl rfl rfl b77 (s2) ?_ | (refine qS rfl ⟨wG, w1⟩ ?_) | (refine qS rfl ⟨wH, w2⟩ ?_) | (refine qS rfl ⟨wH, w3⟩ ?_) | (refine qS rfl ⟨wG, w4⟩ ?_) | (refine qS rfl ws ?_) | (refine qS rfl (wx rfl) ?_) | refine yx ?_ | (refine yy ?_ ?_ <;> intro _) | exact zD | exact zL)
    all_goals (show [D.agg [.int (sgn an * sgn bn * (x.natAbs : Int)), .int y], .bool true] = [D.agg [.int x, .int y], .bool true]; rw [← hmu'])
set_option maxHeartbeats 4000000 in
theorem db6 (an ad bn bd : Int) : Ev E 260 [.agg [.int an, .int ad], .agg [.int bn, .int bd]] (.tup [.agg [.int (cz6 an ad bn bd), .int (cz7 an ad bn bd)], .bool (cz5 an ad bn bd)]) := by
 have hva := ca0 an ad;have hvb := ca0 bn bd;unfold cz6 cz7
 cases ha : bp2 an ad with
 | false =>
  rw [ha] at hva;rw [show cz5 an ad bn bd = false by unfold cz5; rw [ha]; rfl];refine ye2 func260 ntmps260 fun _ _ _=>?_
  repeat' (first | refine yz ?_ | refine yp bt7 hva ?_ | exact zL)
 | true =>
  cases hb : bp2 bn bd with
  | false =>
   rw [ha] at hva;rw [hb] at hvb;rw [show cz5 an ad bn bd = false by unfold cz5; rw [ha, hb]; rfl];refine ye2 func260 ntmps260 fun _ _ _=>?_
   repeat' (first | refine yz ?_ | refine yp bt7 hva ?_ | refine yp bt7 hvb ?_ | exact zL)
  | true =>
   obtain ⟨G, H, T, p, q, r, m, m', eG, eH, eT, hG, hH, r1, r2, r3, hT, h1, h2, h3, h4, h5, h6, h7, h8, h9⟩ := da1 ha hb;obtain ⟨a1, a2, -⟩ := cz8 ha;obtain ⟨b1, b2, -⟩ := cz8 hb;rw [ha] at hva;rw [hb] at hvb
   have hB : cz5 an ad bn bd = (T == 0 || (ovB T.natAbs H && decide (Int.tdiv ad G * Int.tdiv bd H ≤ 1000000000000000))) := by
    unfold cz5 adK adD;rw [ha, hb, ← eG, ← eH, ← eT];rfl
   have hN : adN an ad bn bd = sgn T * ((T.natAbs / H : Nat) : Int) := by unfold adN; rw [← eH, ← eT]
   have hD : adD an ad bn bd = Int.tdiv ad G * Int.tdiv bd H := by unfold adD; rw [← eG, ← eH]
   rw [hN, hD, ← eT];have hn := cy8 (Int.tdiv ad G) (Int.tdiv bd H)
   have hmb : cy6 (Int.tdiv ad G) (Int.tdiv bd H) = decide (Int.tdiv ad G * Int.tdiv bd H ≤ 1000000000000000) := by
    unfold cy6;rw [(bp0 _).2 (by omega), (bp0 _).2 (by omega), fh3, fh3, ← Int.natAbs_mul];have : 0 ≤ Int.tdiv ad G * Int.tdiv bd H := fo9 (by omega) (by omega);rw [decide_eq_decide];omega
   unfold mulN at hn;rw [hmb] at hn;have w1 : inR .i64 (Int.tdiv bd G) := by simp only [inR]; omega
   have w2 : inR .i64 (Int.tdiv ad G) := by simp only [inR]; omega
   have w3 : inR .i64 (Int.tdiv bd H) := by simp only [inR]; omega
   have w4 : inR .u64 (G : Int) := by simp only [inR]; omega
   have w5 : inR .u64 (H : Int) := by simp only [inR]; omega
   have w6 : T.natAbs % G < G := fl2 _ (by omega);have w7 : inR .i64 ((T.natAbs % G : Nat) : Int) := by simp only [inR]; omega
   have wG : (G : Int) ≠ 0 := by omega
   have wH : (H : Int) ≠ 0 := by omega
   clear eG eH eT ha hb hN hD hmb;generalize T.natAbs % G = tm at *
   cases hT0 : T == 0 with
   | true =>
    have hs0 : sgn T = 0 := by rw [show T = 0 by simpa using hT0]; rfl
    rw [hs0] at h5;rw [hB, hT0];refine ye2 func260 ntmps260 fun _ _ _=>?_
    repeat' (first | refine yu 4 [15,16] [] ?_ | refine yk 4 0 15 ?_ | refine yw ?_ | refine rgN ?_ | refine yv ?_ | refine yz ?_ | refine yp bt7 hva ?_ | refine yp bt7 hvb ?_ | refine qP (d := 26) rfl rfl rfl rfl rfl rfl bu2 (h1) ?_ | refine qP (d := 33) rfl rfl rfl rfl rfl rfl bu3 (h2) ?_ | refine qP (d := 40) rfl rfl rfl rfl rfl rfl bu3 (h3) ?_ | refine yp b304 h4 ?_ | refine yp b305 h5 ?_ | exact zL)
   | false =>
    have hT0' : T ≠ 0 := by simpa using hT0
    have hs0 : (sgn T == 0) = false := by
     rw [beq_eq_false_iff_ne];rcases Int.lt_or_gt_of_ne hT0' with h | h
     ·rw [cj9 h]; decide
     ·rw [cj8 h]; decide
    rw [h8 hT0'] at h9;rw [hB, hT0];generalize sgn T * ((T.natAbs / H : Nat) : Int) = N at *;generalize hK : decide (Int.tdiv ad G * Int.tdiv bd H ≤ 1000000000000000) = K at *
    cases hO : ovB T.natAbs H <;> cases K <;> rw [hO] at h9
    all_goals
     refine ye2 func260 ntmps260 fun _ _ _=>?_
     repeat' (first | refine yu 4 [15,16] [] ?_ | refine yk 4 0 15 ?_ | refine yw ?_ | refine rgN ?_ | refine yv ?_ | refine yz ?_ | refine yp bt7 hva ?_ | refine yp bt7 hvb ?_ | refine qP (d := 26) rfl rfl rfl rfl rfl rfl bu2 (h1) ?_ | refine qP (d := 33) rfl rfl rfl rfl rfl rfl bu3 (h2) ?_ | refine qP (d := 40) rfl rfl rfl rfl rfl rfl bu3 (h3) ?_ | refine yp b304 h4 ?_ | refine yp b305 h5 ?_ | refine yp b306 h6 ?_ | refine qP (d := 52) rfl rfl rfl rfl rfl rfl bu2 (h7) ?_ | refine yp b307 h9 ?_ | refine yp b308 hn ?_ | exact zL)
theorem db7 (an ad bn bd : Int) (hb : bp2 bn bd = true) : Ev E 261 [.agg [.int an, .int ad], .agg [.int bn, .int bd]] (.tup [.agg [.int (cz6 an ad (0 - bn) bd), .int (cz7 an ad (0 - bn) bd)], .bool (cz5 an ad (0 - bn) bd)]) := by
 have h := db6 an ad (0 - bn) bd;obtain ⟨b1, b2, -⟩ := cz8 hb;refine ye2 func261 ntmps261 fun _ _ _=>?_
 repeat' (first | refine yz ?_ | refine yp b260 h ?_ | exact zL)
theorem db8 (an ad bn bd : Int) (hb : bp2 bn bd = true) : Ev E 110 [.agg [.int an, .int ad], .agg [.int bn, .int bd]] (.tup [.agg [.int (cz6 an ad (0 - bn) bd), .int (cz7 an ad (0 - bn) bd)], .bool (cz5 an ad (0 - bn) bd)]) := by
 have h := da5 an ad (0 - bn) bd;have hv := ca1 bn bd;obtain ⟨b1, b2, -⟩ := cz8 hb;rw [hb] at hv;refine ye2 func110 ntmps110 fun _ _ _=>?_
 repeat' (first | refine yz ?_ | refine yp b170 h ?_ | refine yp b75 hv ?_ | exact zL)
theorem db9 (an ad bn bd : Int) : Ev E 172 [.agg [.int an, .int ad], .agg [.int bn, .int bd]] (.tup [.agg [.int (db0 an ad bn bd), .int (db1 an ad bn bd)], .bool (da9 an ad bn bd)]) := by
 have hvb := ca1 bn bd;unfold db0 db1
 cases hb : bp2 bn bd with
 | false =>
  rw [hb] at hvb;rw [show da9 an ad bn bd = false by unfold da9; rw [hb]; rfl];refine ye2 func172 ntmps172 fun _ _ _=>?_
  repeat' (first | refine yz ?_ | refine yp b75 hvb ?_ | exact zL)
 | true =>
  obtain ⟨b1, b2, -⟩ := cz8 hb;rw [hb] at hvb
  cases h0 : bn == 0 with
  | true =>
   rw [show da9 an ad bn bd = false by unfold da9; rw [hb, h0]; rfl];refine ye2 func172 ntmps172 fun _ _ _=>?_
   repeat' (first | refine yz ?_ | refine yp b75 hvb ?_ | exact zL)
  | false =>
   have h0' : bn ≠ 0 := by simpa using h0
   rw [show da9 an ad bn bd = da6 an ad (sgn bn * bd) (bn.natAbs : Int) by unfold da9; rw [hb, h0]; rfl];have hm := db5 an ad (sgn bn * bd) (bn.natAbs : Int);have s1 := ch5 bn;have z1 := bz5 bn (by omega)
   have ws : inR .i64 (sgn bn * bd) := by
    rcases (show sgn bn = -1 ∨ sgn bn = 0 ∨ sgn bn = 1 by have := ck7 bn; omega) with h | h | h <;> rw [h] <;> simp only [inR] <;> omega
   refine ye2 func172 ntmps172 fun _ _ _=>?_
   repeat' (first | refine yq 3 [14] ?_ | refine yf 3 0 14 ?_ | refine yw ?_ | refine yf 3 15 1 ?_ | refine rgN ?_ | refine yz ?_ | refine yp b75 hvb ?_ | refine yp b77 s1 ?_ | refine yp b79 z1 ?_ | refine yp b171 hm ?_ | exact zL)
end Go.Proofs.YtibfalecohlngaaGreatDoor
namespace Go.Proofs.YtibfalecohlngaaGreatDoor
set_option maxRecDepth 4000
open Go Go.Abs Go.Val Go.Proofs.Tryz
attribute [local irreducible] go SGo an2 Ev aw0 EvO EvS
structure Pr where
 key : ByteArray
 v : V
structure Nd where
 id : Int
 labels : List ByteArray
 props : List Pr
structure Ed where
 id : Int
 src : Int
 dst : Int
 ty : ByteArray
 props : List Pr
structure Gr where
 nodes : List Nd
 edges : List Ed
 nn : Int
 ne : Int
structure Bd where
 name : ByteArray
 v : V
def dc0 (p : Pr) : D := .agg [.str p.key, .int p.v.k, .int p.v.n, .int p.v.d, .str p.v.s, .sl (kids p.v)]
def dc1 (n : Nd) : D := .agg [.int n.id, .sl (n.labels.map .str), .sl (n.props.map dc0)]
def dc2 (e : Ed) : D := .agg [.int e.id, .int e.src, .int e.dst, .str e.ty, .sl (e.props.map dc0)]
def dc3 (g : Gr) : D := .agg [.sl (g.nodes.map dc1), .sl (g.edges.map dc2), .int g.nn, .int g.ne]
def dc4 (b : Bd) : D := .agg [.str b.name, .int b.v.k, .int b.v.n, .int b.v.d, .str b.v.s, .sl (kids b.v)]
theorem dc5 {α β : Type} {l : List α} {f : α → β} {i : Nat} {x : α} (h : l[i]? = some x) : (l.map f)[(i : Int).toNat]? = some (f x) := by
 rw [fh0, fh1, h]; rfl
theorem dc6 {α : Type} {l : List α} {f : α → D} (h : Fit (.sl (l.map f))) : l.length ≤ 9223372036854775807 ∧ ∀ x ∈ l, Fit (f x) := by
 have h5 := h.sls;rw [fj8] at h5;exact ⟨h5.1, fun x hx => h5.2 _ (fn2 hx)⟩
theorem dc7 {g : Gr} (h : Fit (dc3 g)) : Fit (.sl (g.nodes.map dc1)) ∧ Fit (.sl (g.edges.map dc2)) :=
 ⟨h.aggs _ (by simp), h.aggs _ (by simp)⟩
structure SFd {α : Type} (l : List α) (f : α → Bool) where
 i : Nat
 hi : i ≤ l.length
 ok : l.find? f = (l.drop i).find? f
theorem dc8 {α : Type} {l : List α} {f : α → Bool} {i : Nat} {x : α} (h : l[i]? = some x) : (l.drop i).find? f = bif f x then some x else (l.drop (i + 1)).find? f := by
 rw [cd5 h, List.find?_cons]
 cases f x <;> rfl
def nd0 : Nd := ⟨0, [], []⟩
def ed0 : Ed := ⟨0, 0, 0, ⟨#[]⟩, []⟩
def dc9 (l : List Nd) (id : Int) : Option Nd := l.find? fun n => n.id == id
def dd0 (l : List Ed) (id : Int) : Option Ed := l.find? fun n => n.id == id
def dd1 (l : List Pr) (k : ByteArray) : V := match l.find? fun p => p.key.toList == k.toList with | some p => p.v | none => bp9
theorem dd2 (g : Gr) (id : Int) : Ev E 106 [dc3 g, .int id] (.tup [dc1 ((dc9 g.nodes id).getD nd0), .bool (dc9 g.nodes id).isSome]) := Ev.fit fun hfit => by
 obtain ⟨f1, -⟩ := dc7 (g := g) (hfit _ (by simp));obtain ⟨hmax, -⟩ := dc6 f1;have hle : (g.nodes.map dc1).length = g.nodes.length := by simp
 unfold dc9;refine ye2 func106 ntmps106 fun _ _ _=>?_
 repeat' (refine yz ?_)
 refine ac7 (α := SFd g.nodes fun n => n.id == id) (fun p => ⟨[(1, .d (.int id)), (2, .ptr 0 0), (4, .ptr 1 0), (6, .d (.int p.i))], [.var 40 (.w (.d (dc3 g))), .var 124 (.cs [.d (.int 0), .nilS, .nilS])]⟩) (fun p => g.nodes.length - p.i) ⟨0, by omega, rfl⟩ (zle 2) ?_;rintro ⟨i, hi, ok⟩;dsimp only;rcases fg7 i g.nodes.length with hlt | hge
 ·have g1 : decide ((i : Int) < ((g.nodes.map dc1).length : Int)) = true := by rw [hle]; simpa using hlt
  have hx0 := fg5 hlt;generalize g.nodes[i] = x at hx0;have hx := dc5 (f := dc1) hx0;rw [ok, dc8 hx0]
  cases hc : x.id == id with
  | true =>
   repeat' (first | refine yz ?_ | refine yi (dc1 x) hx ?_ | exact zL)
  | false =>
   repeat' (first | refine yz ?_ | refine yi (dc1 x) hx ?_)
   refine ac1 ?_;exact ⟨⟨i + 1, by omega, by rw [ok, dc8 hx0, hc]; rfl⟩, by dsimp only; omega, (zle 2)⟩
 ·have g1 : decide ((i : Int) < ((g.nodes.map dc1).length : Int)) = false := by rw [hle]; simp; omega
  rw [ok, fh6 hge]
  repeat' (first | refine yz ?_ | exact zL)
theorem dd3 (g : Gr) (id : Int) : Ev E 166 [dc3 g, .int id] (.tup [dc2 ((dd0 g.edges id).getD ed0), .bool (dd0 g.edges id).isSome]) := Ev.fit fun hfit => by
 obtain ⟨-, f1⟩ := dc7 (g := g) (hfit _ (by simp));obtain ⟨hmax, -⟩ := dc6 f1;have hle : (g.edges.map dc2).length = g.edges.length := by simp
 unfold dd0;refine ye2 func166 ntmps166 fun _ _ _=>?_
 repeat' (refine yz ?_)
 refine ac7 (α := SFd g.edges fun n => n.id == id) (fun p => ⟨[(1, .d (.int id)), (2, .ptr 0 0), (4, .ptr 1 0), (6, .d (.int p.i))], [.var 40 (.w (.d (dc3 g))), .var 156 (.cs [.d (.int 0), .d (.int 0), .d (.int 0), .d (.str ⟨#[]⟩), .nilS])]⟩) (fun p => g.edges.length - p.i) ⟨0, by omega, rfl⟩ (zle 2) ?_;rintro ⟨i, hi, ok⟩;dsimp only;rcases fg7 i g.edges.length with hlt | hge
 ·have g1 : decide ((i : Int) < ((g.edges.map dc2).length : Int)) = true := by rw [hle]; simpa using hlt
  have hx0 := fg5 hlt;generalize g.edges[i] = x at hx0;have hx := dc5 (f := dc2) hx0;rw [ok, dc8 hx0]
  cases hc : x.id == id with
  | true =>
   repeat' (first | refine yz ?_ | refine yi (dc2 x) hx ?_ | exact zL)
  | false =>
   repeat' (first | refine yz ?_ | refine yi (dc2 x) hx ?_)
   refine ac1 ?_;exact ⟨⟨i + 1, by omega, by rw [ok, dc8 hx0, hc]; rfl⟩, by dsimp only; omega, (zle 2)⟩
 ·have g1 : decide ((i : Int) < ((g.edges.map dc2).length : Int)) = false := by rw [hle]; simp; omega
  rw [ok, fh6 hge]
  repeat' (first | refine yz ?_ | exact zL)
def dd4 (l : List ByteArray) (s : ByteArray) : Bool := l.any fun x => x.toList == s.toList
structure SHs (l : List ByteArray) (s : ByteArray) where
 i : Nat
 hi : i ≤ l.length
 ok : dd4 l s = dd4 (l.drop i) s
theorem dd5 {l : List ByteArray} {s x : ByteArray} {i : Nat} (h : l[i]? = some x) : dd4 (l.drop i) s = (x.toList == s.toList || dd4 (l.drop (i + 1)) s) := by
 rw [cd5 h]; rfl
theorem dd6 (l : List ByteArray) (s : ByteArray) : Ev E 168 [.sl (l.map .str), .str s] (.d (.bool (dd4 l s))) := Ev.fit fun hfit => by
 obtain ⟨hmax, -⟩ := dc6 (l := l) (f := D.str) (hfit _ (by simp));have hle : (l.map D.str).length = l.length := by simp
 refine ye2 func168 ntmps168 fun _ _ _=>?_
 repeat' (refine yz ?_)
 refine ac7 (α := SHs l s) (fun p => ⟨[(0, .d (.sl (l.map .str))), (1, .d (.str s)), (5, .d (.int p.i))], []⟩) (fun p => l.length - p.i) ⟨0, by omega, rfl⟩ (zle 0) ?_;rintro ⟨i, hi, ok⟩;dsimp only;rcases fg7 i l.length with hlt | hge
 ·have g1 : decide ((i : Int) < ((l.map D.str).length : Int)) = true := by rw [hle]; simpa using hlt
  have hx0 := fg5 hlt;generalize l[i] = x at hx0;have hx := dc5 (f := D.str) hx0;rw [ok, dd5 hx0]
  cases hc : x.toList == s.toList with
  | true =>
   repeat' (first | refine yz ?_ | refine yi (.str x) hx ?_ | exact zD)
  | false =>
   repeat' (first | refine yz ?_ | refine yi (.str x) hx ?_)
   refine ac1 ?_;exact ⟨⟨i + 1, by omega, by rw [ok, dd5 hx0, hc]; rfl⟩, by dsimp only; omega, (zle 0)⟩
 ·have g1 : decide ((i : Int) < ((l.map D.str).length : Int)) = false := by rw [hle]; simp; omega
  rw [ok, fh6 hge]
  repeat' (first | refine yz ?_ | exact zD)
theorem dd7 (n : Nd) (s : ByteArray) : Ev E 107 [dc1 n, .str s] (.d (.bool (dd4 n.labels s))) := by
 have h := dd6 n.labels s;refine ye2 func107 ntmps107 fun _ _ _=>?_
 repeat' (first | refine yz ?_ | refine yp b168 h ?_ | exact zD)
theorem dd8 (l : List Pr) (k : ByteArray) : Ev E 104 [.sl (l.map dc0), .str k] (.d (enc (dd1 l k))) := Ev.fit fun hfit => by
 obtain ⟨hmax, -⟩ := dc6 (l := l) (f := dc0) (hfit _ (by simp));have hle : (l.map dc0).length = l.length := by simp
 unfold dd1;refine ye2 func104 ntmps104 fun _ _ _=>?_
 repeat' (refine yz ?_)
 refine ac7 (α := SFd l fun p => p.key.toList == k.toList) (fun p => ⟨[(0, .d (.sl (l.map dc0))), (1, .d (.str k)), (4, .ptr 0 0), (5, .d (.int p.i))], [.var 24 (.cs [.d (.int 0), .d (.int 0), .d (.int 0), .d (.str ⟨#[]⟩), .nilS])]⟩) (fun p => l.length - p.i) ⟨0, by omega, rfl⟩ (zle 1) ?_;rintro ⟨i, hi, ok⟩;dsimp only;rcases fg7 i l.length with hlt | hge
 ·have g1 : decide ((i : Int) < ((l.map dc0).length : Int)) = true := by rw [hle]; simpa using hlt
  have hx0 := fg5 hlt;generalize l[i] = x at hx0;have hx := dc5 (f := dc0) hx0;rw [ok, dc8 hx0]
  cases hc : x.key.toList == k.toList with
  | true =>
   repeat' (first | refine yz ?_ | refine yi (dc0 x) hx ?_ | exact zD)
  | false =>
   repeat' (first | refine yz ?_ | refine yi (dc0 x) hx ?_)
   refine ac1 ?_;exact ⟨⟨i + 1, by omega, by rw [ok, dc8 hx0, hc]; rfl⟩, by dsimp only; omega, (zle 1)⟩
 ·have g1 : decide ((i : Int) < ((l.map dc0).length : Int)) = false := by rw [hle]; simp; omega
  rw [ok, fh6 hge]
  repeat' (first | refine yz ?_ | exact zD)
def dd9 (s : ByteArray) : List ByteArray → Nat → Int
 | [], _ => -1
 | x :: r, i => bif s.toList == x.toList then (i : Int) else dd9 s r (i + 1)
theorem de0 (s : ByteArray) : ∀ (l : List ByteArray) (i : Nat), decide (dd9 s l i ≥ 0) = dd4 l s
 | [], i => rfl
 | x :: r, i => by
  rw [dd9, dd4, List.any_cons]
  have hc : (x.toList == s.toList) = (s.toList == x.toList) := by
   rw [fm3, beq_iff_eq, beq_iff_eq]; exact ⟨fun h => h.symm, fun h => h.symm⟩
  rw [hc]
  cases s.toList == x.toList with
  | true => simp
  | false => rw [cond_false, fj6]; exact de0 s r (i + 1)
theorem de1 {l : List ByteArray} {s x : ByteArray} {i : Nat} (h : l[i]? = some x) : dd9 s (l.drop i) i = bif s.toList == x.toList then (i : Int) else dd9 s (l.drop (i + 1)) (i + 1) := by
 rw [cd5 h]; rfl
structure SIx (l : List ByteArray) (s : ByteArray) where
 i : Nat
 hi : i ≤ l.length
 ok : dd9 s l 0 = dd9 s (l.drop i) i
theorem de2 (l : List ByteArray) (s : ByteArray) : Ev E 230 [.sl (l.map .str), .str s] (.d (.int (dd9 s l 0))) := Ev.fit fun hfit => by
 obtain ⟨hmax, -⟩ := dc6 (l := l) (f := D.str) (hfit _ (by simp));have hle : (l.map D.str).length = l.length := by simp
 refine ye2 func230 ntmps230 fun _ _ _=>?_
 repeat' (refine yz ?_)
 refine ac7 (α := SIx l s) (fun p => ⟨[(0, .d (.sl (l.map .str))), (1, .d (.str s)), (6, .d (.sl (l.map .str))), (7, .d (.int (l.map D.str).length)), (8, .d (.int p.i))], []⟩) (fun p => l.length - p.i) ⟨0, by omega, rfl⟩ (zle 0) ?_;rintro ⟨i, hi, ok⟩;dsimp only;rcases fg7 i l.length with hlt | hge
 ·have g1 : decide ((i : Int) < ((l.map D.str).length : Int)) = true := by rw [hle]; simpa using hlt
  have hx0 := fg5 hlt;generalize l[i] = x at hx0;have hx := dc5 (f := D.str) hx0;rw [ok, de1 hx0]
  cases hc : s.toList == x.toList with
  | true =>
   repeat' (first | refine yz ?_ | refine yi (.str x) hx ?_ | exact zD)
  | false =>
   repeat' (first | refine yz ?_ | refine yi (.str x) hx ?_)
   refine ac1 ?_;exact ⟨⟨i + 1, by omega, by rw [ok, de1 hx0, hc]; rfl⟩, by dsimp only; omega, (zle 0)⟩
 ·have g1 : decide ((i : Int) < ((l.map D.str).length : Int)) = false := by rw [hle]; simp; omega
  rw [ok, fh6 hge]
  repeat' (first | refine yz ?_ | exact zD)
theorem de3 (l : List ByteArray) (s : ByteArray) : Ev E 181 [.sl (l.map .str), .str s] (.d (.bool (dd4 l s))) := by
 have h := de2 l s;rw [← de0 s l 0];refine ye2 func181 ntmps181 fun _ _ _=>?_
 repeat' (first | refine yz ?_ | refine yp b230 h ?_ | exact zD)
theorem de4 (n : Nd) (s : ByteArray) : Ev E 207 [dc1 n, .str s] (.d (.bool (dd4 n.labels s))) := by
 have h := de3 n.labels s;refine ye2 func207 ntmps207 fun _ _ _=>?_
 repeat' (first | refine yz ?_ | refine yp b181 h ?_ | exact zD)
theorem de5 : Ev E 129 [.sl []] (.d (.sl [])) := by
 refine ye1 func129 ntmps129 fun _ _ _=>?_
 repeat' (first | refine yz ?_ | (refine ay6 rfl (fun _ => ?_) ?_) | refine az3 rfl rfl rfl rfl rfl rfl rfl rfl ?_ | exact zD)
theorem de6 (l : List ByteArray) (h0 : l ≠ []) (hn : l.length ≤ 2000000) : EvO E 129 [.sl (l.map .str)] 9 1 (l.map .str) := by
 have hle : (l.map D.str).length = l.length := by simp
 have hne : l.map D.str ≠ [] := by simpa using h0
 have hc : ∀ d ∈ l.map D.str, d.cells.length = 1 := fun d hd => by
  obtain ⟨u, -, rfl⟩ := fk8.1 hd;rfl
 generalize l.map D.str = xs at *;refine az4 func129 ntmps129 rfl rfl fun w0 F0 O => ?_
 repeat' (first | refine az0 rfl rfl rfl rfl rfl rfl rfl (by decide) (by decide) ?_ | refine yz ?_ | (refine ay6 rfl (fun h => absurd h hne) ?_))
 refine qS rfl ⟨hne, hc, by (show (0 + xs.length) * 16 ≤ 140737488355328; omega), by (show 0 + xs.length ≤ 9223372036854775807; omega)⟩ ?_
 repeat' (first | refine yz ?_ | exact zL)
theorem de7 (l : List ByteArray) (hn : l.length ≤ 2000000) : Ev E 129 [.sl (l.map .str)] (.d (.sl (l.map .str))) := by
 by_cases h0 : l = []
 ·subst h0; exact de5
 ·exact (de6 l h0 hn).ev
theorem de8 : Ev E 301 [.sl []] (.d (.sl [])) := by
 refine ye1 func301 ntmps301 fun _ _ _=>?_
 repeat' (first | refine yz ?_ | (refine ay6 rfl (fun _ => ?_) ?_) | refine az3 rfl rfl rfl rfl rfl rfl rfl rfl ?_ | exact zD)
theorem de9 (l : List Pr) : ∀ d ∈ l.map dc0, d.cells.length = 6 := fun d hd => by
 obtain ⟨u, -, rfl⟩ := fk8.1 hd;rfl
theorem df0 (l : List Pr) (h0 : l ≠ []) (hn : l.length ≤ 2000000) : EvO E 301 [.sl (l.map dc0)] 167 6 (l.map dc0) := by
 have hle : (l.map dc0).length = l.length := by simp
 have hne : l.map dc0 ≠ [] := by simpa using h0
 have hc := de9 l;generalize l.map dc0 = xs at *;refine az4 func301 ntmps301 rfl rfl fun w0 F0 O => ?_
 repeat' (first | refine az0 rfl rfl rfl rfl rfl rfl rfl (by decide) (by decide) ?_ | refine yz ?_ | (refine ay6 rfl (fun h => absurd h hne) ?_))
 refine qS rfl ⟨hne, hc, by (show (0 + xs.length) * 80 ≤ 140737488355328; omega), by (show 0 + xs.length ≤ 9223372036854775807; omega)⟩ ?_
 repeat' (first | refine yz ?_ | exact zL)
open Go.RowKit
attribute [local irreducible] RGo
theorem df1 {α : Type} {l : List α} {i : Nat} {x : α} (h : l[i]? = some x) : l.set i x = l := by
 refine fn0 fun j => ?_
 rw [fk3];split
 ·rename_i hij
  subst hij;rw [if_pos (fg8.1 h).1, h]
 ·rfl
theorem df2 (v : V) : nar v = true → Ev E 302 [enc v] (.d (enc v)) := by
 refine cg5 (P := fun v => nar v = true → Ev E 302 [enc v] (.d (enc v))) (fun k n d s l ih hn => ?_) v;obtain ⟨hl, hm⟩ := cp8 hn;simp only [V.l] at hl hm;show Ev E 302 [.agg [.int k, .int n, .int d, .str s, .sl (bo1 l)]] (.d (.agg [.int k, .int n, .int d, .str s, .sl (bo1 l)]));have hle : (bo1 l).length = l.length := bo7 _
 by_cases h0 : l = []
 ·subst h0;show Ev E 302 [.agg [.int k, .int n, .int d, .str s, .sl []]] (.d (.agg [.int k, .int n, .int d, .str s, .sl []]));refine ye1 func302 ntmps302 fun _ _ _=>?_
  repeat' (first | refine yz ?_ | refine yp b255 cp9 ?_ | refine yx ?_ | (refine yy ?_ ?_ <;> intro _) | exact zD | exact zL)
  refine ac7 (α := Unit) (fun _ => ⟨[(1, .ptr 0 0), (2, .ptr 1 0), (10, .d (.int 0)), (11, .d (.int 0))], [.var 24 (.cs [.d (.int k), .d (.int n), .d (.int d), .d (.str s), .d (.sl [])]), .var 24 (.cs [.d (.int 0), .d (.int 0), .d (.int 0), .d (.str ⟨#[]⟩), .nilS])]⟩) (fun _ => 0) () (zle 2) ?_;rintro -;have g1 : decide ((0 : Int) < 0) = false := rfl
  repeat' (first | refine yz ?_ | refine yx ?_ | (refine yy ?_ ?_ <;> intro _) | exact zD | exact zL)
 ·have hc := cq1 l h0 hl;refine ye1 func302 ntmps302 fun _ _ _=>?_
  repeat' (first | refine yz ?_ | refine ay9 rfl rfl rfl rfl rfl rfl b255 (hc) ?_ | refine yx ?_ | (refine yy ?_ ?_ <;> intro _) | exact zD | exact zL)
  refine ac7 (α := Fin (l.length + 1)) (fun p => ⟨[(1, .ptr 0 0), (2, .ptr 1 0), (10, .d (.int (bo1 l).length)), (11, .d (.int p.val))], [.var 24 (.cs [.d (.int k), .d (.int n), .d (.int d), .d (.str s), .own 2]), .var 24 (.cs [.d (.int 0), .d (.int 0), .d (.int 0), .d (.str ⟨#[]⟩), .nilS]), .row 24 5 (bo1 l)]⟩) (fun p => l.length - p.val) ⟨0, by omega⟩ (zle 3) ?_;rintro ⟨i, hi⟩;dsimp only;rcases fg7 i l.length with hlt | hge
  ·have g1 : decide ((i : Int) < ((bo1 l).length : Int)) = true := by rw [hle]; simpa using hlt
   have hx0 := fg5 hlt;generalize l[i] = x at hx0;have hx : (bo1 l)[(i : Int).toNat]? = some (enc x) := bo5 (by rw [fh0]; exact hx0);have hmem := fg9 hx0;have hcx := ih x hmem (cp7 hm x hmem);have hset : (bo1 l).set (i : Int).toNat (ar1 (enc x) 0 (enc x)) = bo1 l := df1 hx
   repeat' (first | refine yq 5 [10] ?_ | refine yf 5 0 10 ?_ | refine yw ?_ | refine rgN ?_ | refine yv ?_ | refine yz ?_ | refine qW (enc x) rfl rfl rfl rfl rfl rfl hx rfl ?_ | refine yp b302 hcx ?_ | refine yx ?_ | (refine yy ?_ ?_ <;> intro _) | exact zD | exact zL)
   refine ac1 ?_;refine ⟨⟨i + 1, by omega⟩, by dsimp only; omega, ?_⟩;show Le _ ⟨_, [_, _, .row 24 5 ((bo1 l).set (i : Int).toNat (ar1 (enc x) 0 (enc x)))]⟩ _;rw [hset];exact (zle 3)
  ·have g1 : decide ((i : Int) < ((bo1 l).length : Int)) = false := by rw [hle]; simp; omega
   repeat' (first | refine yz ?_ | refine yx ?_ | (refine yy ?_ ?_ <;> intro _) | exact zD | exact zL)
   refine be7 2 rfl ?_
   repeat' (first | refine yz ?_ | refine yx ?_ | (refine yy ?_ ?_ <;> intro _) | exact zD | exact zL)
def df3 (l : List Pr) : Prop := l.length ≤ 2000000 ∧ ∀ p ∈ l, nar p.v = true
theorem df4 (l : List Pr) (hn : df3 l) : Ev E 254 [.sl (l.map dc0)] (.d (.sl (l.map dc0))) := by
 have hle : (l.map dc0).length = l.length := by simp
 have hmax := hn.1
 by_cases h0 : l = []
 ·subst h0;show Ev E 254 [.sl []] (.d (.sl []));refine ye1 func254 ntmps254 fun _ _ _=>?_
  repeat' (first | refine yz ?_ | refine yp b301 de8 ?_ | refine yx ?_ | (refine yy ?_ ?_ <;> intro _) | exact zD | exact zL)
  refine ac7 (α := Unit) (fun _ => ⟨[(3, .d (.sl [])), (8, .d (.int 0)), (9, .d (.int 0))], []⟩) (fun _ => 0) () (zle 0) ?_;rintro -;have g1 : decide ((0 : Int) < 0) = false := rfl
  repeat' (first | refine yz ?_ | refine yx ?_ | (refine yy ?_ ?_ <;> intro _) | exact zD | exact zL)
 ·have hc := df0 l h0 hn.1;refine ye1 func254 ntmps254 fun _ _ _=>?_
  repeat' (first | refine yz ?_ | refine ay9 rfl rfl rfl rfl rfl rfl b301 (hc) ?_ | refine yx ?_ | (refine yy ?_ ?_ <;> intro _) | exact zD | exact zL)
  refine ac7 (α := Fin (l.length + 1)) (fun p => ⟨[(3, .own 0), (8, .d (.int (l.map dc0).length)), (9, .d (.int p.val))], [.row 167 6 (l.map dc0)]⟩) (fun p => l.length - p.val) ⟨0, by omega⟩ (zle 1) ?_;rintro ⟨i, hi⟩;dsimp only;rcases fg7 i l.length with hlt | hge
  ·have g1 : decide ((i : Int) < ((l.map dc0).length : Int)) = true := by rw [hle]; simpa using hlt
   have hx0 := fg5 hlt;generalize l[i] = x at hx0;have hx := dc5 (f := dc0) hx0;have hcx := df2 x.v (hn.2 x (fg9 hx0));have hset : (l.map dc0).set (i : Int).toNat (ar1 (dc0 x) 1 (enc x.v)) = l.map dc0 := df1 hx
   repeat' (first | refine yz ?_ | refine qW (dc0 x) rfl rfl rfl rfl rfl rfl hx rfl ?_ | refine qZ (dc0 x) rfl rfl rfl rfl rfl rfl hx rfl rfl rfl ?_ | refine yp b302 hcx ?_ | refine yx ?_ | (refine yy ?_ ?_ <;> intro _) | exact zD | exact zL)
   refine ac1 ?_;refine ⟨⟨i + 1, by omega⟩, by dsimp only; omega, ?_⟩;show Le _ ⟨_, [.row 167 6 ((l.map dc0).set (i : Int).toNat (ar1 (dc0 x) 1 (enc x.v)))]⟩ _;rw [hset];exact (zle 1)
  ·have g1 : decide ((i : Int) < ((l.map dc0).length : Int)) = false := by rw [hle]; simp; omega
   repeat' (first | refine yz ?_ | refine yx ?_ | (refine yy ?_ ?_ <;> intro _) | exact zD | exact zL)
   refine au6 0 rfl ?_
   repeat' (first | refine yz ?_ | refine yx ?_ | (refine yy ?_ ?_ <;> intro _) | exact zD | exact zL)
theorem df5 (l : List Pr) (key : ByteArray) (hn : df3 l) : Ev E 256 [.sl (l.map dc0), .str key] (.d (enc (dd1 l key))) := by
 have hle : (l.map dc0).length = l.length := by simp
 have hmax := hn.1;unfold dd1;refine ye2 func256 ntmps256 fun _ _ _=>?_
 repeat' (first | refine yz ?_ | refine yx ?_ | (refine yy ?_ ?_ <;> intro _) | exact zD | exact zL)
 refine ac7 (α := SFd l fun p => p.key.toList == key.toList) (fun p => ⟨[(1, .d (.str key)), (4, .ptr 0 0), (7, .d (.sl (l.map dc0))), (8, .d (.int (l.map dc0).length)), (9, .d (.int p.i))], [.var 24 (.cs [.d (.int 0), .d (.int 0), .d (.int 0), .d (.str ⟨#[]⟩), .nilS])]⟩) (fun p => l.length - p.i) ⟨0, by omega, rfl⟩ (zle 1) ?_;rintro ⟨i, hi, ok⟩;dsimp only;rcases fg7 i l.length with hlt | hge
 ·have g1 : decide ((i : Int) < ((l.map dc0).length : Int)) = true := by rw [hle]; simpa using hlt
  have hx0 := fg5 hlt;generalize l[i] = x at hx0;have hx := dc5 (f := dc0) hx0;have hcx := df2 x.v (hn.2 x (fg9 hx0));rw [ok, dc8 hx0]
  cases hc : x.key.toList == key.toList with
  | true =>
   repeat' (first | refine yz ?_ | refine yi (dc0 x) hx ?_ | refine yp b302 hcx ?_ | refine yx ?_ | (refine yy ?_ ?_ <;> intro _) | exact zD | exact zL)
  | false =>
   repeat' (first | refine yz ?_ | refine yi (dc0 x) hx ?_ | refine yx ?_ | (refine yy ?_ ?_ <;> intro _) | exact zD | exact zL)
   refine ac1 ?_;exact ⟨⟨i + 1, by omega, by rw [ok, dc8 hx0, hc]; rfl⟩, by dsimp only; omega, (zle 1)⟩
 ·have g1 : decide ((i : Int) < ((l.map dc0).length : Int)) = false := by rw [hle]; simp; omega
  rw [ok, fh6 hge]
  repeat' (first | refine yz ?_ | refine yp b86 cb0 ?_ | refine yx ?_ | (refine yy ?_ ?_ <;> intro _) | exact zD | exact zL)
def narN (n : Nd) : Prop := n.labels.length ≤ 2000000 ∧ df3 n.props
theorem df6 (g : Gr) (id : Int) (hn : ∀ n ∈ g.nodes, narN n) : Ev E 202 [dc3 g, .int id] (.tup [dc1 ((dc9 g.nodes id).getD nd0), .bool (dc9 g.nodes id).isSome]) := Ev.fit fun hfit => by
 obtain ⟨f1, -⟩ := dc7 (g := g) (hfit _ (by simp));obtain ⟨hmax, -⟩ := dc6 f1;have hle : (g.nodes.map dc1).length = g.nodes.length := by simp
 unfold dc9;refine ye2 func202 ntmps202 fun _ _ _=>?_
 repeat' (first | refine yz ?_ | refine yx ?_ | (refine yy ?_ ?_ <;> intro _) | exact zD | exact zL)
 refine ac7 (α := SFd g.nodes fun n => n.id == id) (fun p => ⟨[(1, .d (.int id)), (4, .ptr 1 0), (9, .d (.sl (g.nodes.map dc1))), (10, .d (.int (g.nodes.map dc1).length)), (11, .d (.int p.i))], [.var 40 (.w (.d (dc3 g))), .var 124 (.cs [.d (.int 0), .nilS, .nilS])]⟩) (fun p => g.nodes.length - p.i) ⟨0, by omega, rfl⟩ (zle 2) ?_;rintro ⟨i, hi, ok⟩;dsimp only;rcases fg7 i g.nodes.length with hlt | hge
 ·have g1 : decide ((i : Int) < ((g.nodes.map dc1).length : Int)) = true := by rw [hle]; simpa using hlt
  have hx0 := fg5 hlt;generalize g.nodes[i] = x at hx0;have hx := dc5 (f := dc1) hx0;obtain ⟨n1, n2⟩ := hn x (fg9 hx0);have hc1 := de7 x.labels n1;have hc2 := df4 x.props n2;rw [ok, dc8 hx0]
  cases hc : x.id == id with
  | true =>
   obtain rfl : x.id = id := by simpa using hc
   repeat' (first | refine yq 5 [8] ?_ | refine yf 5 0 8 ?_ | refine yw ?_ | refine yf 5 9 1 ?_ | refine rgN ?_ | refine yv ?_ | refine yz ?_ | refine yi (dc1 x) hx ?_ | refine yp b129 hc1 ?_ | refine yp b254 hc2 ?_ | refine yx ?_ | (refine yy ?_ ?_ <;> intro _) | exact zD | exact zL)
  | false =>
   repeat' (first | refine yz ?_ | refine yi (dc1 x) hx ?_ | refine yx ?_ | (refine yy ?_ ?_ <;> intro _) | exact zD | exact zL)
   refine ac1 ?_;exact ⟨⟨i + 1, by omega, by rw [ok, dc8 hx0, hc]; rfl⟩, by dsimp only; omega, (zle 2)⟩
 ·have g1 : decide ((i : Int) < ((g.nodes.map dc1).length : Int)) = false := by rw [hle]; simp; omega
  rw [ok, fh6 hge]
  repeat' (first | refine yz ?_ | refine yx ?_ | (refine yy ?_ ?_ <;> intro _) | exact zD | exact zL)
theorem df7 (g : Gr) (id : Int) (hn : ∀ e ∈ g.edges, df3 e.props) : Ev E 200 [dc3 g, .int id] (.tup [dc2 ((dd0 g.edges id).getD ed0), .bool (dd0 g.edges id).isSome]) := Ev.fit fun hfit => by
 obtain ⟨-, f1⟩ := dc7 (g := g) (hfit _ (by simp));obtain ⟨hmax, -⟩ := dc6 f1;have hle : (g.edges.map dc2).length = g.edges.length := by simp
 unfold dd0;refine ye2 func200 ntmps200 fun _ _ _=>?_
 repeat' (first | refine yz ?_ | refine yx ?_ | (refine yy ?_ ?_ <;> intro _) | exact zD | exact zL)
 refine ac7 (α := SFd g.edges fun n => n.id == id) (fun p => ⟨[(1, .d (.int id)), (4, .ptr 1 0), (9, .d (.sl (g.edges.map dc2))), (10, .d (.int (g.edges.map dc2).length)), (11, .d (.int p.i))], [.var 40 (.w (.d (dc3 g))), .var 156 (.cs [.d (.int 0), .d (.int 0), .d (.int 0), .d (.str ⟨#[]⟩), .nilS])]⟩) (fun p => g.edges.length - p.i) ⟨0, by omega, rfl⟩ (zle 2) ?_;rintro ⟨i, hi, ok⟩;dsimp only;rcases fg7 i g.edges.length with hlt | hge
 ·have g1 : decide ((i : Int) < ((g.edges.map dc2).length : Int)) = true := by rw [hle]; simpa using hlt
  have hx0 := fg5 hlt;generalize g.edges[i] = x at hx0;have hx := dc5 (f := dc2) hx0;have hc2 := df4 x.props (hn x (fg9 hx0));rw [ok, dc8 hx0]
  cases hc : x.id == id with
  | true =>
   repeat' (first | refine yz ?_ | refine yi (dc2 x) hx ?_ | refine yp b254 hc2 ?_ | refine yx ?_ | (refine yy ?_ ?_ <;> intro _) | exact zD | exact zL)
  | false =>
   repeat' (first | refine yz ?_ | refine yi (dc2 x) hx ?_ | refine yx ?_ | (refine yy ?_ ?_ <;> intro _) | exact zD | exact zL)
   refine ac1 ?_;exact ⟨⟨i + 1, by omega, by rw [ok, dc8 hx0, hc]; rfl⟩, by dsimp only; omega, (zle 2)⟩
 ·have g1 : decide ((i : Int) < ((g.edges.map dc2).length : Int)) = false := by rw [hle]; simp; omega
  rw [ok, fh6 hge]
  repeat' (first | refine yz ?_ | refine yx ?_ | (refine yy ?_ ?_ <;> intro _) | exact zD | exact zL)
end Go.Proofs.YtibfalecohlngaaGreatDoor
namespace Go.Proofs.YtibfalecohlngaaGreatDoor
set_option maxRecDepth 4000
open Go Go.Abs Go.Val Go.Proofs.Tryz
attribute [local irreducible] go SGo an2 Ev aw0 EvO EvS
inductive Ex where
 | mk (op : Int) (v : V) (nm : ByteArray) (ds : Bool) (ks : List Ex)
 deriving Inhabited
def Ex.op : Ex → Int | .mk op _ _ _ _ => op
def Ex.v : Ex → V | .mk _ v _ _ _ => v
def Ex.nm : Ex → ByteArray | .mk _ _ nm _ _ => nm
def Ex.ds : Ex → Bool | .mk _ _ _ ds _ => ds
def Ex.ks : Ex → List Ex | .mk _ _ _ _ ks => ks
theorem Ex.eta (e : Ex) : Ex.mk e.op e.v e.nm e.ds e.ks = e := by cases e; rfl
mutual
def df8 : Ex → List D
 | .mk _ _ _ _ l => df9 l
def df9 : List Ex → List D
 | [] => []
 | e :: r => .agg [.int e.op, .int e.v.k, .int e.v.n, .int e.v.d, .str e.v.s, .sl (kids e.v), .str e.nm, .bool e.ds, .sl (df8 e)] :: df9 r
end
def dg0 (e : Ex) : D := .agg [.int e.op, .int e.v.k, .int e.v.n, .int e.v.d, .str e.v.s, .sl (kids e.v), .str e.nm, .bool e.ds, .sl (df8 e)]
theorem dg1 (l : List Ex) : df9 l = l.map dg0 := by
 induction l with
 | nil => simp [df9]
 | cons v r ih => simp [df9, ih, dg0]
theorem dg2 (e : Ex) : df8 e = e.ks.map dg0 := by
 cases e
 simp [df8, dg1, Ex.ks]
theorem dg3 {e : Ex} {i : Nat} {x : Ex} (h : e.ks[i]? = some x) : (df8 e)[i]? = some (dg0 x) := by
 rw [dg2, fh1, h]; rfl
theorem dg4 {l : List Ex} {i : Nat} {x : Ex} (h : l[i]? = some x) : (df9 l)[i]? = some (dg0 x) := by
 rw [dg1, fh1, h]; rfl
theorem dg5 (e : Ex) : (df8 e).length = e.ks.length := by rw [dg2]; simp
theorem dg6 (l : List Ex) : (df9 l).length = l.length := by rw [dg1]; simp
theorem dg7 {e : Ex} (h : Fit (dg0 e)) : inR .i64 e.op ∧ Fit (enc e.v) ∧ e.nm.size ≤ 9223372036854775807 ∧ e.ks.length ≤ 9223372036854775807 ∧ ∀ x ∈ e.ks, Fit (dg0 x) := by
 have hc := h.aggs;have h5 := (hc (.sl (df8 e)) (by simp)).sls;rw [dg5] at h5;refine ⟨(hc (.int e.op) (by simp)).int, ?_, (hc (.str e.nm) (by simp)).str, h5.1, fun x hx => h5.2 _ ?_⟩
 ·refine Fit.agg _ fun c hm => hc c ?_
  simp only [fh7, List.not_mem_nil, or_false] at hm ⊢;rcases hm with rfl | rfl | rfl | rfl | rfl <;> simp
 ·rw [dg2];exact fn2 hx
theorem dg8 {l : List Ex} (h : Fit (.sl (df9 l))) : l.length ≤ 9223372036854775807 ∧ ∀ x ∈ l, Fit (dg0 x) := by
 have h5 := h.sls;rw [dg6] at h5;refine ⟨h5.1, fun x hx => h5.2 _ ?_⟩;rw [dg1];exact fn2 hx
theorem dg9 {P : Ex → Prop} (h : ∀ op v nm ds ks, (∀ x ∈ ks, P x) → P (.mk op v nm ds ks)) : ∀ e, P e := by
 intro e;refine Ex.rec (motive_1 := P) (motive_2 := fun l => ∀ x ∈ l, P x) (fun op v nm ds ks ih => h op v nm ds ks ih) (fun x hx => by simp at hx) (fun a r ha hr x hx => ?_) e;rcases fh7.1 hx with rfl | hx
 ·exact ha
 ·exact hr x hx
end Go.Proofs.YtibfalecohlngaaGreatDoor
namespace Go.Proofs.YtibfalecohlngaaGreatDoor
set_option maxRecDepth 4000
open Go Go.Abs Go.Val Go.Proofs.Tryz
attribute [local irreducible] go SGo an2 Ev aw0 EvO EvS
def dh0 (n : Int) : Bool := (decide (n ≥ 97) && decide (n ≤ 122)) || (decide (n ≥ 65) && decide (n ≤ 90))
def wcF (n : Int) : Bool := dh0 n || ((decide (n ≥ 48) && decide (n ≤ 57)) || n == 95)
def dh1 (s : ByteArray) : Bool := decide (1 ≤ s.size) && (decide (s.size ≤ 20) && (dh0 (ag0 s 0) && (List.range s.size).all fun j => wcF (ag0 s j)))
theorem dh2 (n : Int) : Ev E 247 [.imm (.int .u8 n)] (.d (.bool (dh0 n))) := by
 refine ye1 func247 ntmps247 fun _ _ _=>?_
 repeat' (first | refine yz ?_ | (refine yy ?_ ?_ <;> intro _))
 all_goals (refine congrArg D.bool ?_; simp_all [dh0] <;> omega)
theorem dh3 (n : Int) : Ev E 215 [.imm (.int .u8 n)] (.d (.bool (dh0 n))) := by
 refine ye1 func215 ntmps215 fun _ _ _=>?_
 repeat' (first | refine yz ?_ | (refine yy ?_ ?_ <;> intro _))
 all_goals (refine congrArg D.bool ?_; simp_all [dh0] <;> omega)
structure SNm (s : ByteArray) where
 i : Nat
 hi : i ≤ s.size
 ok : ((List.range s.size).all fun j => wcF (ag0 s j)) = ((List.range s.size).drop i).all fun j => wcF (ag0 s j)
theorem dh4 {n i : Nat} (h : i < n) : (List.range n)[i]? = some i := by rw [fm9 h]
theorem dh5 (s : ByteArray) (i : Nat) (h : i < s.size) : 0 ≤ ag0 s i ∧ ag0 s i ≤ 255 := by
 obtain ⟨b, -, hb2⟩ := cc9 h;rw [hb2];have := b.toNat_lt;omega
set_option maxHeartbeats 2000000 in
theorem dh6 (s : ByteArray) : Ev E 193 [.str s] (.d (.bool (dh1 s))) := Ev.fit fun hfit => by
 have hs := (hfit (.str s) (by simp)).str
 by_cases h0 : s.size = 0
 ·have hse : s = ByteArray.empty := by simpa using h0
  have gs : (s.toList == (⟨#[]⟩ : ByteArray).toList) = true := by rw [hse]; exact beq_self_eq_true ByteArray.empty.toList
  have e : dh1 s = false := by unfold dh1; rw [h0]; rfl
  rw [e];refine ye1 func193 ntmps193 fun _ _ _=>?_
  repeat' (first | refine yz ?_ | refine yx ?_ | exact zD)
 have g0 : (s.toList == (⟨#[]⟩ : ByteArray).toList) = false := by
  rw [beq_eq_false_iff_ne];intro e;rw [ByteArray.toList_eq, ByteArray.toList_eq] at e;have := congrArg List.length e;simp at this;exact h0 (by rw [this]; rfl)
 cases h20 : decide (s.size ≤ 20) with
 | false =>
  have g1 : decide ((s.size : Int) > 20) = true := by simp at h20 ⊢; omega
  have e : dh1 s = false := by unfold dh1; rw [h20]; simp
  rw [e];refine ye1 func193 ntmps193 fun _ _ _=>?_
  repeat' (first | refine yz ?_ | refine yx ?_ | exact zD)
 | true =>
  have g1 : decide ((s.size : Int) > 20) = false := by simp at h20 ⊢; omega
  have hb0 := dh5 s 0 (by omega);have hl := dh2 (ag0 s 0)
  cases hl0 : dh0 (ag0 s 0) with
  | false =>
   rw [hl0] at hl;have e : dh1 s = false := by unfold dh1; rw [hl0]; simp
   rw [e];refine ye1 func193 ntmps193 fun _ _ _=>?_
   repeat' (first | refine yz ?_ | refine yp bt8 hl ?_ | refine yx ?_ | exact zD)
  | true =>
   rw [hl0] at hl
   have e : dh1 s = (List.range s.size).all fun j => wcF (ag0 s j) := by
    unfold dh1; rw [hl0, h20, show decide (1 ≤ s.size) = true by simp; omega]; rfl
   rw [e];refine ye1 func193 ntmps193 fun _ _ _=>?_
   repeat' (first | refine yz ?_ | refine yp bt8 hl ?_ | refine yx ?_)
   refine ac7 (α := SNm s) (fun p => ⟨[(0, .d (.str s)), (18, .d (.int s.size)), (19, .d (.int p.i))], []⟩) (fun p => s.size - p.i) ⟨0, by omega, rfl⟩ (zle 0) ?_;rintro ⟨i, hi, ok⟩;dsimp only;rcases fg7 i s.size with hlt | hge
   ·have hd : decide ((i : Int) < (s.size : Int)) = true := by simpa using hlt
    have hb := dh5 s i hlt;rw [ok, cd5 (dh4 hlt), fk0];have hli := dh2 (ag0 s i);have hti : (i : Int).toNat = i := fh0 i;rw [← hti] at hli hb
    cases hl1 : dh0 (ag0 s (i : Int).toNat) with
    | true =>
     rw [hl1] at hli;rw [hti] at hl1;have hw : wcF (ag0 s i) = true := by unfold wcF; rw [hl1]; rfl
     repeat' (first | refine yz ?_ | refine yp bt8 hli ?_)
     refine ac1 ?_;exact ⟨⟨i + 1, by omega, by rw [ok, cd5 (dh4 hlt), fk0, hw, fh3]⟩, by dsimp only; omega, (zle 0)⟩
    | false =>
     rw [hl1] at hli
     have key : ∀ b, ((decide (ag0 s i ≥ 48) && decide (ag0 s i ≤ 57)) || ag0 s i == 95) = b → wcF (ag0 s i) = b := by
      intro b hb;unfold wcF;rw [← hti, hl1, hti, hb, fj6]
     cases h48 : decide (ag0 s (i : Int).toNat < 48) with
     | true =>
      cases h95 : ag0 s (i : Int).toNat != 95 with
      | true =>
       have hw : wcF (ag0 s i) = false := key _ (by rw [hti] at h48 h95; simp at h48 h95 ⊢; exact ⟨fun h => by omega, h95⟩)
       repeat' (first | refine yz ?_ | refine yp bt8 hli ?_ | refine yx ?_)
       rw [hw]; rfl
      | false =>
       have hw : wcF (ag0 s i) = true := key _ (by rw [hti] at h48 h95; simp at h48 h95 ⊢; exact .inr h95)
       repeat' (first | refine yz ?_ | refine yp bt8 hli ?_ | refine yx ?_)
       refine ac1 ?_;exact ⟨⟨i + 1, by omega, by rw [ok, cd5 (dh4 hlt), fk0, hw, fh3]⟩, by dsimp only; omega, (zle 0)⟩
     | false =>
      cases h57 : decide (ag0 s (i : Int).toNat > 57) with
      | false =>
       have hw : wcF (ag0 s i) = true := key _ (by rw [hti] at h48 h57; simp at h48 h57 ⊢; exact .inl ⟨h48, h57⟩)
       repeat' (first | refine yz ?_ | refine yp bt8 hli ?_ | refine yx ?_)
       refine ac1 ?_;exact ⟨⟨i + 1, by omega, by rw [ok, cd5 (dh4 hlt), fk0, hw, fh3]⟩, by dsimp only; omega, (zle 0)⟩
      | true =>
       cases h95 : ag0 s (i : Int).toNat != 95 with
       | true =>
        have hw : wcF (ag0 s i) = false := key _ (by rw [hti] at h48 h57 h95; simp at h48 h57 h95 ⊢; exact ⟨fun h => by omega, h95⟩)
        repeat' (first | refine yz ?_ | refine yp bt8 hli ?_ | refine yx ?_)
        rw [hw]; rfl
       | false =>
        have hw : wcF (ag0 s i) = true := key _ (by rw [hti] at h95; simp at h95 ⊢; exact .inr h95)
        repeat' (first | refine yz ?_ | refine yp bt8 hli ?_ | refine yx ?_)
        refine ac1 ?_;exact ⟨⟨i + 1, by omega, by rw [ok, cd5 (dh4 hlt), fk0, hw, fh3]⟩, by dsimp only; omega, (zle 0)⟩
   ·have hd : decide ((i : Int) < (s.size : Int)) = false := by simp; omega
    have : (List.range s.size).drop i = [] := fh6 (by simpa using hge);rw [ok, this]
    repeat' (first | refine yz ?_ | exact zD)
set_option maxHeartbeats 2000000 in
theorem dh7 (s : ByteArray) : Ev E 160 [.str s] (.d (.bool (dh1 s))) := Ev.fit fun hfit => by
 have hs := (hfit (.str s) (by simp)).str
 cases h0 : decide (1 ≤ s.size) with
 | false =>
  have g0 := yT ((s.size : Int) < 1) (by have := of_decide_eq_false h0; omega);have e : dh1 s = false := by unfold dh1; rw [h0]; simp
  rw [e];refine ye1 func160 ntmps160 fun _ _ _=>?_
  repeat' (first | refine yz ?_ | refine yx ?_ | exact zD)
 | true =>
 have hs1 := of_decide_eq_true h0;have g0 : decide ((s.size : Int) < 1) = false := by simp; omega
 cases h20 : decide (s.size ≤ 20) with
 | false =>
  have g1 : decide ((s.size : Int) > 20) = true := by simp at h20 ⊢; omega
  have e : dh1 s = false := by unfold dh1; rw [h20]; simp
  rw [e];refine ye1 func160 ntmps160 fun _ _ _=>?_
  repeat' (first | refine yz ?_ | refine yx ?_ | exact zD)
 | true =>
  have g1 : decide ((s.size : Int) > 20) = false := by simp at h20 ⊢; omega
  have hb0 := dh5 s 0 (by omega);have hl := dh3 (ag0 s 0)
  cases hl0 : dh0 (ag0 s 0) with
  | false =>
   rw [hl0] at hl;have e : dh1 s = false := by unfold dh1; rw [hl0]; simp
   rw [e];refine ye1 func160 ntmps160 fun _ _ _=>?_
   repeat' (first | refine yz ?_ | refine yp bt5 hl ?_ | refine yx ?_ | exact zD)
  | true =>
   rw [hl0] at hl
   have e : dh1 s = (List.range s.size).all fun j => wcF (ag0 s j) := by
    unfold dh1; rw [hl0, h20, h0]; rfl
   have hw0 : wcF (ag0 s 0) = true := by unfold wcF; rw [hl0]; rfl
   have hst1 : ((List.range s.size).all fun j => wcF (ag0 s j)) = ((List.range s.size).drop 1).all fun j => wcF (ag0 s j) := by
    have := cd5 (dh4 (show 0 < s.size by omega));rw [fm6] at this
    conv => lhs; rw [this]
    rw [fk0, hw0, fh3]
   rw [e];refine ye1 func160 ntmps160 fun _ _ _=>?_
   repeat' (first | refine yz ?_ | refine yp bt5 hl ?_ | refine yx ?_)
   refine ac7 (α := SNm s) (fun p => ⟨[(0, .d (.str s)), (3, .d (.int p.i))], []⟩) (fun p => s.size - p.i) ⟨1, by omega, hst1⟩ (zle 0) ?_;rintro ⟨i, hi, ok⟩;dsimp only;rcases fg7 i s.size with hlt | hge
   ·have hd : decide ((i : Int) < (s.size : Int)) = true := by simpa using hlt
    have hb := dh5 s i hlt;rw [ok, cd5 (dh4 hlt), fk0];have hli := dh3 (ag0 s i);have hti : (i : Int).toNat = i := fh0 i;rw [← hti] at hli hb
    cases hl1 : dh0 (ag0 s (i : Int).toNat) with
    | true =>
     rw [hl1] at hli;rw [hti] at hl1;have hw : wcF (ag0 s i) = true := by unfold wcF; rw [hl1]; rfl
     repeat' (first | refine yz ?_ | refine yp bt5 hli ?_)
     refine ac1 ?_;exact ⟨⟨i + 1, by omega, by rw [ok, cd5 (dh4 hlt), fk0, hw, fh3]⟩, by dsimp only; omega, (zle 0)⟩
    | false =>
     rw [hl1] at hli
     have key : ∀ b, ((decide (ag0 s i ≥ 48) && decide (ag0 s i ≤ 57)) || ag0 s i == 95) = b → wcF (ag0 s i) = b := by
      intro b hb;unfold wcF;rw [← hti, hl1, hti, hb, fj6]
     cases h95 : ag0 s (i : Int).toNat != 95 with
     | false =>
      have hw : wcF (ag0 s i) = true := key _ (by rw [hti] at h95; simp at h95 ⊢; exact .inr h95)
      repeat' (first | refine yz ?_ | refine yp bt5 hli ?_ | refine yx ?_)
      refine ac1 ?_;exact ⟨⟨i + 1, by omega, by rw [ok, cd5 (dh4 hlt), fk0, hw, fh3]⟩, by dsimp only; omega, (zle 0)⟩
     | true =>
      cases h48 : decide (ag0 s (i : Int).toNat < 48) with
      | true =>
       have hw : wcF (ag0 s i) = false := key _ (by rw [hti] at h48 h95; simp at h48 h95 ⊢; exact ⟨fun h => by omega, h95⟩)
       repeat' (first | refine yz ?_ | refine yp bt5 hli ?_ | refine yx ?_)
       rw [hw]; rfl
      | false =>
       cases h57 : decide (ag0 s (i : Int).toNat > 57) with
       | false =>
        have hw : wcF (ag0 s i) = true := key _ (by rw [hti] at h48 h57; simp at h48 h57 ⊢; exact .inl ⟨h48, h57⟩)
        repeat' (first | refine yz ?_ | refine yp bt5 hli ?_ | refine yx ?_)
        refine ac1 ?_;exact ⟨⟨i + 1, by omega, by rw [ok, cd5 (dh4 hlt), fk0, hw, fh3]⟩, by dsimp only; omega, (zle 0)⟩
       | true =>
        have hw : wcF (ag0 s i) = false := key _ (by rw [hti] at h48 h57 h95; simp at h48 h57 h95 ⊢; exact ⟨fun h => by omega, h95⟩)
        repeat' (first | refine yz ?_ | refine yp bt5 hli ?_ | refine yx ?_)
        rw [hw]; rfl
   ·have hd : decide ((i : Int) < (s.size : Int)) = false := by simp; omega
    have : (List.range s.size).drop i = [] := fh6 (by simpa using hge);rw [ok, this]
    repeat' (first | refine yz ?_ | exact zD)
end Go.Proofs.YtibfalecohlngaaGreatDoor
namespace Go.Proofs.YtibfalecohlngaaGreatDoor
set_option maxRecDepth 4000
open Go Go.Abs Go.Val Go.Proofs.Tryz
def dh8 : List (List UInt8) → List UInt8
 | [] => [32]
 | w :: r => 32 :: (w ++ dh8 r)
theorem dh9 : ∀ r, ∃ t, dh8 r = 32 :: t
 | [] => ⟨[], rfl⟩
 | w :: r => ⟨w ++ dh8 r, rfl⟩
theorem di0 (b : UInt8) (l sub : List UInt8) : Lib.contains (b :: l) sub = (sub.isPrefixOf (b :: l) || Lib.contains l sub) := by
 unfold Lib.contains;have hg := Lib.index_ge l sub;rw [show Lib.index (b :: l) sub = if sub.isPrefixOf (b :: l) then 0 else if Lib.index l sub == -1 then -1 else Lib.index l sub + 1 from rfl]
 cases hp : sub.isPrefixOf (b :: l) with
 | true => simp
 | false =>
  simp only [Bool.false_eq_true, if_false, fj6]
  by_cases h : Lib.index l sub = -1
  ·simp [h]
  ·have hb : (Lib.index l sub == -1) = false := by rw [beq_eq_false_iff_ne]; exact h
   rw [hb];simp only [Bool.false_eq_true, if_false, decide_eq_decide];omega
theorem di1 (p : List UInt8) : ∀ (w l : List UInt8), (32 : UInt8) ∉ w → Lib.contains (w ++ l) (32 :: p) = Lib.contains l (32 :: p)
 | [], l, _ => rfl
 | b :: w, l, h => by
  simp only [fh7, not_or] at h;have hb : ((32 : UInt8) == b) = false := by rw [beq_eq_false_iff_ne]; exact h.1
  rw [fp4, di0, di1 p w l h.2];have : (32 :: p).isPrefixOf (b :: (w ++ l)) = false := by simp only [List.isPrefixOf, hb, fi6]
  rw [this, fj6]
theorem di2 : ∀ (U w t : List UInt8), (32 : UInt8) ∉ U → (32 : UInt8) ∉ w → (U ++ [32]).isPrefixOf (w ++ 32 :: t) = (U == w)
 | [], [], t, _, _ => by simp [List.isPrefixOf]
 | [], b :: w, t, _, h => by
  simp only [fh7, not_or] at h;have hb : ((32 : UInt8) == b) = false := by rw [beq_eq_false_iff_ne]; exact h.1
  simp only [List.nil_append, fp4, List.isPrefixOf, hb, fi6];rfl
 | a :: U, [], t, h, _ => by
  simp only [fh7, not_or] at h;have ha : (a == (32 : UInt8)) = false := by rw [beq_eq_false_iff_ne]; exact fun e => h.1 e.symm
  simp only [List.nil_append, fp4, List.isPrefixOf, ha, fi6];rfl
 | a :: U, b :: w, t, h, h' => by
  simp only [fh7, not_or] at h h';simp only [fp4, List.isPrefixOf];rw [di2 U w t h.2 h'.2];rfl
theorem di3 (U : List UInt8) (hU : (32 : UInt8) ∉ U) : ∀ ws : List (List UInt8), (∀ w ∈ ws, (32 : UInt8) ∉ w) → Lib.contains (dh8 ws) (32 :: (U ++ [32])) = ws.any fun w => U == w
 | [], _ => by
  have : (32 :: (U ++ [32])).isPrefixOf [(32 : UInt8)] = false := by cases U <;> simp [List.isPrefixOf]
  rw [dh8, di0, this];simp [Lib.contains, Lib.index]
 | w :: r, h => by
  obtain ⟨t, ht⟩ := dh9 r;have ih := di3 U hU r fun x hx => h x (by simp [hx])
  rw [dh8, di0, di1 _ w _ (h w (by simp)), ih, List.any_cons];congr 1;rw [ht];show ((32 : UInt8) == 32 && (U ++ [32]).isPrefixOf (w ++ 32 :: t)) = _;rw [di2 U w t hU (h w (by simp))];rfl
attribute [local irreducible] Ev EvO EvS aw0 an2 SGo go
def isS (s : ByteArray) (t : ByteArray) : Bool := s.toList == t.toList
def di4 (s : ByteArray) : Bool := isS s ⟨#[105, 100]⟩ || (isS s ⟨#[116, 121, 112, 101]⟩ || (isS s ⟨#[108, 97, 98, 101, 108, 115]⟩ || (isS s ⟨#[115, 105, 122, 101]⟩ || (isS s ⟨#[108, 101, 110, 103, 116, 104]⟩ || (isS s ⟨#[110, 111, 100, 101, 115]⟩ ||
 (isS s ⟨#[101, 100, 103, 101, 115]⟩ || (isS s ⟨#[102, 105, 114, 115, 116]⟩ || (isS s ⟨#[108, 97, 115, 116]⟩ || (isS s ⟨#[115, 116, 97, 114, 116]⟩ || (isS s ⟨#[101, 110, 100]⟩ || (isS s ⟨#[97, 98, 115]⟩ || isS s ⟨#[116, 101, 120, 116]⟩)))))))))))
def di5 (s : ByteArray) : Bool := isS s ⟨#[99, 111, 97, 108, 101, 115, 99, 101]⟩
def di6 (s : ByteArray) : Int := bif di4 s then 1 else bif di5 s then 2 else 0
def di7 (s : ByteArray) : Int := bif di4 s then 1 else bif di5 s then 4 else 0
def di8 (s : ByteArray) : Bool := isS s ⟨#[99, 111, 117, 110, 116]⟩ || (isS s ⟨#[115, 117, 109]⟩ || (isS s ⟨#[109, 105, 110]⟩ || (isS s ⟨#[109, 97, 120]⟩ || (isS s ⟨#[97, 118, 103]⟩ || isS s ⟨#[99, 111, 108, 108, 101, 99, 116]⟩))))
theorem di9 (s : ByteArray) : Ev E 142 [.str s] (.tup [.int (di6 s), .int (di7 s)]) := by
 refine ye1 func142 ntmps142 fun _ _ _=>?_
 repeat' (first | refine yz ?_ | (refine qV rfl ?_ ?_ <;> intro _))
 all_goals simp_all [di6, di7, di4, di5, isS, fn7]
theorem dj0 (s : ByteArray) : Ev E 95 [.str s] (.tup [.int (di6 s), .int (di7 s)]) := by
 refine ye1 func95 ntmps95 fun _ _ _=>?_
 repeat' (first | refine yz ?_ | (refine qV rfl ?_ ?_ <;> intro _))
 all_goals simp_all [di6, di7, di4, di5, isS, fn7]
theorem dj1 (s : ByteArray) : Ev E 146 [.str s] (.d (.bool (di8 s))) := by
 refine ye1 func146 ntmps146 fun _ _ _=>?_
 repeat' (first | refine yz ?_ | (refine qV rfl ?_ ?_ <;> intro _))
 all_goals (refine congrArg D.bool ?_; simp_all [di8, isS])
theorem dj2 (s : ByteArray) : Ev E 94 [.str s] (.d (.bool (di8 s))) := by
 refine ye1 func94 ntmps94 fun _ _ _=>?_
 repeat' (first | refine yz ?_ | (refine qV rfl ?_ ?_ <;> intro _))
 all_goals (refine congrArg D.bool ?_; simp_all [di8, isS])
def dj3 (v : V) : Bool := v.k == 0 && (v.n == 0 && (v.d == 0 && (s0 v.s && l0 v)))
theorem dj4 (v : V) : Ev E 143 [enc v] (.d (.bool (dj3 v))) := by
 refine ye1 func143 ntmps143 fun _ _ _=>?_
 repeat' (first | refine yz ?_ | (refine yy ?_ ?_ <;> intro _))
 all_goals (refine congrArg D.bool ?_; simp_all [dj3, s0, l0])
theorem dj5 (v : V) : Ev E 92 [enc v] (.d (.bool (dj3 v))) := by
 refine ye1 func92 ntmps92 fun _ _ _=>?_
 repeat' (first | refine yz ?_ | (refine yy ?_ ?_ <;> intro _))
 all_goals (refine congrArg D.bool ?_; simp_all [dj3, s0, l0])
def kn0 (e : Ex) : Int := ((df8 e).length : Int)
def dj6 (e : Ex) : Bool :=
 bif e.op == 1 || e.op == 2 then kn0 e == 0 else
 bif e.op == 3 || (e.op == 4 || (e.op == 5 || (e.op == 6 || e.op == 21))) then kn0 e == 1 else
 bif e.op == 22 then decide (kn0 e ≤ 16) else
 bif e.op == 23 then di6 e.nm == 0 || (decide (kn0 e ≥ di6 e.nm) && decide (kn0 e ≤ di7 e.nm)) else
 bif e.op == 24 then kn0 e == 1 || (kn0 e == 0 && (isS e.nm ⟨#[99, 111, 117, 110, 116]⟩ && !e.ds)) else kn0 e == 2
theorem dj7 (s : ByteArray) : (di7 s == 0) = (di6 s == 0) := by
 unfold di7 di6
 cases di4 s <;> cases di5 s <;> rfl
theorem dj8 (e : Ex) : Ev E 80 [dg0 e] (.d (.bool (dj6 e))) := by
 have ha := di9 e.nm;refine ye1 func80 ntmps80 fun _ _ _=>?_
 repeat' (first | refine yz ?_ | refine yp b142 ha ?_ | (refine yy ?_ ?_ <;> intro _) | (refine qV rfl ?_ ?_ <;> intro _))
 all_goals (refine congrArg D.bool ?_; simp_all [dj6, kn0, isS, fn7] <;> first | rfl | (intro h; exfalso; omega) | (rw [show (di6 e.nm == 0) = false by rw [beq_eq_false_iff_ne]; assumption]; rfl))
theorem dj9 (e : Ex) : Ev E 90 [dg0 e] (.d (.bool (dj6 e))) := by
 have ha := dj0 e.nm;have hz := dj7 e.nm;refine ye1 func90 ntmps90 fun _ _ _=>?_
 repeat' (first | refine yz ?_ | refine yp b95 ha ?_ | (refine yy ?_ ?_ <;> intro _) | (refine qV rfl ?_ ?_ <;> intro _))
 all_goals (refine congrArg D.bool ?_; simp_all [dj6, kn0, isS, fn7] <;> first | rfl | (intro h; exfalso; omega) | (rw [show (di6 e.nm == 0) = false by rw [beq_eq_false_iff_ne]; assumption]; rfl))
def dk0 (op : Int) : Bool := op == 2 || (op == 3 || (op == 4 || (op == 23 || op == 24)))
theorem dk1 (op : Int) : Ev E 91 [.int op] (.d (.bool (dk0 op))) := by
 refine ye1 func91 ntmps91 fun _ _ _=>?_
 repeat' (first | refine yz ?_ | (refine yy ?_ ?_ <;> intro _))
 all_goals (refine congrArg D.bool ?_; simp_all [dk0] <;> (rw [fm3]; simp [*]))
def dk2 (e : Ex) : Bool := (e.op == 1 || dj3 e.v) && ((dk0 e.op || isS e.nm ⟨#[]⟩) && (e.op == 24 || !e.ds))
theorem dk3 (e : Ex) : Ev E 81 [dg0 e] (.d (.bool (dk2 e))) := by
 have hb := dj4 e.v;refine ye1 func81 ntmps81 fun _ _ _=>?_
 repeat' (first | refine yz ?_ | refine yp b143 hb ?_ | refine yx ?_ | (refine yy ?_ ?_ <;> intro _))
 all_goals (refine congrArg D.bool ?_; simp_all [dk2, dk0, isS])
def dk4 (v : V) : Bool := dj3 v || ((v.k == 1 || (v.k == 2 || v.k == 4)) && Val.okV v)
theorem dk5 (v : V) : Ev E 82 [enc v] (.d (.bool (dk4 v))) := by
 have hb := dj4 v;have hv := ce8 cg4 v;refine ye1 func82 ntmps82 fun _ _ _=>?_
 repeat' (first | refine yz ?_ | refine yp b143 hb ?_ | refine yp br8 hv ?_ | (refine yy ?_ ?_ <;> intro _))
 all_goals (refine congrArg D.bool ?_; simp_all [dk4])
mutual
def nd : Ex → Nat
 | .mk _ _ _ _ l => ndL l + 1
def ndL : List Ex → Nat
 | [] => 0
 | x :: r => nd x + ndL r
end
theorem dk6 (e : Ex) : nd e = ndL e.ks + 1 := by cases e; simp [nd, Ex.ks]
theorem dk7 : ∀ {l : List Ex} {x : Ex}, x ∈ l → nd x ≤ ndL l
 | [], x, h => by simp at h
 | y :: r, x, h => by
  simp only [ndL];rcases fh7.1 h with e | e
  ·rw [e]; omega
  ·have := dk7 e; omega
theorem dk8 {l : List Ex} {i : Nat} {x : Ex} (h : l[i]? = some x) : ndL (l.drop i) = nd x + ndL (l.drop (i + 1)) := by
 rw [cd5 h]; rfl
structure SNd (l : List Ex) where
 i : Nat
 n : Nat
 hi : i ≤ l.length
 ok : ndL l + 1 = n + ndL (l.drop i)
theorem dk9 (e : Ex) : nd e ≤ 1000000 → Ev E 47 [dg0 e] (.d (.int (nd e))) := by
 refine dg9 (P := fun e => nd e ≤ 1000000 → Ev E 47 [dg0 e] (.d (.int (nd e)))) (fun op v nm ds ks ih hb => ?_) e;refine Ev.fit fun hfit => ?_
 obtain ⟨-, -, -, hmax, -⟩ := dg7 (hfit (dg0 (.mk op v nm ds ks)) (by simp));simp only [Ex.ks] at hmax;have hlen : (df8 (.mk op v nm ds ks)).length = ks.length := dg5 _;have hnd : nd (.mk op v nm ds ks) = ndL ks + 1 := dk6 _;rw [hnd] at hb ⊢;refine ye1 func47 ntmps47 fun _ _ _=>?_
 repeat' (refine yz ?_)
 refine ac7 (α := SNd ks) (fun p => ⟨[(3, .d (.int p.n)), (7, .d (.sl (df8 (.mk op v nm ds ks)))), (8, .d (.int (df8 (.mk op v nm ds ks)).length)), (9, .d (.int p.i))], []⟩) (fun p => ks.length - p.i) ⟨0, 1, by omega, by rw [fm6]; omega⟩ (zle 0) ?_;rintro ⟨i, n, hi, ok⟩;dsimp only;rcases fg7 i ks.length with hlt | hge
 ·have hd1 : decide ((i : Int) < ((df8 (.mk op v nm ds ks)).length : Int)) = true := by rw [hlen]; simpa using hlt
  have hx0 := fg5 hlt;generalize ks[i] = x at hx0;have hx : (df8 (.mk op v nm ds ks))[(i : Int).toNat]? = some (dg0 x) := dg3 (e := .mk op v nm ds ks) (by rw [fh0]; exact hx0);have hdr := dk8 hx0;have hm := dk7 (fg9 hx0);have hs := ih x (fg9 hx0) (by omega)
  repeat' (first | refine yz ?_ | refine yi (dg0 x) hx ?_ | refine yp b47 hs ?_)
  refine ac1 ?_;refine ⟨⟨i + 1, n + nd x, by omega, by omega⟩, by dsimp only; omega, ?_⟩;dsimp only;rw [Int.natCast_add];exact (zle 0)
 ·have hd1 : decide ((i : Int) < ((df8 (.mk op v nm ds ks)).length : Int)) = false := by rw [hlen]; simp; omega
  have : ks.drop i = [] := fh6 hge;rw [ok, this]
  repeat' (first | refine yz ?_ | exact zD)
theorem dl0 (e : Ex) : nd e ≤ 1000000 → Ev E 32 [dg0 e] (.d (.int (nd e))) := by
 refine dg9 (P := fun e => nd e ≤ 1000000 → Ev E 32 [dg0 e] (.d (.int (nd e)))) (fun op v nm ds ks ih hb => ?_) e;refine Ev.fit fun hfit => ?_
 obtain ⟨-, -, -, hmax, -⟩ := dg7 (hfit (dg0 (.mk op v nm ds ks)) (by simp));simp only [Ex.ks] at hmax;have hlen : (df8 (.mk op v nm ds ks)).length = ks.length := dg5 _;have hnd : nd (.mk op v nm ds ks) = ndL ks + 1 := dk6 _;rw [hnd] at hb ⊢;refine ye1 func32 ntmps32 fun _ _ _=>?_
 repeat' (refine yz ?_)
 refine ac7 (α := SNd ks) (fun p => ⟨[(1, .ptr 0 0), (3, .d (.int p.n)), (4, .d (.int p.i))], [.var 27 (.w (.d (dg0 (.mk op v nm ds ks))))]⟩) (fun p => ks.length - p.i) ⟨0, 1, by omega, by rw [fm6]; omega⟩ (zle 1) ?_;rintro ⟨i, n, hi, ok⟩;dsimp only;rcases fg7 i ks.length with hlt | hge
 ·have hd1 : decide ((i : Int) < ((df8 (.mk op v nm ds ks)).length : Int)) = true := by rw [hlen]; simpa using hlt
  have hx0 := fg5 hlt;generalize ks[i] = x at hx0;have hx : (df8 (.mk op v nm ds ks))[(i : Int).toNat]? = some (dg0 x) := dg3 (e := .mk op v nm ds ks) (by rw [fh0]; exact hx0);have hdr := dk8 hx0;have hm := dk7 (fg9 hx0);have hs := ih x (fg9 hx0) (by omega)
  repeat' (first | refine yz ?_ | refine yi (dg0 x) hx ?_ | refine yp b32 hs ?_)
  refine ac1 ?_;refine ⟨⟨i + 1, n + nd x, by omega, by omega⟩, by dsimp only; omega, ?_⟩;dsimp only;rw [Int.natCast_add];exact (zle 1)
 ·have hd1 : decide ((i : Int) < ((df8 (.mk op v nm ds ks)).length : Int)) = false := by rw [hlen]; simp; omega
  have : ks.drop i = [] := fh6 hge;rw [ok, this]
  repeat' (first | refine yz ?_ | exact zD)
end Go.Proofs.YtibfalecohlngaaGreatDoor
namespace Go.Proofs.YtibfalecohlngaaGreatDoor
set_option maxRecDepth 4000
open Go Go.Abs Go.Val Go.Proofs.Tryz
attribute [local irreducible] go SGo an2 Ev aw0 EvO EvS
mutual
def dp : Ex → Nat
 | .mk _ _ _ _ l => dpL l + 1
def dpL : List Ex → Nat
 | [] => 0
 | x :: r => max (dp x) (dpL r)
end
theorem dl1 (e : Ex) : dp e = dpL e.ks + 1 := by cases e; simp [dp, Ex.ks]
theorem dl2 : ∀ {l : List Ex} {x : Ex}, x ∈ l → dp x ≤ dpL l
 | [], x, h => by simp at h
 | y :: r, x, h => by
  simp only [dpL];rcases fh7.1 h with e | e
  ·rw [e]; omega
  ·have := dl2 e; omega
theorem dl3 {l : List Ex} {i : Nat} {x : Ex} (h : l[i]? = some x) : dpL (l.drop i) = max (dp x) (dpL (l.drop (i + 1))) := by
 rw [cd5 h]; rfl
structure SDp (l : List Ex) where
 i : Nat
 n : Nat
 hi : i ≤ l.length
 ok : dpL l = max n (dpL (l.drop i))
theorem dl4 (e : Ex) : dp e ≤ 1000000 → Ev E 31 [dg0 e] (.d (.int (dp e))) := by
 refine dg9 (P := fun e => dp e ≤ 1000000 → Ev E 31 [dg0 e] (.d (.int (dp e)))) (fun op v nm ds ks ih hb => ?_) e;refine Ev.fit fun hfit => ?_
 obtain ⟨-, -, -, hmax, -⟩ := dg7 (hfit (dg0 (.mk op v nm ds ks)) (by simp));simp only [Ex.ks] at hmax;have hlen : (df8 (.mk op v nm ds ks)).length = ks.length := dg5 _;have hnd : dp (.mk op v nm ds ks) = dpL ks + 1 := dl1 _;rw [hnd] at hb ⊢;refine ye1 func31 ntmps31 fun _ _ _=>?_
 repeat' (refine yz ?_)
 refine ac7 (α := SDp ks) (fun p => ⟨[(1, .ptr 0 0), (3, .d (.int p.n)), (4, .d (.int p.i))], [.var 27 (.w (.d (dg0 (.mk op v nm ds ks))))]⟩) (fun p => ks.length - p.i) ⟨0, 0, by omega, by rw [fm6]; omega⟩ (zle 1) ?_;rintro ⟨i, n, hi, ok⟩;dsimp only;rcases fg7 i ks.length with hlt | hge
 ·have hd1 : decide ((i : Int) < ((df8 (.mk op v nm ds ks)).length : Int)) = true := by rw [hlen]; simpa using hlt
  have hx0 := fg5 hlt;generalize ks[i] = x at hx0;have hx : (df8 (.mk op v nm ds ks))[(i : Int).toNat]? = some (dg0 x) := dg3 (e := .mk op v nm ds ks) (by rw [fh0]; exact hx0);have hdr := dl3 hx0;have hm := dl2 (fg9 hx0);have hs := ih x (fg9 hx0) (by omega)
  cases hgt : decide ((dp x : Int) > (n : Int)) with
  | true =>
   have hgt' := of_decide_eq_true hgt
   repeat' (first | refine yz ?_ | refine yi (dg0 x) hx ?_ | refine yp b31 hs ?_)
   refine ac1 ?_;exact ⟨⟨i + 1, dp x, by omega, by omega⟩, by dsimp only; omega, (zle 1)⟩
  | false =>
   have hgt' := of_decide_eq_false hgt
   repeat' (first | refine yz ?_ | refine yi (dg0 x) hx ?_ | refine yp b31 hs ?_)
   refine ac1 ?_;exact ⟨⟨i + 1, n, by omega, by omega⟩, by dsimp only; omega, (zle 1)⟩
 ·have hd1 : decide ((i : Int) < ((df8 (.mk op v nm ds ks)).length : Int)) = false := by rw [hlen]; simp; omega
  have : ks.drop i = [] := fh6 hge;have hn : n = dpL ks := by rw [ok, this]; simp [dpL]
  subst hn
  repeat' (first | refine yz ?_ | exact zD)
theorem dl5 (e : Ex) : dp e ≤ 1000000 → Ev E 46 [dg0 e] (.d (.int (dp e))) := by
 refine dg9 (P := fun e => dp e ≤ 1000000 → Ev E 46 [dg0 e] (.d (.int (dp e)))) (fun op v nm ds ks ih hb => ?_) e;refine Ev.fit fun hfit => ?_
 obtain ⟨-, -, -, hmax, -⟩ := dg7 (hfit (dg0 (.mk op v nm ds ks)) (by simp));simp only [Ex.ks] at hmax;have hlen : (df8 (.mk op v nm ds ks)).length = ks.length := dg5 _;have hnd : dp (.mk op v nm ds ks) = dpL ks + 1 := dl1 _;rw [hnd] at hb ⊢;refine ye1 func46 ntmps46 fun _ _ _=>?_
 repeat' (refine yz ?_)
 refine ac7 (α := SDp ks) (fun p => ⟨[(3, .d (.int p.n)), (7, .d (.sl (df8 (.mk op v nm ds ks)))), (8, .d (.int (df8 (.mk op v nm ds ks)).length)), (9, .d (.int p.i))], []⟩) (fun p => ks.length - p.i) ⟨0, 0, by omega, by rw [fm6]; omega⟩ (zle 0) ?_;rintro ⟨i, n, hi, ok⟩;dsimp only;rcases fg7 i ks.length with hlt | hge
 ·have hd1 : decide ((i : Int) < ((df8 (.mk op v nm ds ks)).length : Int)) = true := by rw [hlen]; simpa using hlt
  have hx0 := fg5 hlt;generalize ks[i] = x at hx0;have hx : (df8 (.mk op v nm ds ks))[(i : Int).toNat]? = some (dg0 x) := dg3 (e := .mk op v nm ds ks) (by rw [fh0]; exact hx0);have hdr := dl3 hx0;have hm := dl2 (fg9 hx0);have hs := ih x (fg9 hx0) (by omega)
  repeat' (first | refine yz ?_ | refine yi (dg0 x) hx ?_ | refine yp b46 hs ?_)
  refine ac1 ?_;refine ⟨⟨i + 1, max n (dp x), by omega, by omega⟩, by dsimp only; omega, ?_⟩;dsimp only;rw [show ((max n (dp x) : Nat) : Int) = max (n : Int) (dp x : Int) by omega];exact (zle 0)
 ·have hd1 : decide ((i : Int) < ((df8 (.mk op v nm ds ks)).length : Int)) = false := by rw [hlen]; simp; omega
  have : ks.drop i = [] := fh6 hge;have hn : n = dpL ks := by rw [ok, this]; simp [dpL]
  subst hn
  repeat' (first | refine yz ?_ | exact zD)
end Go.Proofs.YtibfalecohlngaaGreatDoor
namespace Go.Proofs.YtibfalecohlngaaGreatDoor
set_option maxRecDepth 4000
open Go Go.Abs Go.Val Go.RowKit Go.Proofs.Tryz
attribute [local irreducible] go SGo an2 Ev aw0 EvO EvS
theorem dl6 (i : Nat) : Nat.blt i i = false := by
 cases h : Nat.blt i i with
 | false => rfl
 | true => simp at h
def upN (n : Int) : Int := bif decide (n ≥ 97) && decide (n ≤ 122) then n - 32 else n
def dl7 (s : ByteArray) (i : Nat) : List D := (List.range s.size).map fun j => D.imm (.int .u8 (bif Nat.blt j i then upN (ag0 s j) else ag0 s j))
def upL (s : ByteArray) (i : Nat) : List Int := (List.range i).map fun j => upN (ag0 s j)
def upF (s : ByteArray) : ByteArray := Go.Abs.strOf (upL s s.size)
theorem dl8 (s : ByteArray) (i : Nat) : (upL s i).length = i := by simp [upL]
theorem dl9 (s : ByteArray) (i : Nat) : upL s (i + 1) = upL s i ++ [upN (ag0 s i)] := by simp [upL, List.range_succ]
theorem dm0 (s : ByteArray) (i : Nat) : (dl7 s i).length = s.size := by simp [dl7]
theorem dm1 {s : ByteArray} {i j : Nat} (h : j < s.size) : (dl7 s i)[j]? = some (D.imm (.int .u8 (bif Nat.blt j i then upN (ag0 s j) else ag0 s j))) := by
 rw [dl7, fh1, fm9 h]; rfl
theorem dm2 (s : ByteArray) : dl7 s 0 = bd7 s := by
 refine fn0 fun j => ?_
 rcases fg7 j s.size with h | h
 ·rw [dm1 h, be0 h]; rfl
 ·rw [fj9 (by rw [dm0]; exact h), fj9 (by rw [bd8]; exact h)]
theorem dm3 {s : ByteArray} {i : Nat} (h : i < s.size) : (dl7 s i).set i (.imm (.int .u8 (upN (ag0 s i)))) = dl7 s (i + 1) := by
 refine fn0 fun j => ?_
 rcases fg7 j s.size with hj | hj
 ·rw [fk3, dm1 hj, dm1 hj]
  by_cases e : i = j
  ·subst e;rw [if_pos rfl, if_pos (by rw [dm0]; exact h), show Nat.blt i (i + 1) = true by simp];rfl
  ·rw [if_neg e];have : Nat.blt j (i + 1) = Nat.blt j i := by rw [fm3]; simp; omega
   rw [this]
 ·rw [fj9 (by rw [List.length_set, dm0]; exact hj), fj9 (by rw [dm0]; exact hj)]
theorem dm4 {s : ByteArray} {i : Nat} (h : i < s.size) (hn : upN (ag0 s i) = ag0 s i) : dl7 s i = dl7 s (i + 1) := by
 rw [← dm3 h, hn];refine fn0 fun j => ?_
 rw [fk3]
 by_cases e : i = j
 ·subst e;rw [if_pos rfl, if_pos (by rw [dm0]; exact h), dm1 h, dl6];rfl
 ·rw [if_neg e]
theorem dm5 (s : ByteArray) : dl7 s s.size = (upL s s.size).map fun n => .imm (.int .u8 n) := by
 refine fn0 fun j => ?_
 rcases fg7 j s.size with hj | hj
 ·rw [dm1 hj, upL, List.map_map, fh1, fm9 hj, show Nat.blt j s.size = true by simpa using hj];rfl
 ·rw [fj9 (by rw [dm0]; exact hj), fj9 (by rw [fj8, dl8]; exact hj)]
theorem dm6 (ns : List Int) (n : Int) : Go.Abs.strOf (ns ++ [n]) = Go.Abs.strOf ns ++ Go.Abs.strOf [n] := by
 unfold Go.Abs.strOf;rw [List.foldl_append];simp only [fo7, List.foldl_nil];apply ByteArray.ext;simp [ByteArray.push]
structure SUp (s : ByteArray) where
 i : Nat
 hi : i ≤ s.size
set_option maxHeartbeats 1000000 in
theorem dm7 (s : ByteArray) : Ev E 249 [.str s] (.d (.str (upF s))) := Ev.fit fun hfit => by
 have hs := (hfit (.str s) (by simp)).str;have hlen : (bd7 s).length = s.size := bd8 s;refine ye1 func249 ntmps249 fun _ _ _=>?_
 repeat' (first | refine yz ?_ | refine be6 rfl rfl rfl rfl rfl rfl rfl rfl ?_)
 rw [hlen, ← dm2];refine ac7 (α := SUp s) (fun p => ⟨[(3, .own 0), (8, .own 0), (9, .d (.int s.size)), (10, .d (.int p.i))], [.mrow 5 1 (dl7 s p.i)]⟩) (fun p => s.size - p.i) ⟨0, by omega⟩ (zle 1) ?_;rintro ⟨i, hi⟩;dsimp only;have hrl := dm0 s i;rcases fg7 i s.size with hlt | hge
 ·have hd1 : decide ((i : Int) < (s.size : Int)) = true := by simpa using hlt
  have hti : (i : Int).toNat = i := fh0 i;have hx : (dl7 s i)[(i : Int).toNat]? = some (.imm (.int .u8 (ag0 s i))) := by rw [hti, dm1 hlt, dl6]; rfl
  have hb := dh5 s i hlt
  cases h1 : decide (ag0 s i ≥ 97) with
  | false =>
   have hn : upN (ag0 s i) = ag0 s i := by unfold upN; rw [h1]; rfl
   repeat' (first | refine yz ?_ | refine be9 rfl rfl rfl rfl rfl rfl rfl rfl (by constructor <;> first | omega | (simp; omega) | decide) ?_ | refine bf0 _ rfl rfl rfl rfl rfl rfl hx rfl ?_ | refine yx ?_)
   refine ac1 ?_;refine ⟨⟨i + 1, by omega⟩, by dsimp only; omega, ?_⟩;rw [dm4 hlt hn];exact (zle 1)
  | true =>
   cases h2 : decide (ag0 s i ≤ 122) with
   | false =>
    have hn : upN (ag0 s i) = ag0 s i := by unfold upN; rw [h1, h2]; rfl
    repeat' (first | refine yz ?_ | refine be9 rfl rfl rfl rfl rfl rfl rfl rfl (by constructor <;> first | omega | (simp; omega) | decide) ?_ | refine bf0 _ rfl rfl rfl rfl rfl rfl hx rfl ?_ | refine yx ?_)
    refine ac1 ?_;refine ⟨⟨i + 1, by omega⟩, by dsimp only; omega, ?_⟩;rw [dm4 hlt hn];exact (zle 1)
   | true =>
    have h1' := of_decide_eq_true h1;have h2' := of_decide_eq_true h2;have hn : ag0 s i - 97 + 65 = upN (ag0 s i) := by unfold upN; rw [h1, h2]; simp; omega
    repeat' (first | refine yz ?_ | refine be9 rfl rfl rfl rfl rfl rfl rfl rfl (by constructor <;> first | omega | (simp; omega) | decide) ?_ | refine bf0 _ rfl rfl rfl rfl rfl rfl hx rfl ?_ | refine bf1 _ rfl rfl rfl rfl rfl rfl hx rfl rfl rfl ?_ | refine yx ?_)
    refine ac1 ?_;refine ⟨⟨i + 1, by omega⟩, by dsimp only; omega, ?_⟩;rw [hti, hn, dm3 hlt];exact (zle 1)
 ·have hd1 : decide ((i : Int) < (s.size : Int)) = false := by simp; omega
  obtain rfl : i = s.size := by omega
  repeat' (refine yz ?_)
  refine be7 0 rfl ?_;dsimp only [ar8, ar7];have he := dm5 s
  repeat' (first | refine yz ?_ | refine be8 (upL s s.size) rfl rfl rfl rfl rfl rfl rfl rfl he ?_ | exact zD)
set_option maxHeartbeats 1000000 in
theorem dm8 (s : ByteArray) : Ev E 216 [.str s] (.d (.str (upF s))) := Ev.fit fun hfit => by
 have hs := (hfit (.str s) (by simp)).str;refine ye1 func216 ntmps216 fun _ _ _=>?_
 repeat' (refine yz ?_)
 refine ac7 (α := SUp s) (fun p => ⟨[(0, .d (.str s)), (3, .d (.str (Go.Abs.strOf (upL s p.i)))), (4, .d (.int p.i))], []⟩) (fun p => s.size - p.i) ⟨0, by omega⟩ (zle 0) ?_;rintro ⟨i, hi⟩;dsimp only;have hz : (Go.Abs.strOf (upL s i)).size = i := by rw [at2, dl8]
 rcases fg7 i s.size with hlt | hge
 ·have hd1 : decide ((i : Int) < (s.size : Int)) = true := by simpa using hlt
  have hti : (i : Int).toNat = i := fh0 i;have hb := dh5 s i hlt;rw [← hti] at hb;have hz1 : ∀ n, (Go.Abs.strOf [n]).size = 1 := fun n => at2 [n]
  have e1 : Go.Abs.strOf (upL s (i + 1)) = Go.Abs.strOf (upL s i) ++ Go.Abs.strOf [upN (ag0 s (i : Int).toNat)] := by rw [dl9, dm6, hti]
  cases h1 : decide (ag0 s (i : Int).toNat ≥ 97) with
  | false =>
   have hn : upN (ag0 s (i : Int).toNat) = ag0 s (i : Int).toNat := by unfold upN; rw [h1]; rfl
   have hz2 := hz1 (ag0 s (i : Int).toNat)
   repeat' (first | refine yz ?_ | refine yx ?_)
   refine ac1 ?_;refine ⟨⟨i + 1, by omega⟩, by dsimp only; omega, ?_⟩;dsimp only;rw [e1, hn];exact (zle 0)
  | true =>
   cases h2 : decide (ag0 s (i : Int).toNat ≤ 122) with
   | false =>
    have hn : upN (ag0 s (i : Int).toNat) = ag0 s (i : Int).toNat := by unfold upN; rw [h1, h2]; rfl
    have hz2 := hz1 (ag0 s (i : Int).toNat)
    repeat' (first | refine yz ?_ | refine yx ?_)
    refine ac1 ?_;refine ⟨⟨i + 1, by omega⟩, by dsimp only; omega, ?_⟩;dsimp only;rw [e1, hn];exact (zle 0)
   | true =>
    have h1' := of_decide_eq_true h1;have h2' := of_decide_eq_true h2;have hn : upN (ag0 s (i : Int).toNat) = ag0 s (i : Int).toNat - 32 := by unfold upN; rw [h1, h2]; rfl
    have hz2 := hz1 (ag0 s (i : Int).toNat - 32)
    repeat' (first | refine yz ?_ | refine yx ?_)
    refine ac1 ?_;refine ⟨⟨i + 1, by omega⟩, by dsimp only; omega, ?_⟩;dsimp only;rw [e1, hn];exact (zle 0)
 ·have hd1 : decide ((i : Int) < (s.size : Int)) = false := by simp; omega
  obtain rfl : i = s.size := by omega
  repeat' (first | refine yz ?_ | exact zD)
def dm9 : List ByteArray := [⟨#[77, 65, 84, 67, 72]⟩, ⟨#[79, 80, 84, 73, 79, 78, 65, 76]⟩, ⟨#[87, 72, 69, 82, 69]⟩, ⟨#[85, 78, 87, 73, 78, 68]⟩, ⟨#[65, 83]⟩, ⟨#[87, 73, 84, 72]⟩, ⟨#[68, 73, 83, 84, 73, 78, 67, 84]⟩, ⟨#[79, 82, 68, 69, 82]⟩, ⟨#[66, 89]⟩, ⟨#[65, 83, 67]⟩, ⟨#[68, 69, 83, 67]⟩, ⟨#[83, 75, 73, 80]⟩, ⟨#[76, 73, 77, 73, 84]⟩, ⟨#[82, 69, 84, 85, 82, 78]⟩, ⟨#[67, 82, 69, 65, 84, 69]⟩, ⟨#[77, 69, 82, 71, 69]⟩, ⟨#[83, 69, 84]⟩, ⟨#[82, 69, 77, 79, 86, 69]⟩, ⟨#[68, 69, 76, 69, 84, 69]⟩, ⟨#[68, 69, 84, 65, 67, 72]⟩, ⟨#[65, 78, 68]⟩, ⟨#[79, 82]⟩, ⟨#[78, 79, 84]⟩, ⟨#[73, 78]⟩, ⟨#[73, 83]⟩, ⟨#[78, 85, 76, 76]⟩, ⟨#[84, 82, 85, 69]⟩, ⟨#[70, 65, 76, 83, 69]⟩, ⟨#[87, 65, 76, 75]⟩, ⟨#[84, 82, 65, 73, 76]⟩, ⟨#[83, 73, 77, 80, 76, 69]⟩, ⟨#[83, 72, 79, 82, 84, 69, 83, 84]⟩, ⟨#[65, 78, 89]⟩]
def dn0 (s : ByteArray) : Bool := dm9.any fun w => w.toList == (upF s).toList
theorem dn1 : Ev E 217 [] (.d (.sl (dm9.map .str))) := by
 refine ap5 func217 ntmps217 rfl rfl fun w0 F0 O => ?_
 repeat' (first | refine yz ?_ | exact zD)
structure SWd (u : ByteArray) where
 i : Nat
 hi : i ≤ dm9.length
 ok : (dm9.any fun w => w.toList == u.toList) = ((dm9.drop i).any fun w => w.toList == u.toList)
theorem dn2 (s : ByteArray) : Ev E 161 [.str s] (.d (.bool (dn0 s))) := by
 have h1 := dm8 s;have h2 := dn1;unfold dn0;have hwl : dm9.length = 33 := rfl;have h33 : (dm9.map D.str).length = dm9.length := by rw [fj8]
 generalize hw : dm9.map D.str = ws at *;generalize upF s = u at *;refine ye1 func161 ntmps161 fun _ _ _=>?_
 repeat' (first | refine yz ?_ | refine yp b216 h1 ?_ | refine yp b217 h2 ?_)
 refine ac7 (α := SWd u) (fun p => ⟨[(3, .d (.str u)), (4, .d (.sl ws)), (5, .d (.int p.i))], []⟩) (fun p => dm9.length - p.i) ⟨0, Nat.zero_le _, rfl⟩ (zle 0) ?_;rintro ⟨i, hi, ok⟩;dsimp only;rcases fg7 i dm9.length with hlt | hge
 ·have hd1 : decide ((i : Int) < (ws.length : Int)) = true := by rw [h33]; simpa using hlt
  have hx0 := fg5 hlt;generalize dm9[i] = x at hx0;have hx : ws[(i : Int).toNat]? = some (.str x) := by rw [← hw, fh0, fh1, hx0]; rfl
  rw [ok, cd5 hx0, List.any_cons]
  cases he : x.toList == u.toList with
  | true =>
   repeat' (first | refine yz ?_ | refine yi (.str x) hx ?_ | exact zD)
  | false =>
   repeat' (first | refine yz ?_ | refine yi (.str x) hx ?_)
   refine ac1 ?_;exact ⟨⟨i + 1, by omega, by rw [ok, cd5 hx0, List.any_cons, he, fj6]⟩, by dsimp only; omega, (zle 0)⟩
 ·have hd1 : decide ((i : Int) < (ws.length : Int)) = false := by rw [h33]; simp; omega
  rw [ok, fh6 hge]
  repeat' (first | refine yz ?_ | exact zD)
def upB (b : UInt8) : UInt8 := UInt8.ofNat (upN b.toNat).toNat
theorem dn3 (ns : List Int) : (Go.Abs.strOf ns).data.toList = ns.map fun n => UInt8.ofNat n.toNat := by
 have key : ∀ (ns : List Int) (r : ByteArray), (ns.foldl (fun r n => r.push (UInt8.ofNat n.toNat)) r).data.toList = r.data.toList ++ ns.map fun n => UInt8.ofNat n.toNat := by
  intro ns
  induction ns with
  | nil => intro r; simp
  | cons n ns ih =>
   intro r;rw [fo7, ih];simp [ByteArray.push]
 have := key ns ByteArray.empty;unfold Go.Abs.strOf;rw [this];simp
theorem dn4 (s : ByteArray) : (upF s).data.toList = s.data.toList.map upB := by
 unfold upF;rw [dn3];refine fn0 fun j => ?_
 have hl : s.data.toList.length = s.size := by simp
 rcases fg7 j s.size with hj | hj
 ·have hx := fg5 (show j < s.data.toList.length by omega);rw [fh1, upL, fh1, fm9 hj, fh1, hx];simp only [fj5, upB, ag0, fm0, hx, fn3]
 ·rw [fj9 (by rw [fj8, dl8]; exact hj), fj9 (by rw [fj8]; omega)]
theorem dn5 (b : UInt8) : upB b = 32 ↔ b = 32 := by
 have key : ∀ c : Fin 256, (upB (UInt8.ofFin c) = 32) = (UInt8.ofFin c = 32) := by
  intro c;revert c;decide +kernel
 have hb : b = UInt8.ofFin b.toFin := by rfl
 rw [hb];exact iff_of_eq (key b.toFin)
theorem dn6 : ∀ l : List UInt8, Lib.contains l [32] = decide ((32 : UInt8) ∈ l)
 | [] => by simp [Lib.contains, Lib.index]
 | b :: l => by
  rw [di0, dn6 l];have : ([32] : List UInt8).isPrefixOf (b :: l) = ((32 : UInt8) == b) := by simp only [List.isPrefixOf, fm4]
  rw [this, fm3, fi1, beq_iff_eq, decide_eq_true_eq, decide_eq_true_eq, fh7]
theorem dn7 (s : ByteArray) : (32 : UInt8) ∈ (upF s).data.toList ↔ (32 : UInt8) ∈ s.data.toList := by
 rw [dn4, fk8];constructor
 ·rintro ⟨b, h1, h2⟩;rw [(dn5 b).1 h2] at h1;exact h1
 ·intro h;exact ⟨32, h, (dn5 32).2 rfl⟩
theorem dn8 : ∀ w ∈ dm9.map (·.data.toList), (32 : UInt8) ∉ w := by
 have : (dm9.map (·.data.toList)).all (fun w => !w.contains 32) = true := by decide
 intro w hw hm;have := fi5.1 this w hw;simp [List.contains_iff_mem] at this;exact this hm
theorem dn9 (U : List UInt8) : ((dm9.map (·.data.toList)).any fun w => U == w) = dm9.any fun w => w.data.toList == U := by
 rw [List.any_map];congr 1
 funext w
 simp only [Function.comp];rw [fm3, beq_iff_eq, beq_iff_eq];exact ⟨fun h => h.symm, fun h => h.symm⟩
theorem do0 (s : ByteArray) : dn0 s = dm9.any fun w => w.data.toList == (upF s).data.toList := by
 unfold dn0;simp only [ByteArray.toList_eq]
theorem do1 (s : ByteArray) (h : Lib.contains s.data.toList [32] = false) : Lib.contains (dh8 (dm9.map (·.data.toList))) (32 :: ((upF s).data.toList ++ [32])) = dn0 s := by
 rw [dn6, decide_eq_false_iff_not] at h;rw [di3 _ (fun hm => h ((dn7 s).1 hm)) _ dn8, dn9, do0]
theorem do2 (s : ByteArray) (h : Lib.contains s.data.toList [32] = true) : dn0 s = false := by
 rw [dn6, decide_eq_true_eq] at h;rw [do0, List.any_eq_false];intro w hw he;have e := eq_of_beq he;refine dn8 _ (fn2 hw) ?_;rw [e];exact (dn7 s).2 h
theorem do3 (s sub : ByteArray) (hs : s.size < 4294967281) : Ev E 248 [.str s, .str sub] (.d (.bool (Lib.contains s.data.toList sub.data.toList))) := by
 refine cf6 rfl fun w F hG _ _ => ?_
 obtain ⟨-, -, m, hm⟩ := hG.2;refine (Tryz.strings_Contains s sub m w hs hm).mono ?_;rintro e w' ⟨rfl, rfl⟩;exact ⟨rfl, Below.refl _ _⟩
theorem do4 (s : ByteArray) : (upF s).size = s.size := by unfold upF; rw [at2, dl8]
set_option maxRecDepth 10000 in
attribute [local irreducible] upF dn0 dh8 dm9 in
theorem do5 (s : ByteArray) (hs : s.size ≤ 1000) : Ev E 194 [.str s] (.d (.bool (dn0 s))) := by
 have hu := dm7 s;have hus := do4 s;have h1 : (⟨#[32]⟩ : ByteArray).size = 1 := rfl;have hc1 := do3 s ⟨#[32]⟩ (by omega)
 cases h0 : !(s.toList == (⟨#[]⟩ : ByteArray).toList) with
 | false =>
  have e : dn0 s = false := by
   rw [do0, dn4];have : s.data.toList = [] := by rw [Bool.not_eq_false', beq_iff_eq, ByteArray.toList_eq, ByteArray.toList_eq] at h0; exact h0
   rw [this];unfold dm9;decide +kernel
  rw [e];refine ye1 func194 ntmps194 fun _ _ _=>?_
  repeat' (first | refine yz ?_ | refine yx ?_ | exact zD)
 | true =>
  cases hb : Lib.contains s.data.toList [32] with
  | true =>
   rw [show (⟨#[32]⟩ : ByteArray).data.toList = [32] from rfl, hb] at hc1;rw [do2 s hb];refine ye1 func194 ntmps194 fun _ _ _=>?_
   repeat' (first | refine yz ?_ | refine yp b248 hc1 ?_ | refine yx ?_ | exact zD)
  | false =>
   rw [show (⟨#[32]⟩ : ByteArray).data.toList = [32] from rfl, hb] at hc1;have hr := do1 s hb;refine ye1 func194 ntmps194 fun _ _ _=>?_
   repeat' (first | refine yz ?_ | refine qP (d := 7) rfl rfl rfl rfl rfl rfl b248 (hc1) ?_ | refine yp b249 hu ?_ | refine qP (d := 15) rfl rfl rfl rfl rfl rfl b248 ((do3 _ _ (by decide +kernel))) ?_ | refine yx ?_)
   rw [show ∀ x, (cond (bif true then !false else false) x false) = x from fun _ => rfl];refine congrArg D.bool (Eq.trans (congr (congrArg Lib.contains ?_) ?_) hr)
   ·unfold dh8 dm9;decide +kernel
   ·simp only [ByteArray.data_append, Array.toList_append];simp
def do6 (s : ByteArray) : Bool := dh1 s && !dn0 s
theorem do7 {s : ByteArray} (h : dh1 s = true) : s.size ≤ 1000 := by
 unfold dh1 at h;simp only [fg6, decide_eq_true_eq] at h;omega
theorem do8 (s : ByteArray) : Ev E 145 [.str s] (.d (.bool (do6 s))) := by
 have h1 := dh6 s;unfold do6
 cases hn : dh1 s with
 | false =>
  rw [hn] at h1;refine ye1 func145 ntmps145 fun _ _ _=>?_
  repeat' (first | refine yz ?_ | refine yp b193 h1 ?_ | exact zD)
 | true =>
  rw [hn] at h1;have h2 := do5 s (do7 hn);refine ye1 func145 ntmps145 fun _ _ _=>?_
  repeat' (first | refine yz ?_ | refine yp b193 h1 ?_ | refine yp b194 h2 ?_ | exact zD)
theorem do9 (s : ByteArray) : Ev E 93 [.str s] (.d (.bool (do6 s))) := by
 have h1 := dh7 s;have h2 := dn2 s;unfold do6
 cases hn : dh1 s with
 | false =>
  rw [hn] at h1;refine ye1 func93 ntmps93 fun _ _ _=>?_
  repeat' (first | refine yz ?_ | refine yp b160 h1 ?_ | exact zD)
 | true =>
  rw [hn] at h1;refine ye1 func93 ntmps93 fun _ _ _=>?_
  repeat' (first | refine yz ?_ | refine yp b160 h1 ?_ | refine yp b161 h2 ?_ | exact zD)
def nlF (e : Ex) : Bool :=
 bif e.op == 2 || (e.op == 3 || e.op == 4) then !do6 e.nm else
 bif e.op == 23 then di6 e.nm == 0 else
 bif e.op == 24 then !di8 e.nm else false
theorem dp0 (e : Ex) : Ev E 83 [dg0 e] (.d (.bool (nlF e))) := by
 have h1 := do8 e.nm;have h2 := di9 e.nm;have h3 := dj1 e.nm;refine ye1 func83 ntmps83 fun _ _ _=>?_
 repeat' (first | refine yz ?_ | refine yp b145 h1 ?_ | refine yp b142 h2 ?_ | refine yp b146 h3 ?_ | (refine qV rfl ?_ ?_ <;> intro _))
 all_goals (refine congrArg D.bool ?_; simp_all [nlF, fn7])
end Go.Proofs.YtibfalecohlngaaGreatDoor
namespace Go.Proofs.YtibfalecohlngaaGreatDoor
set_option maxRecDepth 4000
open Go Go.Abs Go.Val Go.RowKit Go.Proofs.Tryz
attribute [local irreducible] go SGo an2 Ev aw0 EvO EvS
def dp1 (e : Ex) (w : Bool) : Int :=
 bif (decide (e.op < 1) || decide (e.op > 24)) || (!dj6 e || !dk2 e) then 1 else
 bif e.op == 1 && !dk4 e.v then 8 else
 bif nlF e then 6 else
 bif e.op == 24 && w then 9 else 0
mutual
def dp2 : Ex → Bool → Int
 | .mk op v nm ds ks, w => bif dp1 (.mk op v nm ds ks) w != 0 then dp1 (.mk op v nm ds ks) w else dp3 ks (w || op == 24)
def dp3 : List Ex → Bool → Int
 | [], _ => 0
 | x :: r, w => bif dp2 x w != 0 then dp2 x w else dp3 r w
end
theorem dp4 {l : List Ex} {i : Nat} {x : Ex} {w : Bool} (h : l[i]? = some x) : dp3 (l.drop i) w = bif dp2 x w != 0 then dp2 x w else dp3 (l.drop (i + 1)) w := by
 rw [cd5 h, dp3]
structure SVs (l : List Ex) (w : Bool) where
 i : Nat
 hi : i ≤ l.length
 ok : dp3 l w = dp3 (l.drop i) w
theorem dp5 {e : Ex} {w : Bool} (h : dp1 e w = 0) : dp2 e w = dp3 e.ks (w || e.op == 24) := by
 cases e
 rw [dp2, h]; rfl
theorem dp6 {e : Ex} {w : Bool} {c : Int} (h : dp1 e w = c) (hc : (c != 0) = true) : c = dp2 e w := by
 cases e
 rw [dp2, h, hc]; rfl
set_option maxHeartbeats 4000000 in
theorem dp7 (e : Ex) : ∀ w, Ev E 48 [dg0 e, .bool w] (.d (.int (dp2 e w))) := by
 refine dg9 (P := fun e => ∀ w, Ev E 48 [dg0 e, .bool w] (.d (.int (dp2 e w)))) (fun op v nm ds ks ih w => ?_) e;refine Ev.fit fun hfit => ?_
 obtain ⟨-, -, -, hmax, -⟩ := dg7 (hfit (dg0 (.mk op v nm ds ks)) (by simp));have hlen : (df8 (.mk op v nm ds ks)).length = ks.length := dg5 _;have hkg : ∀ (i : Nat) (x : Ex), ks[i]? = some x → (df8 (.mk op v nm ds ks))[(i : Int).toNat]? = some (dg0 x) := fun i x h => dg3 (e := .mk op v nm ds ks) (by rw [fh0]; exact h)
 have hks : Ex.ks (.mk op v nm ds ks) = ks := rfl;generalize Ex.mk op v nm ds ks = e at *;rw [hks] at hmax;have h1 := dj8 e;have h2 := dk3 e;have h3 := dk5 e.v;have h4 := dp0 e;have hsf : ∀ c, (bif (decide (e.op < 1) || decide (e.op > 24)) || (!dj6 e || !dk2 e) then 1 else bif e.op == 1 && !dk4 e.v then 8 else bif nlF e then 6 else bif e.op == 24 && w then 9 else 0) = c → dp1 e w = c := fun c h => h
 have hbad := fun c (h : dp1 e w = c) => dp6 h
 have hok := dp5 (e := e) (w := w);rw [hks] at hok;clear hks;generalize hW : (w || e.op == 24) = W at hok
 cases w
 all_goals
  refine ye2 func48 ntmps48 fun _ _ _=>?_
  repeat' (first | refine yz ?_ | refine yp b80 h1 ?_ | refine yp b81 h2 ?_ | refine yp b82 h3 ?_ | refine yp b83 h4 ?_ | (refine yy ?_ ?_ <;> intro _) | (refine qV rfl ?_ ?_ <;> intro _))
  any_goals (refine congrArg D.int (hbad _ (hsf _ ?_) rfl); clear ih hkg hfit hsf hbad hok h1 h2 h3 h4; simp_all [fn7]; done)
 all_goals
  rw [hok (hsf _ (by clear ih hkg hfit hsf hbad hok h1 h2 h3 h4; simp_all [fn7]))];clear hsf hbad hok h1 h2 h3 h4;refine ac7 (α := SVs ks W) (fun p => ⟨[(1, .d (.bool _)), (2, .ptr 0 0), (44, .d (.sl (df8 e))), (45, .d (.int (df8 e).length)), (46, .d (.int p.i))], [.var 27 (.w (.d (dg0 e)))]⟩) (fun p => ks.length - p.i) ⟨0, by omega, rfl⟩ (zle 1) ?_;rintro ⟨i, hi, ok⟩;dsimp only;rcases fg7 i ks.length with hlt | hge
  ·have hd1 : decide ((i : Int) < ((df8 e).length : Int)) = true := by rw [hlen]; simpa using hlt
   have hx0 := fg5 hlt;generalize ks[i] = x at hx0;have hx := hkg i x hx0;have hv := ih x (fg9 hx0) W;rw [← hW] at hv;rw [ok, dp4 hx0]
   cases hz : dp2 x W != 0 with
   | true =>
    rw [← hW] at hz ⊢
    repeat' (first | refine yz ?_ | refine yi (dg0 x) hx ?_ | refine yp b48 hv ?_ | exact zD)
   | false =>
    rw [← hW] at hz
    repeat' (first | refine yz ?_ | refine yi (dg0 x) hx ?_ | refine yp b48 hv ?_)
    refine ac1 ?_;exact ⟨⟨i + 1, by omega, by rw [ok, dp4 hx0, ← hW, hz]; rfl⟩, by dsimp only; omega, (zle 1)⟩
  ·have hd1 : decide ((i : Int) < ((df8 e).length : Int)) = false := by rw [hlen]; simp; omega
   rw [ok, fh6 hge, dp3]
   repeat' (first | refine yz ?_ | exact zD)
end Go.Proofs.YtibfalecohlngaaGreatDoor
namespace Go.Proofs.YtibfalecohlngaaGreatDoor
set_option maxRecDepth 4000
open Go Go.Abs Go.Val Go.RowKit Go.Proofs.Tryz
attribute [local irreducible] go SGo an2 Ev aw0 EvO EvS
set_option maxHeartbeats 4000000 in
theorem dp8 (e : Ex) (w : Bool) : Ev E 59 [dg0 e, .bool w] (.d (.int (dp1 e w))) := by
 have h1 := dj9 e;have h2 := dj5 e.v;have h3 := ce9 e.v;have h4 := dk1 e.op;have h5 := do9 e.nm;have h6 := dj0 e.nm;have h7 := dj2 e.nm;have hz := dj7 e.nm;generalize hc1 : ((decide (e.op < 1) || decide (e.op > 24)) || (!dj6 e || !dk2 e)) = c1;generalize hc2 : (e.op == 1 && !dk4 e.v) = c2;generalize hc3 : ((bif e.op == 2 || (e.op == 3 || e.op == 4) then !do6 e.nm else bif e.op == 24 then !di8 e.nm else false)) = c3;refine ye2 func59 ntmps59 fun _ _ _=>?_
 repeat' (first | refine bf3 1 (fun b => ⟨[(50, .d (.bool b)), (1, .d (.bool w)), (2, .ptr 0 0)], [.var 27 (.w (.d (dg0 e)))]⟩) (c1) ?_ ?_ | refine bf3 3 (fun b => ⟨[(83, .d (.bool b)), (1, .d (.bool w)), (2, .ptr 0 0)], [.var 27 (.w (.d (dg0 e)))]⟩) (c2) ?_ ?_ | refine bf3 5 (fun b => ⟨[(113, .d (.bool b)), (1, .d (.bool w)), (2, .ptr 0 0)], [.var 27 (.w (.d (dg0 e)))]⟩) (c3) ?_ ?_ | refine yz ?_ | refine ac1 ⟨_, ?_, (zle 1)⟩ | refine yp b90 h1 ?_ | refine yp b92 h2 ?_ | refine yp b39 h3 ?_ | refine yp b91 h4 ?_ | refine yp b93 h5 ?_ | refine yp b95 h6 ?_ | refine yp b94 h7 ?_ | (refine yy ?_ ?_ <;> intro _) | (refine qV rfl ?_ ?_ <;> intro _))
 all_goals clear h1 h2 h3 h4 h5 h6 h7
 any_goals (refine Eq.trans ?_ hc1; clear hc1 hc2 hc3; simp_all [dk2, dk4, nlF, isS, fn7])
 any_goals (refine Eq.trans ?_ hc2; clear hc1 hc2 hc3; simp_all [dk2, dk4, nlF, isS, fn7])
 any_goals (refine Eq.trans ?_ hc3; clear hc1 hc2 hc3; simp_all [dk2, dk4, nlF, isS, fn7])
 any_goals (refine congrArg D.int ?_; unfold dp1; rw [hc1, hc2]; clear hc1 hc2; simp_all [nlF, fn7])
 all_goals first
  | (have o1 : ¬ e.op < 1 := (by omega); have o2 : ¬ 24 < e.op := (by omega); simp_all; done)
  | (rw [fm3]; simp_all; done)
  | (split at hc3 <;> simp_all; done)
theorem dp9 (e : Ex) : ∀ w, Ev E 33 [dg0 e, .bool w] (.d (.int (dp2 e w))) := by
 refine dg9 (P := fun e => ∀ w, Ev E 33 [dg0 e, .bool w] (.d (.int (dp2 e w)))) (fun op v nm ds ks ih w => ?_) e;refine Ev.fit fun hfit => ?_
 obtain ⟨-, -, -, hmax, -⟩ := dg7 (hfit (dg0 (.mk op v nm ds ks)) (by simp));have hlen : (df8 (.mk op v nm ds ks)).length = ks.length := dg5 _;have hkg : ∀ (i : Nat) (x : Ex), ks[i]? = some x → (df8 (.mk op v nm ds ks))[(i : Int).toNat]? = some (dg0 x) := fun i x h => dg3 (e := .mk op v nm ds ks) (by rw [fh0]; exact h)
 have hks : Ex.ks (.mk op v nm ds ks) = ks := rfl;generalize Ex.mk op v nm ds ks = e at *;rw [hks] at hmax;have h1 := dp8 e w;have hbad := dp6 (e := e) (w := w) rfl;have hok := dp5 (e := e) (w := w);rw [hks] at hok;clear hks;generalize hW : (w || e.op == 24) = W at hok
 cases hsf : dp1 e w != 0 with
 | true =>
  rw [← hbad hsf];refine ye2 func33 ntmps33 fun _ _ _=>?_
  repeat' (first | refine yz ?_ | refine yp b59 h1 ?_ | exact zD)
 | false =>
  rw [hok (by simpa using hsf)]
  cases w
  all_goals
   refine ye2 func33 ntmps33 fun _ _ _=>?_
   repeat' (first | refine yz ?_ | refine yp b59 h1 ?_)
   refine ac7 (α := SVs ks W) (fun p => ⟨[(1, .d (.bool _)), (2, .ptr 0 0), (6, .d (.int p.i))], [.var 27 (.w (.d (dg0 e)))]⟩) (fun p => ks.length - p.i) ⟨0, by omega, rfl⟩ (zle 1) ?_;rintro ⟨i, hi, ok⟩;dsimp only;rcases fg7 i ks.length with hlt | hge
   ·have hd1 : decide ((i : Int) < ((df8 e).length : Int)) = true := by rw [hlen]; simpa using hlt
    have hx0 := fg5 hlt;generalize ks[i] = x at hx0;have hx := hkg i x hx0;have hv := ih x (fg9 hx0) W;rw [← hW] at hv;rw [ok, dp4 hx0]
    cases hz : dp2 x W != 0 with
    | true =>
     rw [← hW] at hz ⊢
     repeat' (first | refine yz ?_ | refine yi (dg0 x) hx ?_ | refine yp b33 hv ?_ | exact zD)
    | false =>
     rw [← hW] at hz
     repeat' (first | refine yz ?_ | refine yi (dg0 x) hx ?_ | refine yp b33 hv ?_)
     refine ac1 ?_;exact ⟨⟨i + 1, by omega, by rw [ok, dp4 hx0, ← hW, hz]; rfl⟩, by dsimp only; omega, (zle 1)⟩
   ·have hd1 : decide ((i : Int) < ((df8 e).length : Int)) = false := by rw [hlen]; simp; omega
    rw [ok, fh6 hge, dp3]
    repeat' (first | refine yz ?_ | exact zD)
def dq0 (e : Ex) : Int := bif decide (dp e > 24) then 5 else bif decide (nd e > 300) then 4 else dp2 e false
theorem dq1 (e : Ex) (h1 : dp e ≤ 1000000) (h2 : nd e ≤ 1000000) : Ev E 25 [dg0 e] (.d (.int (dq0 e))) := by
 have a1 := dl5 e h1;have a2 := dk9 e h2;have a3 := dp7 e false;unfold dq0
 cases g1 : decide (dp e > 24) with
 | true =>
  have b1 : decide ((dp e : Int) > 24) = true := by simp at g1 ⊢; omega
  refine ye1 func25 ntmps25 fun _ _ _=>?_
  repeat' (first | refine yz ?_ | refine yp b46 a1 ?_ | exact zD)
 | false =>
  have b1 : decide ((dp e : Int) > 24) = false := by simp at g1 ⊢; omega
  cases g2 : decide (nd e > 300) with
  | true =>
   have b2 : decide ((nd e : Int) > 300) = true := by simp at g2 ⊢; omega
   refine ye1 func25 ntmps25 fun _ _ _=>?_
   repeat' (first | refine yz ?_ | refine yp b46 a1 ?_ | refine yp b47 a2 ?_ | exact zD)
  | false =>
   have b2 : decide ((nd e : Int) > 300) = false := by simp at g2 ⊢; omega
   refine ye1 func25 ntmps25 fun _ _ _=>?_
   repeat' (first | refine yz ?_ | refine yp b46 a1 ?_ | refine yp b47 a2 ?_ | refine yp b48 a3 ?_ | exact zD)
theorem dq2 (e : Ex) (h1 : dp e ≤ 1000000) (h2 : nd e ≤ 1000000) : Ev E 16 [dg0 e] (.d (.int (dq0 e))) := by
 have a1 := dl4 e h1;have a2 := dl0 e h2;have a3 := dp9 e false;unfold dq0
 cases g1 : decide (dp e > 24) with
 | true =>
  have b1 : decide ((dp e : Int) > 24) = true := by simp at g1 ⊢; omega
  refine ye1 func16 ntmps16 fun _ _ _=>?_
  repeat' (first | refine yz ?_ | refine yp b31 a1 ?_ | exact zD)
 | false =>
  have b1 : decide ((dp e : Int) > 24) = false := by simp at g1 ⊢; omega
  cases g2 : decide (nd e > 300) with
  | true =>
   have b2 : decide ((nd e : Int) > 300) = true := by simp at g2 ⊢; omega
   refine ye1 func16 ntmps16 fun _ _ _=>?_
   repeat' (first | refine yz ?_ | refine yp b31 a1 ?_ | refine yp b32 a2 ?_ | exact zD)
  | false =>
   have b2 : decide ((nd e : Int) > 300) = false := by simp at g2 ⊢; omega
   refine ye1 func16 ntmps16 fun _ _ _=>?_
   repeat' (first | refine yz ?_ | refine yp b31 a1 ?_ | refine yp b32 a2 ?_ | refine yp b33 a3 ?_ | exact zD)
end Go.Proofs.YtibfalecohlngaaGreatDoor
