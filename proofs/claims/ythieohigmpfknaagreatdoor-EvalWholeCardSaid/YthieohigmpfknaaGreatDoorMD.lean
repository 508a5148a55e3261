/- The reference's bounded integers; Products of fractions by the reference; Sums and differences of fractions by the program; quotients and differences by the reference; Graphs and bindings as data, and the reference's look-ups in them; Membership in lists of names, by the library; Copies of lists of names and of properties, by the library; Copies of values and of properties, and the look-up of nodes, edges and properties, by the program; Expressions as plain trees, how they are written as data, and the weighing of expressions by the law's own text; Names of the language: letters, names, by both. Conditions: each part's own, as it says. -/
import Derived.Test.YthieohigmpfknaaGreatDoorMC
import Derived.Test.YthieohigmpfknaaGreatDoorGC
import Derived.Test.YthieohigmpfknaaGreatDoorMA
import Derived.Test.YthieohigmpfknaaGreatDoorGB
import Derived.Test.YthieohigmpfknaaGreatDoorMB
import Derived.Lib.IndexMore
set_option linter.unusedVariables false
set_option linter.unusedSimpArgs false
/- The reference's bounded integers. Conditions: none. -/
namespace Go.Proofs.YthieohigmpfknaaGreatDoor
open Go Go.Abs Go.Val Go.RowKit
attribute [local irreducible] go SGo HasBody Ev ExtEv EvO EvS binOp

theorem rmodI_ev (a b : Int) : Ev E 27 [.int a, .int b] (.tup [.int (modN a b), .bool (modB a b)]) := by
  have h1 := rin_ev a
  have h2 := rin_ev b
  unfold modN
  cases ha : inM a with
  | false =>
    rw [ha] at h1
    rw [show modB a b = false by unfold modB; rw [ha]; rfl]
    refine enter2 Tryz.func27 Tryz.ntmps27 rfl rfl fun w0 F0 O => ?_
    repeat' (first | refine zS rfl ?_ | refine qA ?_ | refine qB rfl ?_ | refine qD ?_ | refine qP rfl rfl rfl rfl rfl rfl b23 (h1) ?_ | refine zT rfl ?_ | refine qM rfl rfl rfl ?_ | exact zL)
  | true =>
    cases hb : inM b with
    | false =>
      rw [ha] at h1
      rw [hb] at h2
      rw [show modB a b = false by unfold modB; rw [ha, hb]; rfl]
      refine enter2 Tryz.func27 Tryz.ntmps27 rfl rfl fun w0 F0 O => ?_
      repeat' (first | refine zS rfl ?_ | refine qA ?_ | refine qB rfl ?_ | refine qD ?_ | refine qP rfl rfl rfl rfl rfl rfl b23 (h1) ?_ | refine qP rfl rfl rfl rfl rfl rfl b23 (h2) ?_ | refine zT rfl ?_ | refine qM rfl rfl rfl ?_ | exact zL)
    | true =>
      rw [ha] at h1
      rw [hb] at h2
      have ha' := (inM_iff a).1 ha
      have hb' := (inM_iff b).1 hb
      cases h0 : b == 0 with
      | true =>
        rw [show modB a b = false by unfold modB; rw [ha, hb, h0]; rfl]
        refine enter2 Tryz.func27 Tryz.ntmps27 rfl rfl fun w0 F0 O => ?_
        repeat' (first | refine zS rfl ?_ | refine qA ?_ | refine qB rfl ?_ | refine qD ?_ | refine qP rfl rfl rfl rfl rfl rfl b23 (h1) ?_ | refine qP rfl rfl rfl rfl rfl rfl b23 (h2) ?_ | refine zT rfl ?_ | refine qM rfl rfl rfl ?_ | exact zL)
      | false =>
        have h0' : b ≠ 0 := by simpa using h0
        have hri : inR .i64 (a.tmod b) := by
          have e := Int.natAbs_tmod a b
          have := Nat.mod_le a.natAbs b.natAbs
          generalize a.tmod b = z at *
          generalize a.natAbs % b.natAbs = y at *
          simp only [inR]; omega
        rw [show modB a b = true by unfold modB; rw [ha, hb, h0]; rfl]
        refine enter2 Tryz.func27 Tryz.ntmps27 rfl rfl fun w0 F0 O => ?_
        repeat' (first | refine zS rfl ?_ | refine qA ?_ | refine qB rfl ?_ | refine qD ?_ | refine qE ?_ | refine qP rfl rfl rfl rfl rfl rfl b23 (h1) ?_ | refine qP rfl rfl rfl rfl rfl rfl b23 (h2) ?_ | (refine qS rfl ⟨h0', hri⟩ ?_) | refine zU rfl ?_ | refine qM rfl rfl rfl ?_ | exact zL)
end Go.Proofs.YthieohigmpfknaaGreatDoor

/- Products of fractions by the reference. Conditions: none. -/
namespace Go.Proofs.YthieohigmpfknaaGreatDoor
open Go Go.Abs Go.Val Go.RowKit
attribute [local irreducible] go SGo HasBody Ev ExtEv EvO EvS binOp RGo

end Go.Proofs.YthieohigmpfknaaGreatDoor

/- Sums and differences of fractions by the program; quotients and differences by the reference. Conditions: each contract's own. -/
namespace Go.Proofs.YthieohigmpfknaaGreatDoor
open Go Go.Abs Go.Val Go.RowKit
attribute [local irreducible] go SGo HasBody Ev ExtEv EvO EvS binOp RGo

set_option maxHeartbeats 4000000 in
theorem add_ev (an ad bn bd : Int) : Ev E 158 [.agg [.int an, .int ad], .agg [.int bn, .int bd]] (.tup [.agg [.int (addN an ad bn bd), .int (addD an ad bn bd)], .bool (addB an ad bn bd)]) := by
  have hva := fvalid_ev an ad
  have hvb := fvalid_ev bn bd
  unfold addN addD
  cases ha : fval an ad with
  | false =>
    rw [ha] at hva
    rw [show addB an ad bn bd = false by unfold addB; rw [ha]; rfl]
    refine enter2 Tryz.func158 Tryz.ntmps158 rfl rfl fun w0 F0 O => ?_
    repeat' (first | refine zS rfl ?_ | refine qA ?_ | refine qB rfl ?_ | refine qC (by kernel_rfl) ?_ | refine qD ?_ | refine qE ?_ | refine qF ?_ | refine qG ?_ | refine qH rfl ?_ | refine qP rfl rfl rfl rfl rfl rfl b148 (hva) ?_ | refine qP rfl rfl rfl rfl rfl rfl b148 (hvb) ?_ | refine zT rfl ?_ | refine zU rfl ?_ | refine qL rfl rfl ?_ | refine qM rfl rfl rfl ?_ | refine qO rfl rfl rfl ?_ | refine zX rfl rfl rfl rfl ?_ | refine zW rfl rfl rfl rfl ?_ | (refine qY rfl rfl rfl rfl ?_ ?_ <;> intro _) | exact zD | exact zL)
  | true =>
    cases hb : fval bn bd with
    | false =>
      rw [ha] at hva
      rw [hb] at hvb
      rw [show addB an ad bn bd = false by unfold addB; rw [ha, hb]; rfl]
      refine enter2 Tryz.func158 Tryz.ntmps158 rfl rfl fun w0 F0 O => ?_
      repeat' (first | refine zS rfl ?_ | refine qA ?_ | refine qB rfl ?_ | refine qC (by kernel_rfl) ?_ | refine qD ?_ | refine qE ?_ | refine qF ?_ | refine qG ?_ | refine qH rfl ?_ | refine qP rfl rfl rfl rfl rfl rfl b148 (hva) ?_ | refine qP rfl rfl rfl rfl rfl rfl b148 (hvb) ?_ | refine zT rfl ?_ | refine zU rfl ?_ | refine qL rfl rfl ?_ | refine qM rfl rfl rfl ?_ | refine qO rfl rfl rfl ?_ | refine zX rfl rfl rfl rfl ?_ | refine zW rfl rfl rfl rfl ?_ | (refine qY rfl rfl rfl rfl ?_ ?_ <;> intro _) | exact zD | exact zL)
    | true =>
      obtain ⟨G, H, T, p, q, r, m, m', eG, eH, eT, hG, hH, r1, r2, r3, hT, h1, h2, h3, h4, h5, h6, h7, h8, h9⟩ := add_key ha hb
      obtain ⟨a1, a2, -⟩ := fval_inv ha
      obtain ⟨b1, b2, -⟩ := fval_inv hb
      rw [ha] at hva
      rw [hb] at hvb
      have hB : addB an ad bn bd = (T == 0 || (ovB T.natAbs H && decide (Int.tdiv ad G * Int.tdiv bd H ≤ 1000000000000000))) := by
        unfold addB adK adD
        rw [ha, hb, ← eG, ← eH, ← eT]
        rfl
      have hN : adN an ad bn bd = sgn T * ((T.natAbs / H : Nat) : Int) := by unfold adN; rw [← eH, ← eT]
      have hD : adD an ad bn bd = Int.tdiv ad G * Int.tdiv bd H := by unfold adD; rw [← eG, ← eH]
      rw [hN, hD, ← eT]
      have hn := nmul_ev (Int.tdiv ad G) (Int.tdiv bd H)
      have hmb : mulB (Int.tdiv ad G) (Int.tdiv bd H) = decide (Int.tdiv ad G * Int.tdiv bd H ≤ 1000000000000000) := by
        unfold mulB
        rw [(inM_iff _).2 (by omega), (inM_iff _).2 (by omega), Bool.true_and, Bool.true_and, ← Int.natAbs_mul]
        have : 0 ≤ Int.tdiv ad G * Int.tdiv bd H := Int.mul_nonneg (by omega) (by omega)
        rw [decide_eq_decide]
        omega
      unfold mulN at hn
      rw [hmb] at hn
      have w1 : inR .i64 (Int.tdiv bd G) := by simp only [inR]; omega
      have w2 : inR .i64 (Int.tdiv ad G) := by simp only [inR]; omega
      have w3 : inR .i64 (Int.tdiv bd H) := by simp only [inR]; omega
      have w4 : inR .u64 (G : Int) := by simp only [inR]; omega
      have w5 : inR .u64 (H : Int) := by simp only [inR]; omega
      have w6 : T.natAbs % G < G := Nat.mod_lt _ (by omega)
      have w7 : inR .i64 ((T.natAbs % G : Nat) : Int) := by simp only [inR]; omega
      have wG : (G : Int) ≠ 0 := by omega
      have wH : (H : Int) ≠ 0 := by omega
      clear eG eH eT ha hb hN hD hmb
      generalize T.natAbs % G = tm at *
      cases hT0 : T == 0 with
      | true =>
        have hs0 : sgn T = 0 := by rw [show T = 0 by simpa using hT0]; rfl
        rw [hs0] at h5
        rw [hB, hT0]
        refine enter2 Tryz.func158 Tryz.ntmps158 rfl rfl fun w0 F0 O => ?_
        repeat' (first | refine qRT (id := 4) [15,16] [] (by kernel_rfl) (by kernel_rfl) rfl (by repeat (first | exact trivial | refine ⟨⟨rfl, rfl⟩, ?_⟩ | refine ⟨trivial, ?_⟩)) ?_ | refine rgW (id := 4) (i := 0) 15 (by kernel_rfl) rfl (by kernel_rfl) (by repeat (first | exact trivial | refine ⟨rfl, ?_⟩)) ?_ | refine rgStore (id := 4) (i := 15) rfl rfl rfl rfl rfl rfl rfl rfl rfl rfl rfl (by repeat (first | exact trivial | refine ⟨⟨rfl, rfl⟩, ?_⟩ | refine ⟨trivial, ?_⟩)) ?_ | refine rgAlloc (id := 4) (i := 15) rfl rfl rfl rfl rfl rfl rfl (by repeat (first | exact trivial | refine ⟨⟨rfl, rfl⟩, ?_⟩ | refine ⟨trivial, ?_⟩)) ?_ | refine rgBox (id := 4) (i := 15) rfl rfl rfl rfl rfl rfl rfl (by repeat (first | exact trivial | refine ⟨⟨rfl, rfl⟩, ?_⟩ | refine ⟨trivial, ?_⟩)) ?_ | refine rgStoreP _ (id := 4) (i := 15) rfl rfl rfl rfl rfl rfl rfl (by assumption) rfl rfl rfl (by repeat (first | exact trivial | refine ⟨⟨rfl, rfl⟩, ?_⟩ | refine ⟨trivial, ?_⟩)) ?_ | (refine rgS (id := 4) (i := 15) rfl rfl rfl rfl ?_ (by repeat (first | exact trivial | refine ⟨⟨rfl, rfl⟩, ?_⟩ | refine ⟨trivial, ?_⟩)) ?_; (first | exact True.intro | rfl | assumption | omega | (simp only [inR]; omega) | ((show _ ≤ (9223372036854775807 : Nat)); (try simp only [ByteArray.size_append]); omega) | exact tmod_ok (by omega) (by omega) | exact tdiv_ok (by omega) (by omega) | exact ⟨rfl, by decide, by decide⟩)) | refine rgStore (id := 4) (i := 16) rfl rfl rfl rfl rfl rfl rfl rfl rfl rfl rfl (by repeat (first | exact trivial | refine ⟨⟨rfl, rfl⟩, ?_⟩ | refine ⟨trivial, ?_⟩)) ?_ | refine rgAlloc (id := 4) (i := 16) rfl rfl rfl rfl rfl rfl rfl (by repeat (first | exact trivial | refine ⟨⟨rfl, rfl⟩, ?_⟩ | refine ⟨trivial, ?_⟩)) ?_ | refine rgBox (id := 4) (i := 16) rfl rfl rfl rfl rfl rfl rfl (by repeat (first | exact trivial | refine ⟨⟨rfl, rfl⟩, ?_⟩ | refine ⟨trivial, ?_⟩)) ?_ | refine rgStoreP _ (id := 4) (i := 16) rfl rfl rfl rfl rfl rfl rfl (by assumption) rfl rfl rfl (by repeat (first | exact trivial | refine ⟨⟨rfl, rfl⟩, ?_⟩ | refine ⟨trivial, ?_⟩)) ?_ | (refine rgS (id := 4) (i := 16) rfl rfl rfl rfl ?_ (by repeat (first | exact trivial | refine ⟨⟨rfl, rfl⟩, ?_⟩ | refine ⟨trivial, ?_⟩)) ?_; (first | exact True.intro | rfl | assumption | omega | (simp only [inR]; omega) | ((show _ ≤ (9223372036854775807 : Nat)); (try simp only [ByteArray.size_append]); omega) | exact tmod_ok (by omega) (by omega) | exact tdiv_ok (by omega) (by omega) | exact ⟨rfl, by decide, by decide⟩)) | refine rgN ?_ | (show TmB _ _ ∧ RGo _ _ _ _ _ _ _ _ _; refine ⟨(by repeat (first | exact trivial | refine ⟨rfl, ?_⟩)), ?_⟩) | refine zS rfl ?_ | refine qA ?_ | refine qB rfl ?_ | refine qC (by kernel_rfl) ?_ | refine qD ?_ | refine qE ?_ | refine qF ?_ | refine qG ?_ | refine qH rfl ?_ | refine qP rfl rfl rfl rfl rfl rfl b148 (hva) ?_ | refine qP rfl rfl rfl rfl rfl rfl b148 (hvb) ?_ | refine qP (d := 26) rfl rfl rfl rfl rfl rfl b185 (h1) ?_ | refine qP (d := 33) rfl rfl rfl rfl rfl rfl b195 (h2) ?_ | refine qP (d := 40) rfl rfl rfl rfl rfl rfl b195 (h3) ?_ | refine qP rfl rfl rfl rfl rfl rfl b196 (h4) ?_ | refine qP rfl rfl rfl rfl rfl rfl b197 (h5) ?_ | (refine qS rfl ⟨wG, w1⟩ ?_) | (refine qS rfl ⟨wG, w2⟩ ?_) | refine zT rfl ?_ | refine zU rfl ?_ | refine qL rfl rfl ?_ | refine qM rfl rfl rfl ?_ | refine qO rfl rfl rfl ?_ | refine zX rfl rfl rfl rfl ?_ | refine zW rfl rfl rfl rfl ?_ | (refine qY rfl rfl rfl rfl ?_ ?_ <;> intro _) | exact zD | exact zL)
      | false =>
        have hT0' : T ≠ 0 := by simpa using hT0
        have hs0 : (sgn T == 0) = false := by
          rw [beq_eq_false_iff_ne]
          rcases Int.lt_or_gt_of_ne hT0' with h | h
          · rw [sgn_neg h]; decide
          · rw [sgn_pos h]; decide
        rw [h8 hT0'] at h9
        rw [hB, hT0]
        generalize sgn T * ((T.natAbs / H : Nat) : Int) = N at *
        generalize hK : decide (Int.tdiv ad G * Int.tdiv bd H ≤ 1000000000000000) = K at *
        cases hO : ovB T.natAbs H <;> cases K <;> rw [hO] at h9
        all_goals
          refine enter2 Tryz.func158 Tryz.ntmps158 rfl rfl fun w0 F0 O => ?_
          repeat' (first | refine qRT (id := 4) [15,16] [] (by kernel_rfl) (by kernel_rfl) rfl (by repeat (first | exact trivial | refine ⟨⟨rfl, rfl⟩, ?_⟩ | refine ⟨trivial, ?_⟩)) ?_ | refine rgW (id := 4) (i := 0) 15 (by kernel_rfl) rfl (by kernel_rfl) (by repeat (first | exact trivial | refine ⟨rfl, ?_⟩)) ?_ | refine rgStore (id := 4) (i := 15) rfl rfl rfl rfl rfl rfl rfl rfl rfl rfl rfl (by repeat (first | exact trivial | refine ⟨⟨rfl, rfl⟩, ?_⟩ | refine ⟨trivial, ?_⟩)) ?_ | refine rgAlloc (id := 4) (i := 15) rfl rfl rfl rfl rfl rfl rfl (by repeat (first | exact trivial | refine ⟨⟨rfl, rfl⟩, ?_⟩ | refine ⟨trivial, ?_⟩)) ?_ | refine rgBox (id := 4) (i := 15) rfl rfl rfl rfl rfl rfl rfl (by repeat (first | exact trivial | refine ⟨⟨rfl, rfl⟩, ?_⟩ | refine ⟨trivial, ?_⟩)) ?_ | refine rgStoreP _ (id := 4) (i := 15) rfl rfl rfl rfl rfl rfl rfl (by assumption) rfl rfl rfl (by repeat (first | exact trivial | refine ⟨⟨rfl, rfl⟩, ?_⟩ | refine ⟨trivial, ?_⟩)) ?_ | (refine rgS (id := 4) (i := 15) rfl rfl rfl rfl ?_ (by repeat (first | exact trivial | refine ⟨⟨rfl, rfl⟩, ?_⟩ | refine ⟨trivial, ?_⟩)) ?_; (first | exact True.intro | rfl | assumption | omega | (simp only [inR]; omega) | ((show _ ≤ (9223372036854775807 : Nat)); (try simp only [ByteArray.size_append]); omega) | exact tmod_ok (by omega) (by omega) | exact tdiv_ok (by omega) (by omega) | exact ⟨rfl, by decide, by decide⟩)) | refine rgStore (id := 4) (i := 16) rfl rfl rfl rfl rfl rfl rfl rfl rfl rfl rfl (by repeat (first | exact trivial | refine ⟨⟨rfl, rfl⟩, ?_⟩ | refine ⟨trivial, ?_⟩)) ?_ | refine rgAlloc (id := 4) (i := 16) rfl rfl rfl rfl rfl rfl rfl (by repeat (first | exact trivial | refine ⟨⟨rfl, rfl⟩, ?_⟩ | refine ⟨trivial, ?_⟩)) ?_ | refine rgBox (id := 4) (i := 16) rfl rfl rfl rfl rfl rfl rfl (by repeat (first | exact trivial | refine ⟨⟨rfl, rfl⟩, ?_⟩ | refine ⟨trivial, ?_⟩)) ?_ | refine rgStoreP _ (id := 4) (i := 16) rfl rfl rfl rfl rfl rfl rfl (by assumption) rfl rfl rfl (by repeat (first | exact trivial | refine ⟨⟨rfl, rfl⟩, ?_⟩ | refine ⟨trivial, ?_⟩)) ?_ | (refine rgS (id := 4) (i := 16) rfl rfl rfl rfl ?_ (by repeat (first | exact trivial | refine ⟨⟨rfl, rfl⟩, ?_⟩ | refine ⟨trivial, ?_⟩)) ?_; (first | exact True.intro | rfl | assumption | omega | (simp only [inR]; omega) | ((show _ ≤ (9223372036854775807 : Nat)); (try simp only [ByteArray.size_append]); omega) | exact tmod_ok (by omega) (by omega) | exact tdiv_ok (by omega) (by omega) | exact ⟨rfl, by decide, by decide⟩)) | refine rgN ?_ | (show TmB _ _ ∧ RGo _ _ _ _ _ _ _ _ _; refine ⟨(by repeat (first | exact trivial | refine ⟨rfl, ?_⟩)), ?_⟩) | refine zS rfl ?_ | refine qA ?_ | refine qB rfl ?_ | refine qC (by kernel_rfl) ?_ | refine qD ?_ | refine qE ?_ | refine qF ?_ | refine qG ?_ | refine qH rfl ?_ | refine qP rfl rfl rfl rfl rfl rfl b148 (hva) ?_ | refine qP rfl rfl rfl rfl rfl rfl b148 (hvb) ?_ | refine qP (d := 26) rfl rfl rfl rfl rfl rfl b185 (h1) ?_ | refine qP (d := 33) rfl rfl rfl rfl rfl rfl b195 (h2) ?_ | refine qP (d := 40) rfl rfl rfl rfl rfl rfl b195 (h3) ?_ | refine qP rfl rfl rfl rfl rfl rfl b196 (h4) ?_ | refine qP rfl rfl rfl rfl rfl rfl b197 (h5) ?_ | refine qP rfl rfl rfl rfl rfl rfl b198 (h6) ?_ | refine qP (d := 52) rfl rfl rfl rfl rfl rfl b185 (h7) ?_ | refine qP rfl rfl rfl rfl rfl rfl b199 (h9) ?_ | refine qP rfl rfl rfl rfl rfl rfl b200 (hn) ?_ | (refine qS rfl ⟨wG, w1⟩ ?_) | (refine qS rfl ⟨wG, w2⟩ ?_) | (refine qS rfl ⟨wH, w3⟩ ?_) | refine zT rfl ?_ | refine zU rfl ?_ | refine qL rfl rfl ?_ | refine qM rfl rfl rfl ?_ | refine qO rfl rfl rfl ?_ | refine zX rfl rfl rfl rfl ?_ | refine zW rfl rfl rfl rfl ?_ | (refine qY rfl rfl rfl rfl ?_ ?_ <;> intro _) | exact zD | exact zL)
theorem sub_ev (an ad bn bd : Int) (hb : fval bn bd = true) : Ev E 159 [.agg [.int an, .int ad], .agg [.int bn, .int bd]] (.tup [.agg [.int (addN an ad (0 - bn) bd), .int (addD an ad (0 - bn) bd)], .bool (addB an ad (0 - bn) bd)]) := by
  have h := add_ev an ad (0 - bn) bd
  obtain ⟨b1, b2, -⟩ := fval_inv hb
  refine enter2 Tryz.func159 Tryz.ntmps159 rfl rfl fun w0 F0 O => ?_
  repeat' (first | refine zS rfl ?_ | refine qA ?_ | refine qB rfl ?_ | refine qC (by kernel_rfl) ?_ | refine qD ?_ | refine qE ?_ | refine qF ?_ | refine qG ?_ | refine qH rfl ?_ | refine qP rfl rfl rfl rfl rfl rfl b158 (h) ?_ | refine zT rfl ?_ | refine zU rfl ?_ | refine qL rfl rfl ?_ | refine qM rfl rfl rfl ?_ | refine qO rfl rfl rfl ?_ | refine zX rfl rfl rfl rfl ?_ | refine zW rfl rfl rfl rfl ?_ | (refine qY rfl rfl rfl rfl ?_ ?_ <;> intro _) | exact zD | exact zL)
end Go.Proofs.YthieohigmpfknaaGreatDoor

/- Graphs and bindings as data, and the reference's look-ups in them. Conditions: none. -/
namespace Go.Proofs.YthieohigmpfknaaGreatDoor
open Go Go.Abs Go.Val
attribute [local irreducible] go SGo HasBody Ev ExtEv EvO EvS

structure Pr where
  key : ByteArray
  v : V
structure Nd where
  id : Int
  labels : List ByteArray
  props : List Pr
structure Ed where
  id : Int
  src : Int
  dst : Int
  ty : ByteArray
  props : List Pr
structure Gr where
  nodes : List Nd
  edges : List Ed
  nn : Int
  ne : Int
structure Bd where
  name : ByteArray
  v : V
def encPr (p : Pr) : D := .agg [.str p.key, .int p.v.k, .int p.v.n, .int p.v.d, .str p.v.s, .sl (kids p.v)]
def encNd (n : Nd) : D := .agg [.int n.id, .sl (n.labels.map .str), .sl (n.props.map encPr)]
def encEd (e : Ed) : D := .agg [.int e.id, .int e.src, .int e.dst, .str e.ty, .sl (e.props.map encPr)]
def encGr (g : Gr) : D := .agg [.sl (g.nodes.map encNd), .sl (g.edges.map encEd), .int g.nn, .int g.ne]
def encBd (b : Bd) : D := .agg [.str b.name, .int b.v.k, .int b.v.n, .int b.v.d, .str b.v.s, .sl (kids b.v)]
theorem map_at {α β : Type} {l : List α} {f : α → β} {i : Nat} {x : α} (h : l[i]? = some x) : (l.map f)[(i : Int).toNat]? = some (f x) := by
  rw [Int.toNat_natCast, List.getElem?_map, h]; rfl
theorem fit_map {α : Type} {l : List α} {f : α → D} (h : Fit (.sl (l.map f))) : l.length ≤ 9223372036854775807 ∧ ∀ x ∈ l, Fit (f x) := by
  have h5 := h.sls
  rw [List.length_map] at h5
  exact ⟨h5.1, fun x hx => h5.2 _ (List.mem_map_of_mem hx)⟩
theorem fit_gr {g : Gr} (h : Fit (encGr g)) : Fit (.sl (g.nodes.map encNd)) ∧ Fit (.sl (g.edges.map encEd)) :=
  ⟨h.aggs _ (by simp), h.aggs _ (by simp)⟩
/-- The first element that passes a test. -/
structure SFd {α : Type} (l : List α) (f : α → Bool) where
  i : Nat
  hi : i ≤ l.length
  ok : l.find? f = (l.drop i).find? f
theorem find_at {α : Type} {l : List α} {f : α → Bool} {i : Nat} {x : α} (h : l[i]? = some x) : (l.drop i).find? f = bif f x then some x else (l.drop (i + 1)).find? f := by
  rw [drop_at h, List.find?_cons]
  cases f x <;> rfl
def nd0 : Nd := ⟨0, [], []⟩
def ed0 : Ed := ⟨0, 0, 0, ⟨#[]⟩, []⟩
def findN (l : List Nd) (id : Int) : Option Nd := l.find? fun n => n.id == id
def findE (l : List Ed) (id : Int) : Option Ed := l.find? fun n => n.id == id
def findP (l : List Pr) (k : ByteArray) : V := match l.find? fun p => p.key.toList == k.toList with | some p => p.v | none => vNull
def hasF (l : List ByteArray) (s : ByteArray) : Bool := l.any fun x => x.toList == s.toList
end Go.Proofs.YthieohigmpfknaaGreatDoor

/- Membership in lists of names, by the library. Conditions: none. -/
namespace Go.Proofs.YthieohigmpfknaaGreatDoor
open Go Go.Abs Go.Val
attribute [local irreducible] go SGo HasBody Ev ExtEv EvO EvS

def idxF (s : ByteArray) : List ByteArray → Nat → Int
  | [], _ => -1
  | x :: r, i => bif s.toList == x.toList then (i : Int) else idxF s r (i + 1)
theorem idxF_ge (s : ByteArray) : ∀ (l : List ByteArray) (i : Nat), decide (idxF s l i ≥ 0) = hasF l s
  | [], i => rfl
  | x :: r, i => by
    rw [idxF, hasF, List.any_cons]
    have hc : (x.toList == s.toList) = (s.toList == x.toList) := by
      rw [Bool.eq_iff_iff, beq_iff_eq, beq_iff_eq]; exact ⟨fun h => h.symm, fun h => h.symm⟩
    rw [hc]
    cases s.toList == x.toList with
    | true => simp
    | false => rw [cond_false, Bool.false_or]; exact idxF_ge s r (i + 1)
theorem idxF_at {l : List ByteArray} {s x : ByteArray} {i : Nat} (h : l[i]? = some x) : idxF s (l.drop i) i = bif s.toList == x.toList then (i : Int) else idxF s (l.drop (i + 1)) (i + 1) := by
  rw [drop_at h]; rfl
structure SIx (l : List ByteArray) (s : ByteArray) where
  i : Nat
  hi : i ≤ l.length
  ok : idxF s l 0 = idxF s (l.drop i) i
theorem sindex_ev (l : List ByteArray) (s : ByteArray) : Ev E 194 [.sl (l.map .str), .str s] (.d (.int (idxF s l 0))) := Ev.fit fun hfit => by
  obtain ⟨hmax, -⟩ := fit_map (l := l) (f := D.str) (hfit _ (by simp))
  have hle : (l.map D.str).length = l.length := by simp
  refine enter2 Tryz.func194 Tryz.ntmps194 rfl rfl fun w0 F0 O => ?_
  repeat' (first | refine zS rfl ?_ | refine qA ?_ | refine qB rfl ?_ | refine qD ?_ | refine qF ?_)
  refine go_loop_ (α := SIx l s) (fun p => ⟨[(0, .d (.sl (l.map .str))), (1, .d (.str s)), (6, .d (.sl (l.map .str))), (7, .d (.int (l.map D.str).length)), (8, .d (.int p.i))], []⟩) (fun p => l.length - p.i) ⟨0, by omega, rfl⟩ ((zle 0)) ?_
  rintro ⟨i, hi, ok⟩
  dsimp only
  rcases Nat.lt_or_ge i l.length with hlt | hge
  · have g1 : decide ((i : Int) < ((l.map D.str).length : Int)) = true := by rw [hle]; simpa using hlt
    have hx0 := List.getElem?_eq_getElem hlt
    generalize l[i] = x at hx0
    have hx := map_at (f := D.str) hx0
    rw [ok, idxF_at hx0]
    cases hc : s.toList == x.toList with
    | true =>
      repeat' (first | refine zS rfl ?_ | refine qA ?_ | refine qB rfl ?_ | refine qD ?_ | refine qE ?_ | refine qF ?_ | refine qI (.str x) rfl (guardX_ok rfl) rfl rfl rfl rfl rfl rfl (by first | omega | decide) hx ?_ | refine zT rfl ?_ | refine qL rfl rfl ?_ | exact zD)
    | false =>
      repeat' (first | refine zS rfl ?_ | refine qA ?_ | refine qB rfl ?_ | refine qD ?_ | refine qE ?_ | refine qF ?_ | refine qG ?_ | refine qI (.str x) rfl (guardX_ok rfl) rfl rfl rfl rfl rfl rfl (by first | omega | decide) hx ?_ | refine zT rfl ?_ | refine zU rfl ?_)
      refine go_stop ?_
      exact ⟨⟨i + 1, by omega, by rw [ok, idxF_at hx0, hc]; rfl⟩, by dsimp only; omega, (zle 0)⟩
  · have g1 : decide ((i : Int) < ((l.map D.str).length : Int)) = false := by rw [hle]; simp; omega
    rw [ok, List.drop_eq_nil_of_le hge]
    repeat' (first | refine zS rfl ?_ | refine qA ?_ | refine qB rfl ?_ | refine qD ?_ | refine qH rfl ?_ | refine zU rfl ?_ | refine qL rfl rfl ?_ | exact zD)
theorem scontains_ev (l : List ByteArray) (s : ByteArray) : Ev E 155 [.sl (l.map .str), .str s] (.d (.bool (hasF l s))) := by
  have h := sindex_ev l s
  rw [← idxF_ge s l 0]
  refine enter2 Tryz.func155 Tryz.ntmps155 rfl rfl fun w0 F0 O => ?_
  repeat' (first | refine zS rfl ?_ | refine qA ?_ | refine qB rfl ?_ | refine qD ?_ | refine qP rfl rfl rfl rfl rfl rfl b194 (h) ?_ | refine qL rfl rfl ?_ | exact zD)
theorem hasLabel_ev (n : Nd) (s : ByteArray) : Ev E 101 [encNd n, .str s] (.d (.bool (hasF n.labels s))) := by
  have h := scontains_ev n.labels s
  refine enter2 Tryz.func101 Tryz.ntmps101 rfl rfl fun w0 F0 O => ?_
  repeat' (first | refine zS rfl ?_ | refine qA ?_ | refine qB rfl ?_ | refine qD ?_ | refine qP rfl rfl rfl rfl rfl rfl b155 (h) ?_ | refine qL rfl rfl ?_ | exact zD)
end Go.Proofs.YthieohigmpfknaaGreatDoor

/- Copies of lists of names and of properties, by the library. Conditions: at most a million elements. -/
namespace Go.Proofs.YthieohigmpfknaaGreatDoor
open Go Go.Abs Go.Val
attribute [local irreducible] go SGo HasBody Ev ExtEv EvO EvS

theorem cloneS0_ev : Ev E 152 [.sl []] (.d (.sl [])) := by
  refine enter1 Tryz.func152 Tryz.ntmps152 rfl rfl fun w0 F0 O => ?_
  repeat' (first | refine zS rfl ?_ | refine qA ?_ | refine qB rfl ?_ | refine qD ?_ | refine qE ?_ | (refine go_condm rfl (fun _ => ?_) ?_) | refine go_append0 rfl rfl rfl rfl rfl rfl rfl rfl ?_ | refine qL rfl rfl ?_ | exact zD)
theorem cloneS_evO (l : List ByteArray) (h0 : l ≠ []) (hn : l.length ≤ 2000000) : EvO E 152 [.sl (l.map .str)] 9 1 (l.map .str) := by
  have hle : (l.map D.str).length = l.length := by simp
  have hne : l.map D.str ≠ [] := by simpa using h0
  have hc : ∀ d ∈ l.map D.str, d.cells.length = 1 := fun d hd => by
    obtain ⟨u, -, rfl⟩ := List.mem_map.1 hd
    rfl
  generalize l.map D.str = xs at *
  refine enterO1 Tryz.func152 Tryz.ntmps152 rfl rfl fun w0 F0 O => ?_
  repeat' (first | refine go_buildOwn rfl rfl rfl rfl rfl rfl rfl (by decide) (by decide) ?_ | refine zS rfl ?_ | refine qA ?_ | refine qB rfl ?_ | refine qD ?_ | refine qE ?_ | (refine go_condm rfl (fun h => absurd h hne) ?_))
  refine qS rfl ⟨hne, hc, by (show (0 + xs.length) * 16 ≤ 140737488355328; omega), by (show 0 + xs.length ≤ 9223372036854775807; omega)⟩ ?_
  repeat' (first | refine zS rfl ?_ | refine qD ?_ | refine qO rfl rfl rfl ?_ | exact zL)
theorem cloneS_ev (l : List ByteArray) (hn : l.length ≤ 2000000) : Ev E 152 [.sl (l.map .str)] (.d (.sl (l.map .str))) := by
  by_cases h0 : l = []
  · subst h0; exact cloneS0_ev
  · exact (cloneS_evO l h0 hn).ev
theorem cloneP0_ev : Ev E 192 [.sl []] (.d (.sl [])) := by
  refine enter1 Tryz.func192 Tryz.ntmps192 rfl rfl fun w0 F0 O => ?_
  repeat' (first | refine zS rfl ?_ | refine qA ?_ | refine qB rfl ?_ | refine qD ?_ | refine qE ?_ | (refine go_condm rfl (fun _ => ?_) ?_) | refine go_append0 rfl rfl rfl rfl rfl rfl rfl rfl ?_ | refine qL rfl rfl ?_ | exact zD)
theorem encPr_cells (l : List Pr) : ∀ d ∈ l.map encPr, d.cells.length = 6 := fun d hd => by
  obtain ⟨u, -, rfl⟩ := List.mem_map.1 hd
  rfl
theorem cloneP_evO (l : List Pr) (h0 : l ≠ []) (hn : l.length ≤ 2000000) : EvO E 192 [.sl (l.map encPr)] 140 6 (l.map encPr) := by
  have hle : (l.map encPr).length = l.length := by simp
  have hne : l.map encPr ≠ [] := by simpa using h0
  have hc := encPr_cells l
  generalize l.map encPr = xs at *
  refine enterO1 Tryz.func192 Tryz.ntmps192 rfl rfl fun w0 F0 O => ?_
  repeat' (first | refine go_buildOwn rfl rfl rfl rfl rfl rfl rfl (by decide) (by decide) ?_ | refine zS rfl ?_ | refine qA ?_ | refine qB rfl ?_ | refine qD ?_ | refine qE ?_ | (refine go_condm rfl (fun h => absurd h hne) ?_))
  refine qS rfl ⟨hne, hc, by (show (0 + xs.length) * 80 ≤ 140737488355328; omega), by (show 0 + xs.length ≤ 9223372036854775807; omega)⟩ ?_
  repeat' (first | refine zS rfl ?_ | refine qD ?_ | refine qO rfl rfl rfl ?_ | exact zL)
end Go.Proofs.YthieohigmpfknaaGreatDoor

/- Copies of values and of properties, and the look-up of nodes, edges and properties, by the program. Conditions: no list of more than a million elements. -/
namespace Go.Proofs.YthieohigmpfknaaGreatDoor
open Go Go.Abs Go.Val Go.RowKit
attribute [local irreducible] go SGo HasBody Ev ExtEv EvO EvS RGo

theorem set_same {α : Type} {l : List α} {i : Nat} {x : α} (h : l[i]? = some x) : l.set i x = l := by
  refine List.ext_getElem? fun j => ?_
  rw [List.getElem?_set]
  split
  · rename_i hij
    subst hij
    rw [if_pos (List.getElem?_eq_some_iff.1 h).1, h]
  · rfl
theorem cloneValue_ev (v : V) : nar v = true → Ev E 193 [enc v] (.d (enc v)) := by
  refine vind (P := fun v => nar v = true → Ev E 193 [enc v] (.d (enc v))) (fun k n d s l ih hn => ?_) v
  obtain ⟨hl, hm⟩ := nar_l hn
  simp only [V.l] at hl hm
  show Ev E 193 [.agg [.int k, .int n, .int d, .str s, .sl (encL l)]] (.d (.agg [.int k, .int n, .int d, .str s, .sl (encL l)]))
  have hle : (encL l).length = l.length := encL_len _
  by_cases h0 : l = []
  · subst h0
    show Ev E 193 [.agg [.int k, .int n, .int d, .str s, .sl []]] (.d (.agg [.int k, .int n, .int d, .str s, .sl []]))
    refine enter1 Tryz.func193 Tryz.ntmps193 rfl rfl fun w0 F0 O => ?_
    repeat' (first | refine zS rfl ?_ | refine qA ?_ | refine qB rfl ?_ | refine qD ?_ | refine qF ?_ | refine qP rfl rfl rfl rfl rfl rfl b153 (clone0_ev) ?_)
    refine go_loop_ (α := Unit) (fun _ => ⟨[(1, .ptr 0 0), (2, .ptr 1 0), (10, .d (.int 0)), (11, .d (.int 0))], [.var 28 (.cs [.d (.int k), .d (.int n), .d (.int d), .d (.str s), .d (.sl [])]), .var 28 (.cs [.d (.int 0), .d (.int 0), .d (.int 0), .d (.str ⟨#[]⟩), .nilS])]⟩) (fun _ => 0) () ((zle 2)) ?_
    rintro -
    have g1 : decide ((0 : Int) < 0) = false := rfl
    repeat' (first | refine zS rfl ?_ | refine qA ?_ | refine qB rfl ?_ | refine qD ?_ | refine qH rfl ?_ | refine zU rfl ?_ | refine qL rfl rfl ?_ | exact zD)
  · have hc := clone_ev l h0 hl
    refine enter1 Tryz.func193 Tryz.ntmps193 rfl rfl fun w0 F0 O => ?_
    repeat' (first | refine zS rfl ?_ | refine qA ?_ | refine qB rfl ?_ | refine qD ?_ | refine qF ?_ | refine go_callO rfl rfl rfl rfl rfl rfl b153 (hc) ?_)
    refine go_loop_ (α := Fin (l.length + 1)) (fun p => ⟨[(1, .ptr 0 0), (2, .ptr 1 0), (10, .d (.int (encL l).length)), (11, .d (.int p.val))], [.var 28 (.cs [.d (.int k), .d (.int n), .d (.int d), .d (.str s), .own 2]), .var 28 (.cs [.d (.int 0), .d (.int 0), .d (.int 0), .d (.str ⟨#[]⟩), .nilS]), .row 28 5 (encL l)]⟩) (fun p => l.length - p.val) ⟨0, by omega⟩ ((zle 3)) ?_
    rintro ⟨i, hi⟩
    dsimp only
    rcases Nat.lt_or_ge i l.length with hlt | hge
    · have g1 : decide ((i : Int) < ((encL l).length : Int)) = true := by rw [hle]; simpa using hlt
      have hx0 := List.getElem?_eq_getElem hlt
      generalize l[i] = x at hx0
      have hx : (encL l)[(i : Int).toNat]? = some (enc x) := encL_get (by rw [Int.toNat_natCast]; exact hx0)
      have hmem := List.mem_of_getElem? hx0
      have hcx := ih x hmem (narL_mem hm x hmem)
      have hset : (encL l).set (i : Int).toNat (subD (enc x) 0 (enc x)) = encL l := set_same hx
      repeat' (first | refine qR0 (id := 5) [10] (by kernel_rfl) (by kernel_rfl) (by repeat (first | exact trivial | refine ⟨⟨rfl, rfl⟩, ?_⟩ | refine ⟨trivial, ?_⟩)) ?_ | refine rgF (id := 5) (i := 0) 10 (by kernel_rfl) rfl ?_ | refine rgStoreP _ (id := 5) (i := 10) rfl rfl rfl rfl rfl rfl rfl (by assumption) rfl rfl rfl (by repeat (first | exact trivial | refine ⟨⟨rfl, rfl⟩, ?_⟩ | refine ⟨trivial, ?_⟩)) ?_ | refine rgN ?_ | refine zS rfl ?_ | refine qA ?_ | refine qB rfl ?_ | refine qD ?_ | refine qE ?_ | refine qF ?_ | refine qG ?_ | refine qW (enc x) rfl rfl rfl rfl rfl rfl hx rfl ?_ | refine qP rfl rfl rfl rfl rfl rfl b193 (hcx) ?_ | refine zT rfl ?_)
      refine go_stop ?_
      refine ⟨⟨i + 1, by omega⟩, by dsimp only; omega, ?_⟩
      show Le _ ⟨_, [_, _, .row 28 5 ((encL l).set (i : Int).toNat (subD (enc x) 0 (enc x)))]⟩ _
      rw [hset]
      exact (zle 3)
    · have g1 : decide ((i : Int) < ((encL l).length : Int)) = false := by rw [hle]; simp; omega
      repeat' (first | refine zS rfl ?_ | refine qA ?_ | refine qB rfl ?_ | refine qD ?_ | refine qH rfl ?_ | refine zU rfl ?_)
      refine go_frzS 2 rfl ?_
      repeat' (first | refine zS rfl ?_ | refine qD ?_ | refine qL rfl rfl ?_ | exact zD)
def narP (l : List Pr) : Prop := l.length ≤ 2000000 ∧ ∀ p ∈ l, nar p.v = true
theorem cloneProps_ev (l : List Pr) (hn : narP l) : Ev E 151 [.sl (l.map encPr)] (.d (.sl (l.map encPr))) := by
  have hle : (l.map encPr).length = l.length := by simp
  have hmax := hn.1
  by_cases h0 : l = []
  · subst h0
    show Ev E 151 [.sl []] (.d (.sl []))
    refine enter1 Tryz.func151 Tryz.ntmps151 rfl rfl fun w0 F0 O => ?_
    repeat' (first | refine zS rfl ?_ | refine qA ?_ | refine qB rfl ?_ | refine qD ?_ | refine qF ?_ | refine qP rfl rfl rfl rfl rfl rfl b192 (cloneP0_ev) ?_)
    refine go_loop_ (α := Unit) (fun _ => ⟨[(3, .d (.sl [])), (8, .d (.int 0)), (9, .d (.int 0))], []⟩) (fun _ => 0) () ((zle 0)) ?_
    rintro -
    have g1 : decide ((0 : Int) < 0) = false := rfl
    repeat' (first | refine zS rfl ?_ | refine qA ?_ | refine qB rfl ?_ | refine qD ?_ | refine qH rfl ?_ | refine zU rfl ?_ | refine qL rfl rfl ?_ | exact zD)
  · have hc := cloneP_evO l h0 hn.1
    refine enter1 Tryz.func151 Tryz.ntmps151 rfl rfl fun w0 F0 O => ?_
    repeat' (first | refine zS rfl ?_ | refine qA ?_ | refine qB rfl ?_ | refine qD ?_ | refine qF ?_ | refine go_callO rfl rfl rfl rfl rfl rfl b192 (hc) ?_)
    refine go_loop_ (α := Fin (l.length + 1)) (fun p => ⟨[(3, .own 0), (8, .d (.int (l.map encPr).length)), (9, .d (.int p.val))], [.row 140 6 (l.map encPr)]⟩) (fun p => l.length - p.val) ⟨0, by omega⟩ ((zle 1)) ?_
    rintro ⟨i, hi⟩
    dsimp only
    rcases Nat.lt_or_ge i l.length with hlt | hge
    · have g1 : decide ((i : Int) < ((l.map encPr).length : Int)) = true := by rw [hle]; simpa using hlt
      have hx0 := List.getElem?_eq_getElem hlt
      generalize l[i] = x at hx0
      have hx := map_at (f := encPr) hx0
      have hcx := cloneValue_ev x.v (hn.2 x (List.mem_of_getElem? hx0))
      have hset : (l.map encPr).set (i : Int).toNat (subD (encPr x) 1 (enc x.v)) = l.map encPr := set_same hx
      repeat' (first | refine zS rfl ?_ | refine qA ?_ | refine qB rfl ?_ | refine qD ?_ | refine qE ?_ | refine qF ?_ | refine qG ?_ | refine qW (encPr x) rfl rfl rfl rfl rfl rfl hx rfl ?_ | refine qZ (encPr x) rfl rfl rfl rfl rfl rfl hx rfl rfl rfl ?_ | refine qP rfl rfl rfl rfl rfl rfl b193 (hcx) ?_ | refine zT rfl ?_)
      refine go_stop ?_
      refine ⟨⟨i + 1, by omega⟩, by dsimp only; omega, ?_⟩
      show Le _ ⟨_, [.row 140 6 ((l.map encPr).set (i : Int).toNat (subD (encPr x) 1 (enc x.v)))]⟩ _
      rw [hset]
      exact (zle 1)
    · have g1 : decide ((i : Int) < ((l.map encPr).length : Int)) = false := by rw [hle]; simp; omega
      repeat' (first | refine zS rfl ?_ | refine qA ?_ | refine qB rfl ?_ | refine qD ?_ | refine qH rfl ?_ | refine zU rfl ?_)
      refine go_frz 0 rfl ?_
      repeat' (first | refine qL rfl rfl ?_ | exact zD)
theorem gprop_ev (l : List Pr) (key : ByteArray) (hn : narP l) : Ev E 154 [.sl (l.map encPr), .str key] (.d (enc (findP l key))) := by
  have hle : (l.map encPr).length = l.length := by simp
  have hmax := hn.1
  unfold findP
  refine enter2 Tryz.func154 Tryz.ntmps154 rfl rfl fun w0 F0 O => ?_
  repeat' (first | refine zS rfl ?_ | refine qA ?_ | refine qB rfl ?_ | refine qD ?_ | refine qF ?_)
  refine go_loop_ (α := SFd l fun p => p.key.toList == key.toList) (fun p => ⟨[(1, .d (.str key)), (4, .ptr 0 0), (7, .d (.sl (l.map encPr))), (8, .d (.int (l.map encPr).length)), (9, .d (.int p.i))], [.var 28 (.cs [.d (.int 0), .d (.int 0), .d (.int 0), .d (.str ⟨#[]⟩), .nilS])]⟩) (fun p => l.length - p.i) ⟨0, by omega, rfl⟩ ((zle 1)) ?_
  rintro ⟨i, hi, ok⟩
  dsimp only
  rcases Nat.lt_or_ge i l.length with hlt | hge
  · have g1 : decide ((i : Int) < ((l.map encPr).length : Int)) = true := by rw [hle]; simpa using hlt
    have hx0 := List.getElem?_eq_getElem hlt
    generalize l[i] = x at hx0
    have hx := map_at (f := encPr) hx0
    have hcx := cloneValue_ev x.v (hn.2 x (List.mem_of_getElem? hx0))
    rw [ok, find_at hx0]
    cases hc : x.key.toList == key.toList with
    | true =>
      repeat' (first | refine zS rfl ?_ | refine qA ?_ | refine qB rfl ?_ | refine qD ?_ | refine qE ?_ | refine qF ?_ | refine qI (encPr x) rfl (guardX_ok rfl) rfl rfl rfl rfl rfl rfl (by first | omega | decide) hx ?_ | refine qP rfl rfl rfl rfl rfl rfl b193 (hcx) ?_ | refine zT rfl ?_ | refine qL rfl rfl ?_ | exact zD)
    | false =>
      repeat' (first | refine zS rfl ?_ | refine qA ?_ | refine qB rfl ?_ | refine qD ?_ | refine qE ?_ | refine qF ?_ | refine qG ?_ | refine qI (encPr x) rfl (guardX_ok rfl) rfl rfl rfl rfl rfl rfl (by first | omega | decide) hx ?_ | refine zT rfl ?_ | refine zU rfl ?_)
      refine go_stop ?_
      exact ⟨⟨i + 1, by omega, by rw [ok, find_at hx0, hc]; rfl⟩, by dsimp only; omega, (zle 1)⟩
  · have g1 : decide ((i : Int) < ((l.map encPr).length : Int)) = false := by rw [hle]; simp; omega
    rw [ok, List.drop_eq_nil_of_le hge]
    repeat' (first | refine zS rfl ?_ | refine qA ?_ | refine qB rfl ?_ | refine qD ?_ | refine qH rfl ?_ | refine qP rfl rfl rfl rfl rfl rfl b32 (null_ev) ?_ | refine zU rfl ?_ | refine qL rfl rfl ?_ | exact zD)
def narN (n : Nd) : Prop := n.labels.length ≤ 2000000 ∧ narP n.props
theorem gnode_ev (g : Gr) (id : Int) (hn : ∀ n ∈ g.nodes, narN n) : Ev E 96 [encGr g, .int id] (.tup [encNd ((findN g.nodes id).getD nd0), .bool (findN g.nodes id).isSome]) := Ev.fit fun hfit => by
  obtain ⟨f1, -⟩ := fit_gr (g := g) (hfit _ (by simp))
  obtain ⟨hmax, -⟩ := fit_map f1
  have hle : (g.nodes.map encNd).length = g.nodes.length := by simp
  unfold findN
  refine enter2 Tryz.func96 Tryz.ntmps96 rfl rfl fun w0 F0 O => ?_
  repeat' (first | refine zS rfl ?_ | refine qA ?_ | refine qB rfl ?_ | refine qD ?_ | refine qF ?_)
  refine go_loop_ (α := SFd g.nodes fun n => n.id == id) (fun p => ⟨[(1, .d (.int id)), (4, .ptr 1 0), (9, .d (.sl (g.nodes.map encNd))), (10, .d (.int (g.nodes.map encNd).length)), (11, .d (.int p.i))], [.var 25 (.w (.d (encGr g))), .var 87 (.cs [.d (.int 0), .nilS, .nilS])]⟩) (fun p => g.nodes.length - p.i) ⟨0, by omega, rfl⟩ ((zle 2)) ?_
  rintro ⟨i, hi, ok⟩
  dsimp only
  rcases Nat.lt_or_ge i g.nodes.length with hlt | hge
  · have g1 : decide ((i : Int) < ((g.nodes.map encNd).length : Int)) = true := by rw [hle]; simpa using hlt
    have hx0 := List.getElem?_eq_getElem hlt
    generalize g.nodes[i] = x at hx0
    have hx := map_at (f := encNd) hx0
    obtain ⟨n1, n2⟩ := hn x (List.mem_of_getElem? hx0)
    have hc1 := cloneS_ev x.labels n1
    have hc2 := cloneProps_ev x.props n2
    rw [ok, find_at hx0]
    cases hc : x.id == id with
    | true =>
      obtain rfl : x.id = id := by simpa using hc
      repeat' (first | refine qR0 (id := 5) [8] (by kernel_rfl) (by kernel_rfl) (by repeat (first | exact trivial | refine ⟨⟨rfl, rfl⟩, ?_⟩ | refine ⟨trivial, ?_⟩)) ?_ | refine rgF (id := 5) (i := 0) 8 (by kernel_rfl) rfl ?_ | refine rgStore (id := 5) (i := 8) rfl rfl rfl rfl rfl rfl rfl rfl rfl rfl rfl (by repeat (first | exact trivial | refine ⟨⟨rfl, rfl⟩, ?_⟩ | refine ⟨trivial, ?_⟩)) ?_ | refine rgF (id := 5) (i := 9) 1 (by kernel_rfl) rfl ?_ | refine rgN ?_ | refine zS rfl ?_ | refine qA ?_ | refine qB rfl ?_ | refine qD ?_ | refine qE ?_ | refine qF ?_ | refine qI (encNd x) rfl (guardX_ok rfl) rfl rfl rfl rfl rfl rfl (by first | omega | decide) hx ?_ | refine qP rfl rfl rfl rfl rfl rfl b152 (hc1) ?_ | refine qP rfl rfl rfl rfl rfl rfl b151 (hc2) ?_ | refine zT rfl ?_ | refine qM rfl rfl rfl ?_ | exact zL)
    | false =>
      repeat' (first | refine zS rfl ?_ | refine qA ?_ | refine qB rfl ?_ | refine qD ?_ | refine qE ?_ | refine qF ?_ | refine qG ?_ | refine qI (encNd x) rfl (guardX_ok rfl) rfl rfl rfl rfl rfl rfl (by first | omega | decide) hx ?_ | refine zT rfl ?_ | refine zU rfl ?_)
      refine go_stop ?_
      exact ⟨⟨i + 1, by omega, by rw [ok, find_at hx0, hc]; rfl⟩, by dsimp only; omega, (zle 2)⟩
  · have g1 : decide ((i : Int) < ((g.nodes.map encNd).length : Int)) = false := by rw [hle]; simp; omega
    rw [ok, List.drop_eq_nil_of_le hge]
    repeat' (first | refine zS rfl ?_ | refine qA ?_ | refine qB rfl ?_ | refine qD ?_ | refine qH rfl ?_ | refine zU rfl ?_ | refine qM rfl rfl rfl ?_ | exact zL)
theorem gedge_ev (g : Gr) (id : Int) (hn : ∀ e ∈ g.edges, narP e.props) : Ev E 94 [encGr g, .int id] (.tup [encEd ((findE g.edges id).getD ed0), .bool (findE g.edges id).isSome]) := Ev.fit fun hfit => by
  obtain ⟨-, f1⟩ := fit_gr (g := g) (hfit _ (by simp))
  obtain ⟨hmax, -⟩ := fit_map f1
  have hle : (g.edges.map encEd).length = g.edges.length := by simp
  unfold findE
  refine enter2 Tryz.func94 Tryz.ntmps94 rfl rfl fun w0 F0 O => ?_
  repeat' (first | refine zS rfl ?_ | refine qA ?_ | refine qB rfl ?_ | refine qD ?_ | refine qF ?_)
  refine go_loop_ (α := SFd g.edges fun n => n.id == id) (fun p => ⟨[(1, .d (.int id)), (4, .ptr 1 0), (9, .d (.sl (g.edges.map encEd))), (10, .d (.int (g.edges.map encEd).length)), (11, .d (.int p.i))], [.var 25 (.w (.d (encGr g))), .var 81 (.cs [.d (.int 0), .d (.int 0), .d (.int 0), .d (.str ⟨#[]⟩), .nilS])]⟩) (fun p => g.edges.length - p.i) ⟨0, by omega, rfl⟩ ((zle 2)) ?_
  rintro ⟨i, hi, ok⟩
  dsimp only
  rcases Nat.lt_or_ge i g.edges.length with hlt | hge
  · have g1 : decide ((i : Int) < ((g.edges.map encEd).length : Int)) = true := by rw [hle]; simpa using hlt
    have hx0 := List.getElem?_eq_getElem hlt
    generalize g.edges[i] = x at hx0
    have hx := map_at (f := encEd) hx0
    have hc2 := cloneProps_ev x.props (hn x (List.mem_of_getElem? hx0))
    rw [ok, find_at hx0]
    cases hc : x.id == id with
    | true =>
      repeat' (first | refine zS rfl ?_ | refine qA ?_ | refine qB rfl ?_ | refine qD ?_ | refine qE ?_ | refine qF ?_ | refine qI (encEd x) rfl (guardX_ok rfl) rfl rfl rfl rfl rfl rfl (by first | omega | decide) hx ?_ | refine qP rfl rfl rfl rfl rfl rfl b151 (hc2) ?_ | refine zT rfl ?_ | refine qM rfl rfl rfl ?_ | exact zL)
    | false =>
      repeat' (first | refine zS rfl ?_ | refine qA ?_ | refine qB rfl ?_ | refine qD ?_ | refine qE ?_ | refine qF ?_ | refine qG ?_ | refine qI (encEd x) rfl (guardX_ok rfl) rfl rfl rfl rfl rfl rfl (by first | omega | decide) hx ?_ | refine zT rfl ?_ | refine zU rfl ?_)
      refine go_stop ?_
      exact ⟨⟨i + 1, by omega, by rw [ok, find_at hx0, hc]; rfl⟩, by dsimp only; omega, (zle 2)⟩
  · have g1 : decide ((i : Int) < ((g.edges.map encEd).length : Int)) = false := by rw [hle]; simp; omega
    rw [ok, List.drop_eq_nil_of_le hge]
    repeat' (first | refine zS rfl ?_ | refine qA ?_ | refine qB rfl ?_ | refine qD ?_ | refine qH rfl ?_ | refine zU rfl ?_ | refine qM rfl rfl rfl ?_ | exact zL)
end Go.Proofs.YthieohigmpfknaaGreatDoor

/- Expressions as plain trees, how they are written as data, and the weighing of expressions by the law's own text. Conditions: none; the budget is at most 2^40. -/
namespace Go.Proofs.YthieohigmpfknaaGreatDoor
open Go Go.Abs Go.Val
attribute [local irreducible] go SGo HasBody Ev ExtEv EvO EvS

/-- An expression: its operator, its constant, its name, its mark DISTINCT, its operands. -/
inductive Ex where
  | mk (op : Int) (v : V) (nm : ByteArray) (ds : Bool) (ks : List Ex)
  deriving Inhabited
def Ex.op : Ex → Int | .mk op _ _ _ _ => op
def Ex.v : Ex → V | .mk _ v _ _ _ => v
def Ex.nm : Ex → ByteArray | .mk _ _ nm _ _ => nm
def Ex.ds : Ex → Bool | .mk _ _ _ ds _ => ds
def Ex.ks : Ex → List Ex | .mk _ _ _ _ ks => ks
theorem Ex.eta (e : Ex) : Ex.mk e.op e.v e.nm e.ds e.ks = e := by cases e; rfl
mutual
def kidsE : Ex → List D
  | .mk _ _ _ _ l => encEL l
def encEL : List Ex → List D
  | [] => []
  | e :: r => .agg [.int e.op, .int e.v.k, .int e.v.n, .int e.v.d, .str e.v.s, .sl (kids e.v), .str e.nm, .bool e.ds, .sl (kidsE e)] :: encEL r
end
def encE (e : Ex) : D := .agg [.int e.op, .int e.v.k, .int e.v.n, .int e.v.d, .str e.v.s, .sl (kids e.v), .str e.nm, .bool e.ds, .sl (kidsE e)]
theorem encEL_map (l : List Ex) : encEL l = l.map encE := by
  induction l with
  | nil => simp [encEL]
  | cons v r ih => simp [encEL, ih, encE]
theorem kidsE_eq (e : Ex) : kidsE e = e.ks.map encE := by
  cases e
  simp [kidsE, encEL_map, Ex.ks]
theorem kidsE_get {e : Ex} {i : Nat} {x : Ex} (h : e.ks[i]? = some x) : (kidsE e)[i]? = some (encE x) := by
  rw [kidsE_eq, List.getElem?_map, h]; rfl
theorem kidsE_len (e : Ex) : (kidsE e).length = e.ks.length := by rw [kidsE_eq]; simp
theorem fit_encE {e : Ex} (h : Fit (encE e)) : inR .i64 e.op ∧ Fit (enc e.v) ∧ e.nm.size ≤ 9223372036854775807 ∧ e.ks.length ≤ 9223372036854775807 ∧ ∀ x ∈ e.ks, Fit (encE x) := by
  have hc := h.aggs
  have h5 := (hc (.sl (kidsE e)) (by simp)).sls
  rw [kidsE_len] at h5
  refine ⟨(hc (.int e.op) (by simp)).int, ?_, (hc (.str e.nm) (by simp)).str, h5.1, fun x hx => h5.2 _ ?_⟩
  · refine Fit.agg _ fun c hm => hc c ?_
    simp only [List.mem_cons, List.not_mem_nil, or_false] at hm ⊢
    rcases hm with rfl | rfl | rfl | rfl | rfl <;> simp
  · rw [kidsE_eq]
    exact List.mem_map_of_mem hx
/-- Induction over expressions. -/
theorem xind {P : Ex → Prop} (h : ∀ op v nm ds ks, (∀ x ∈ ks, P x) → P (.mk op v nm ds ks)) : ∀ e, P e := by
  intro e
  refine Ex.rec (motive_1 := P) (motive_2 := fun l => ∀ x ∈ l, P x) (fun op v nm ds ks ih => h op v nm ds ks ih) (fun x hx => by simp at hx) (fun a r ha hr x hx => ?_) e
  rcases List.mem_cons.1 hx with rfl | hx
  · exact ha
  · exact hr x hx

/-! ## The law's weighing -/
end Go.Proofs.YthieohigmpfknaaGreatDoor

/- Names of the language: letters, names, by both texts. Conditions: none. -/
namespace Go.Proofs.YthieohigmpfknaaGreatDoor
open Go Go.Abs Go.Val
attribute [local irreducible] go SGo HasBody Ev ExtEv EvO EvS

def letF (n : Int) : Bool := (decide (n ≥ 97) && decide (n ≤ 122)) || (decide (n ≥ 65) && decide (n ≤ 90))
def wcF (n : Int) : Bool := letF n || ((decide (n ≥ 48) && decide (n ≤ 57)) || n == 95)
def nameF (s : ByteArray) : Bool := decide (1 ≤ s.size) && (decide (s.size ≤ 20) && (letF (byteAt s 0) && (List.range s.size).all fun j => wcF (byteAt s j)))
theorem letter_ev (n : Int) : Ev E 209 [.imm (.int .u8 n)] (.d (.bool (letF n))) := by
  refine enter1 Tryz.func209 Tryz.ntmps209 rfl rfl fun w0 F0 O => ?_
  repeat' (first | refine zS rfl ?_ | refine qA ?_ | refine qB rfl ?_ | refine qD ?_ | refine qL rfl rfl ?_ | (refine qY rfl rfl rfl rfl ?_ ?_ <;> intro _))
  all_goals (refine congrArg D.bool ?_; simp_all [letF] <;> omega)
theorem rletter_ev (n : Int) : Ev E 206 [.imm (.int .u8 n)] (.d (.bool (letF n))) := by
  refine enter1 Tryz.func206 Tryz.ntmps206 rfl rfl fun w0 F0 O => ?_
  repeat' (first | refine zS rfl ?_ | refine qA ?_ | refine qB rfl ?_ | refine qD ?_ | refine qL rfl rfl ?_ | (refine qY rfl rfl rfl rfl ?_ ?_ <;> intro _))
  all_goals (refine congrArg D.bool ?_; simp_all [letF] <;> omega)
structure SNm (s : ByteArray) where
  i : Nat
  hi : i ≤ s.size
  ok : ((List.range s.size).all fun j => wcF (byteAt s j)) = ((List.range s.size).drop i).all fun j => wcF (byteAt s j)
theorem range_at {n i : Nat} (h : i < n) : (List.range n)[i]? = some i := by rw [List.getElem?_range h]
theorem byteAt_rng (s : ByteArray) (i : Nat) (h : i < s.size) : 0 ≤ byteAt s i ∧ byteAt s i ≤ 255 := by
  obtain ⟨b, -, hb2⟩ := cOK_at h
  rw [hb2]
  have := b.toNat_lt
  omega
set_option maxHeartbeats 2000000 in
theorem name_ev (s : ByteArray) : Ev E 182 [.str s] (.d (.bool (nameF s))) := Ev.fit fun hfit => by
  have hs := (hfit (.str s) (by simp)).str
  by_cases h0 : s.size = 0
  · have hse : s = ByteArray.empty := by simpa using h0
    have gs : (s.toList == (⟨#[]⟩ : ByteArray).toList) = true := by rw [hse]; exact beq_self_eq_true ByteArray.empty.toList
    have e : nameF s = false := by unfold nameF; rw [h0]; rfl
    rw [e]
    refine enter1 Tryz.func182 Tryz.ntmps182 rfl rfl fun w0 F0 O => ?_
    repeat' (first | refine zS rfl ?_ | refine qA ?_ | refine qB rfl ?_ | refine qD ?_ | refine zT rfl ?_ | refine qL rfl rfl ?_ | refine zX rfl rfl rfl rfl ?_ | exact zD)
  have g0 : (s.toList == (⟨#[]⟩ : ByteArray).toList) = false := by
    rw [beq_eq_false_iff_ne]
    intro e
    rw [ByteArray.toList_eq, ByteArray.toList_eq] at e
    have := congrArg List.length e
    simp at this
    exact h0 (by rw [this]; rfl)
  cases h20 : decide (s.size ≤ 20) with
  | false =>
    have g1 : decide ((s.size : Int) > 20) = true := by simp at h20 ⊢; omega
    have e : nameF s = false := by unfold nameF; rw [h20]; simp
    rw [e]
    refine enter1 Tryz.func182 Tryz.ntmps182 rfl rfl fun w0 F0 O => ?_
    repeat' (first | refine zS rfl ?_ | refine qA ?_ | refine qB rfl ?_ | refine qD ?_ | refine zT rfl ?_ | refine qL rfl rfl ?_ | refine zX rfl rfl rfl rfl ?_ | refine zW rfl rfl rfl rfl ?_ | exact zD)
  | true =>
    have g1 : decide ((s.size : Int) > 20) = false := by simp at h20 ⊢; omega
    have hb0 := byteAt_rng s 0 (by omega)
    have hl := letter_ev (byteAt s 0)
    cases hl0 : letF (byteAt s 0) with
    | false =>
      rw [hl0] at hl
      have e : nameF s = false := by unfold nameF; rw [hl0]; simp
      rw [e]
      refine enter1 Tryz.func182 Tryz.ntmps182 rfl rfl fun w0 F0 O => ?_
      repeat' (first | refine zS rfl ?_ | refine qA ?_ | refine qB rfl ?_ | refine qD ?_ | refine qP rfl rfl rfl rfl rfl rfl b209 (hl) ?_ | refine zT rfl ?_ | refine qL rfl rfl ?_ | refine zW rfl rfl rfl rfl ?_ | exact zD)
    | true =>
      rw [hl0] at hl
      have e : nameF s = (List.range s.size).all fun j => wcF (byteAt s j) := by
        unfold nameF; rw [hl0, h20, show decide (1 ≤ s.size) = true by simp; omega]; rfl
      rw [e]
      refine enter1 Tryz.func182 Tryz.ntmps182 rfl rfl fun w0 F0 O => ?_
      repeat' (first | refine zS rfl ?_ | refine qA ?_ | refine qB rfl ?_ | refine qD ?_ | refine qE ?_ | refine qF ?_ | refine qP rfl rfl rfl rfl rfl rfl b209 (hl) ?_ | refine zU rfl ?_ | refine zW rfl rfl rfl rfl ?_)
      refine go_loop_ (α := SNm s) (fun p => ⟨[(0, .d (.str s)), (18, .d (.int s.size)), (19, .d (.int p.i))], []⟩) (fun p => s.size - p.i) ⟨0, by omega, rfl⟩ ((zle 0)) ?_
      rintro ⟨i, hi, ok⟩
      dsimp only
      rcases Nat.lt_or_ge i s.size with hlt | hge
      · have hd : decide ((i : Int) < (s.size : Int)) = true := by simpa using hlt
        have hb := byteAt_rng s i hlt
        rw [ok, drop_at (range_at hlt), List.all_cons]
        have hli := letter_ev (byteAt s i)
        have hti : (i : Int).toNat = i := Int.toNat_natCast i
        rw [← hti] at hli hb
        cases hl1 : letF (byteAt s (i : Int).toNat) with
        | true =>
          rw [hl1] at hli
          rw [hti] at hl1
          have hw : wcF (byteAt s i) = true := by unfold wcF; rw [hl1]; rfl
          repeat' (first | refine zS rfl ?_ | refine qA ?_ | refine qB rfl ?_ | refine qD ?_ | refine qE ?_ | refine qF ?_ | refine qG ?_ | refine qP rfl rfl rfl rfl rfl rfl b209 (hli) ?_ | refine zT rfl ?_ | refine zU rfl ?_)
          refine go_stop ?_
          exact ⟨⟨i + 1, by omega, by rw [ok, drop_at (range_at hlt), List.all_cons, hw, Bool.true_and]⟩, by dsimp only; omega, (zle 0)⟩
        | false =>
          rw [hl1] at hli
          have key : ∀ b, ((decide (byteAt s i ≥ 48) && decide (byteAt s i ≤ 57)) || byteAt s i == 95) = b → wcF (byteAt s i) = b := by
            intro b hb
            unfold wcF
            rw [← hti, hl1, hti, hb, Bool.false_or]
          cases h48 : decide (byteAt s (i : Int).toNat < 48) with
          | true =>
            cases h95 : byteAt s (i : Int).toNat != 95 with
            | true =>
              have hw : wcF (byteAt s i) = false := key _ (by rw [hti] at h48 h95; simp at h48 h95 ⊢; exact ⟨fun h => by omega, h95⟩)
              repeat' (first | refine zS rfl ?_ | refine qA ?_ | refine qB rfl ?_ | refine qD ?_ | refine qE ?_ | refine qF ?_ | refine qP rfl rfl rfl rfl rfl rfl b209 (hli) ?_ | refine zT rfl ?_ | refine qL rfl rfl ?_ | refine zX rfl rfl rfl rfl ?_)
              rw [hw]; rfl
            | false =>
              have hw : wcF (byteAt s i) = true := key _ (by rw [hti] at h48 h95; simp at h48 h95 ⊢; exact .inr h95)
              repeat' (first | refine zS rfl ?_ | refine qA ?_ | refine qB rfl ?_ | refine qD ?_ | refine qE ?_ | refine qF ?_ | refine qG ?_ | refine qP rfl rfl rfl rfl rfl rfl b209 (hli) ?_ | refine zT rfl ?_ | refine zU rfl ?_ | refine zX rfl rfl rfl rfl ?_)
              refine go_stop ?_
              exact ⟨⟨i + 1, by omega, by rw [ok, drop_at (range_at hlt), List.all_cons, hw, Bool.true_and]⟩, by dsimp only; omega, (zle 0)⟩
          | false =>
            cases h57 : decide (byteAt s (i : Int).toNat > 57) with
            | false =>
              have hw : wcF (byteAt s i) = true := key _ (by rw [hti] at h48 h57; simp at h48 h57 ⊢; exact .inl ⟨h48, h57⟩)
              repeat' (first | refine zS rfl ?_ | refine qA ?_ | refine qB rfl ?_ | refine qD ?_ | refine qE ?_ | refine qF ?_ | refine qG ?_ | refine qP rfl rfl rfl rfl rfl rfl b209 (hli) ?_ | refine zT rfl ?_ | refine zU rfl ?_ | refine zW rfl rfl rfl rfl ?_)
              refine go_stop ?_
              exact ⟨⟨i + 1, by omega, by rw [ok, drop_at (range_at hlt), List.all_cons, hw, Bool.true_and]⟩, by dsimp only; omega, (zle 0)⟩
            | true =>
              cases h95 : byteAt s (i : Int).toNat != 95 with
              | true =>
                have hw : wcF (byteAt s i) = false := key _ (by rw [hti] at h48 h57 h95; simp at h48 h57 h95 ⊢; exact ⟨fun h => by omega, h95⟩)
                repeat' (first | refine zS rfl ?_ | refine qA ?_ | refine qB rfl ?_ | refine qD ?_ | refine qE ?_ | refine qF ?_ | refine qP rfl rfl rfl rfl rfl rfl b209 (hli) ?_ | refine zT rfl ?_ | refine qL rfl rfl ?_ | refine zX rfl rfl rfl rfl ?_ | refine zW rfl rfl rfl rfl ?_)
                rw [hw]; rfl
              | false =>
                have hw : wcF (byteAt s i) = true := key _ (by rw [hti] at h95; simp at h95 ⊢; exact .inr h95)
                repeat' (first | refine zS rfl ?_ | refine qA ?_ | refine qB rfl ?_ | refine qD ?_ | refine qE ?_ | refine qF ?_ | refine qG ?_ | refine qP rfl rfl rfl rfl rfl rfl b209 (hli) ?_ | refine zT rfl ?_ | refine zU rfl ?_ | refine zX rfl rfl rfl rfl ?_ | refine zW rfl rfl rfl rfl ?_)
                refine go_stop ?_
                exact ⟨⟨i + 1, by omega, by rw [ok, drop_at (range_at hlt), List.all_cons, hw, Bool.true_and]⟩, by dsimp only; omega, (zle 0)⟩
      · have hd : decide ((i : Int) < (s.size : Int)) = false := by simp; omega
        have : (List.range s.size).drop i = [] := List.drop_eq_nil_of_le (by simpa using hge)
        rw [ok, this]
        repeat' (first | refine zS rfl ?_ | refine qA ?_ | refine qB rfl ?_ | refine qD ?_ | refine qH rfl ?_ | refine zU rfl ?_ | refine qL rfl rfl ?_ | exact zD)
set_option maxHeartbeats 2000000 in
theorem rname_ev (s : ByteArray) : Ev E 180 [.str s] (.d (.bool (nameF s))) := Ev.fit fun hfit => by
  have hs := (hfit (.str s) (by simp)).str
  cases h0 : decide (1 ≤ s.size) with
  | false =>
    have g0 : decide ((s.size : Int) < 1) = true := decide_eq_true (by have := of_decide_eq_false h0; omega)
    have e : nameF s = false := by unfold nameF; rw [h0]; simp
    rw [e]
    refine enter1 Tryz.func180 Tryz.ntmps180 rfl rfl fun w0 F0 O => ?_
    repeat' (first | refine zS rfl ?_ | refine qA ?_ | refine qB rfl ?_ | refine qD ?_ | refine zT rfl ?_ | refine qL rfl rfl ?_ | refine zX rfl rfl rfl rfl ?_ | exact zD)
  | true =>
  have hs1 := of_decide_eq_true h0
  have g0 : decide ((s.size : Int) < 1) = false := by simp; omega
  cases h20 : decide (s.size ≤ 20) with
  | false =>
    have g1 : decide ((s.size : Int) > 20) = true := by simp at h20 ⊢; omega
    have e : nameF s = false := by unfold nameF; rw [h20]; simp
    rw [e]
    refine enter1 Tryz.func180 Tryz.ntmps180 rfl rfl fun w0 F0 O => ?_
    repeat' (first | refine zS rfl ?_ | refine qA ?_ | refine qB rfl ?_ | refine qD ?_ | refine zT rfl ?_ | refine qL rfl rfl ?_ | refine zX rfl rfl rfl rfl ?_ | refine zW rfl rfl rfl rfl ?_ | exact zD)
  | true =>
    have g1 : decide ((s.size : Int) > 20) = false := by simp at h20 ⊢; omega
    have hb0 := byteAt_rng s 0 (by omega)
    have hl := rletter_ev (byteAt s 0)
    cases hl0 : letF (byteAt s 0) with
    | false =>
      rw [hl0] at hl
      have e : nameF s = false := by unfold nameF; rw [hl0]; simp
      rw [e]
      refine enter1 Tryz.func180 Tryz.ntmps180 rfl rfl fun w0 F0 O => ?_
      repeat' (first | refine zS rfl ?_ | refine qA ?_ | refine qB rfl ?_ | refine qD ?_ | refine qP rfl rfl rfl rfl rfl rfl b206 (hl) ?_ | refine zT rfl ?_ | refine qL rfl rfl ?_ | refine zW rfl rfl rfl rfl ?_ | exact zD)
    | true =>
      rw [hl0] at hl
      have e : nameF s = (List.range s.size).all fun j => wcF (byteAt s j) := by
        unfold nameF; rw [hl0, h20, h0]; rfl
      have hw0 : wcF (byteAt s 0) = true := by unfold wcF; rw [hl0]; rfl
      have hst1 : ((List.range s.size).all fun j => wcF (byteAt s j)) = ((List.range s.size).drop 1).all fun j => wcF (byteAt s j) := by
        have := drop_at (range_at (show 0 < s.size by omega))
        rw [List.drop_zero] at this
        conv => lhs; rw [this]
        rw [List.all_cons, hw0, Bool.true_and]
      rw [e]
      refine enter1 Tryz.func180 Tryz.ntmps180 rfl rfl fun w0 F0 O => ?_
      repeat' (first | refine zS rfl ?_ | refine qA ?_ | refine qB rfl ?_ | refine qD ?_ | refine qE ?_ | refine qF ?_ | refine qP rfl rfl rfl rfl rfl rfl b206 (hl) ?_ | refine zU rfl ?_ | refine zW rfl rfl rfl rfl ?_)
      refine go_loop_ (α := SNm s) (fun p => ⟨[(0, .d (.str s)), (3, .d (.int p.i))], []⟩) (fun p => s.size - p.i) ⟨1, by omega, hst1⟩ ((zle 0)) ?_
      rintro ⟨i, hi, ok⟩
      dsimp only
      rcases Nat.lt_or_ge i s.size with hlt | hge
      · have hd : decide ((i : Int) < (s.size : Int)) = true := by simpa using hlt
        have hb := byteAt_rng s i hlt
        rw [ok, drop_at (range_at hlt), List.all_cons]
        have hli := rletter_ev (byteAt s i)
        have hti : (i : Int).toNat = i := Int.toNat_natCast i
        rw [← hti] at hli hb
        cases hl1 : letF (byteAt s (i : Int).toNat) with
        | true =>
          rw [hl1] at hli
          rw [hti] at hl1
          have hw : wcF (byteAt s i) = true := by unfold wcF; rw [hl1]; rfl
          repeat' (first | refine zS rfl ?_ | refine qA ?_ | refine qB rfl ?_ | refine qD ?_ | refine qE ?_ | refine qF ?_ | refine qG ?_ | refine qP rfl rfl rfl rfl rfl rfl b206 (hli) ?_ | refine zT rfl ?_ | refine zU rfl ?_)
          refine go_stop ?_
          exact ⟨⟨i + 1, by omega, by rw [ok, drop_at (range_at hlt), List.all_cons, hw, Bool.true_and]⟩, by dsimp only; omega, (zle 0)⟩
        | false =>
          rw [hl1] at hli
          have key : ∀ b, ((decide (byteAt s i ≥ 48) && decide (byteAt s i ≤ 57)) || byteAt s i == 95) = b → wcF (byteAt s i) = b := by
            intro b hb
            unfold wcF
            rw [← hti, hl1, hti, hb, Bool.false_or]
          cases h95 : byteAt s (i : Int).toNat != 95 with
          | false =>
            have hw : wcF (byteAt s i) = true := key _ (by rw [hti] at h95; simp at h95 ⊢; exact .inr h95)
            repeat' (first | refine zS rfl ?_ | refine qA ?_ | refine qB rfl ?_ | refine qD ?_ | refine qE ?_ | refine qF ?_ | refine qG ?_ | refine qP rfl rfl rfl rfl rfl rfl b206 (hli) ?_ | refine zT rfl ?_ | refine zU rfl ?_ | refine zW rfl rfl rfl rfl ?_)
            refine go_stop ?_
            exact ⟨⟨i + 1, by omega, by rw [ok, drop_at (range_at hlt), List.all_cons, hw, Bool.true_and]⟩, by dsimp only; omega, (zle 0)⟩
          | true =>
            cases h48 : decide (byteAt s (i : Int).toNat < 48) with
            | true =>
              have hw : wcF (byteAt s i) = false := key _ (by rw [hti] at h48 h95; simp at h48 h95 ⊢; exact ⟨fun h => by omega, h95⟩)
              repeat' (first | refine zS rfl ?_ | refine qA ?_ | refine qB rfl ?_ | refine qD ?_ | refine qE ?_ | refine qF ?_ | refine qP rfl rfl rfl rfl rfl rfl b206 (hli) ?_ | refine zT rfl ?_ | refine qL rfl rfl ?_ | refine zX rfl rfl rfl rfl ?_)
              rw [hw]; rfl
            | false =>
              cases h57 : decide (byteAt s (i : Int).toNat > 57) with
              | false =>
                have hw : wcF (byteAt s i) = true := key _ (by rw [hti] at h48 h57; simp at h48 h57 ⊢; exact .inl ⟨h48, h57⟩)
                repeat' (first | refine zS rfl ?_ | refine qA ?_ | refine qB rfl ?_ | refine qD ?_ | refine qE ?_ | refine qF ?_ | refine qG ?_ | refine qP rfl rfl rfl rfl rfl rfl b206 (hli) ?_ | refine zT rfl ?_ | refine zU rfl ?_ | refine zX rfl rfl rfl rfl ?_ | refine zW rfl rfl rfl rfl ?_)
                refine go_stop ?_
                exact ⟨⟨i + 1, by omega, by rw [ok, drop_at (range_at hlt), List.all_cons, hw, Bool.true_and]⟩, by dsimp only; omega, (zle 0)⟩
              | true =>
                have hw : wcF (byteAt s i) = false := key _ (by rw [hti] at h48 h57 h95; simp at h48 h57 h95 ⊢; exact ⟨fun h => by omega, h95⟩)
                repeat' (first | refine zS rfl ?_ | refine qA ?_ | refine qB rfl ?_ | refine qD ?_ | refine qE ?_ | refine qF ?_ | refine qP rfl rfl rfl rfl rfl rfl b206 (hli) ?_ | refine zT rfl ?_ | refine qL rfl rfl ?_ | refine zX rfl rfl rfl rfl ?_ | refine zW rfl rfl rfl rfl ?_)
                rw [hw]; rfl
      · have hd : decide ((i : Int) < (s.size : Int)) = false := by simp; omega
        have : (List.range s.size).drop i = [] := List.drop_eq_nil_of_le (by simpa using hge)
        rw [ok, this]
        repeat' (first | refine zS rfl ?_ | refine qA ?_ | refine qB rfl ?_ | refine qD ?_ | refine qH rfl ?_ | refine zU rfl ?_ | refine qL rfl rfl ?_ | exact zD)
end Go.Proofs.YthieohigmpfknaaGreatDoor

/- A word between blanks in a text of words between blanks: it is one of them. Conditions: no word has a blank. -/
namespace Go.Proofs.YthieohigmpfknaaGreatDoor
open Go Go.Abs Go.Val

def joinW : List (List UInt8) → List UInt8
  | [] => [32]
  | w :: r => 32 :: (w ++ joinW r)
theorem joinW_head : ∀ r, ∃ t, joinW r = 32 :: t
  | [] => ⟨[], rfl⟩
  | w :: r => ⟨w ++ joinW r, rfl⟩
theorem contains_step (b : UInt8) (l sub : List UInt8) : Lib.contains (b :: l) sub = (sub.isPrefixOf (b :: l) || Lib.contains l sub) := by
  unfold Lib.contains
  have hg := Lib.index_ge l sub
  rw [show Lib.index (b :: l) sub = if sub.isPrefixOf (b :: l) then 0 else if Lib.index l sub == -1 then -1 else Lib.index l sub + 1 from rfl]
  cases hp : sub.isPrefixOf (b :: l) with
  | true => simp
  | false =>
    simp only [Bool.false_eq_true, if_false, Bool.false_or]
    by_cases h : Lib.index l sub = -1
    · simp [h]
    · have hb : (Lib.index l sub == -1) = false := by rw [beq_eq_false_iff_ne]; exact h
      rw [hb]
      simp only [Bool.false_eq_true, if_false, decide_eq_decide]
      omega
theorem contains_skip (p : List UInt8) : ∀ (w l : List UInt8), (32 : UInt8) ∉ w → Lib.contains (w ++ l) (32 :: p) = Lib.contains l (32 :: p)
  | [], l, _ => rfl
  | b :: w, l, h => by
    simp only [List.mem_cons, not_or] at h
    have hb : ((32 : UInt8) == b) = false := by rw [beq_eq_false_iff_ne]; exact h.1
    rw [List.cons_append, contains_step, contains_skip p w l h.2]
    have : (32 :: p).isPrefixOf (b :: (w ++ l)) = false := by simp only [List.isPrefixOf, hb, Bool.false_and]
    rw [this, Bool.false_or]
theorem pre_word : ∀ (U w t : List UInt8), (32 : UInt8) ∉ U → (32 : UInt8) ∉ w → (U ++ [32]).isPrefixOf (w ++ 32 :: t) = (U == w)
  | [], [], t, _, _ => by simp [List.isPrefixOf]
  | [], b :: w, t, _, h => by
    simp only [List.mem_cons, not_or] at h
    have hb : ((32 : UInt8) == b) = false := by rw [beq_eq_false_iff_ne]; exact h.1
    simp only [List.nil_append, List.cons_append, List.isPrefixOf, hb, Bool.false_and]
    rfl
  | a :: U, [], t, h, _ => by
    simp only [List.mem_cons, not_or] at h
    have ha : (a == (32 : UInt8)) = false := by rw [beq_eq_false_iff_ne]; exact fun e => h.1 e.symm
    simp only [List.nil_append, List.cons_append, List.isPrefixOf, ha, Bool.false_and]
    rfl
  | a :: U, b :: w, t, h, h' => by
    simp only [List.mem_cons, not_or] at h h'
    simp only [List.cons_append, List.isPrefixOf]
    rw [pre_word U w t h.2 h'.2]
    rfl
theorem contains_join (U : List UInt8) (hU : (32 : UInt8) ∉ U) : ∀ ws : List (List UInt8), (∀ w ∈ ws, (32 : UInt8) ∉ w) → Lib.contains (joinW ws) (32 :: (U ++ [32])) = ws.any fun w => U == w
  | [], _ => by
    have : (32 :: (U ++ [32])).isPrefixOf [(32 : UInt8)] = false := by cases U <;> simp [List.isPrefixOf]
    rw [joinW, contains_step, this]
    simp [Lib.contains, Lib.index]
  | w :: r, h => by
    obtain ⟨t, ht⟩ := joinW_head r
    have ih := contains_join U hU r fun x hx => h x (by simp [hx])
    rw [joinW, contains_step, contains_skip _ w _ (h w (by simp)), ih, List.any_cons]
    congr 1
    rw [ht]
    show ((32 : UInt8) == 32 && (U ++ [32]).isPrefixOf (w ++ 32 :: t)) = _
    rw [pre_word U w t hU (h w (by simp))]
    rfl
end Go.Proofs.YthieohigmpfknaaGreatDoor

/- The functions' numbers of operands and the aggregates' names, by both texts. Conditions: none. -/
namespace Go.Proofs.YthieohigmpfknaaGreatDoor
open Go Go.Abs Go.Val
attribute [local irreducible] go SGo HasBody Ev ExtEv EvO EvS

def isS (s : ByteArray) (t : ByteArray) : Bool := s.toList == t.toList
def fun1 (s : ByteArray) : Bool := isS s ⟨#[105, 100]⟩ || (isS s ⟨#[116, 121, 112, 101]⟩ || (isS s ⟨#[108, 97, 98, 101, 108, 115]⟩ || (isS s ⟨#[115, 105, 122, 101]⟩ || (isS s ⟨#[108, 101, 110, 103, 116, 104]⟩ || (isS s ⟨#[110, 111, 100, 101, 115]⟩ ||
  (isS s ⟨#[101, 100, 103, 101, 115]⟩ || (isS s ⟨#[102, 105, 114, 115, 116]⟩ || (isS s ⟨#[108, 97, 115, 116]⟩ || (isS s ⟨#[115, 116, 97, 114, 116]⟩ || (isS s ⟨#[101, 110, 100]⟩ || (isS s ⟨#[97, 98, 115]⟩ || isS s ⟨#[116, 101, 120, 116]⟩)))))))))))
def fun2 (s : ByteArray) : Bool := isS s ⟨#[99, 111, 97, 108, 101, 115, 99, 101]⟩
def ariLo (s : ByteArray) : Int := bif fun1 s then 1 else bif fun2 s then 2 else 0
def ariHi (s : ByteArray) : Int := bif fun1 s then 1 else bif fun2 s then 4 else 0
def aggF (s : ByteArray) : Bool := isS s ⟨#[99, 111, 117, 110, 116]⟩ || (isS s ⟨#[115, 117, 109]⟩ || (isS s ⟨#[109, 105, 110]⟩ || (isS s ⟨#[109, 97, 120]⟩ || (isS s ⟨#[97, 118, 103]⟩ || isS s ⟨#[99, 111, 108, 108, 101, 99, 116]⟩))))
theorem arity_ev (s : ByteArray) : Ev E 142 [.str s] (.tup [.int (ariLo s), .int (ariHi s)]) := by
  refine enter1 Tryz.func142 Tryz.ntmps142 rfl rfl fun w0 F0 O => ?_
  repeat' (first | refine zS rfl ?_ | refine qA ?_ | refine qB rfl ?_ | refine qD ?_ | refine qE ?_ | refine qF ?_ | refine qG ?_ | refine zT rfl ?_ | refine qM rfl rfl rfl ?_ | (refine qV rfl ?_ ?_ <;> intro _))
  all_goals simp_all [ariLo, ariHi, fun1, fun2, isS, Bool.cond_eq_ite]
theorem rarity_ev (s : ByteArray) : Ev E 141 [.str s] (.tup [.int (ariLo s), .int (ariHi s)]) := by
  refine enter1 Tryz.func141 Tryz.ntmps141 rfl rfl fun w0 F0 O => ?_
  repeat' (first | refine zS rfl ?_ | refine qA ?_ | refine qB rfl ?_ | refine qD ?_ | refine qE ?_ | refine qF ?_ | refine qG ?_ | refine zT rfl ?_ | refine qM rfl rfl rfl ?_ | (refine qV rfl ?_ ?_ <;> intro _))
  all_goals simp_all [ariLo, ariHi, fun1, fun2, isS, Bool.cond_eq_ite]
theorem agg_ev (s : ByteArray) : Ev E 145 [.str s] (.d (.bool (aggF s))) := by
  refine enter1 Tryz.func145 Tryz.ntmps145 rfl rfl fun w0 F0 O => ?_
  repeat' (first | refine zS rfl ?_ | refine qA ?_ | refine qB rfl ?_ | refine qD ?_ | refine qE ?_ | refine qF ?_ | refine qG ?_ | refine zT rfl ?_ | refine qL rfl rfl ?_ | (refine qV rfl ?_ ?_ <;> intro _))
  all_goals (refine congrArg D.bool ?_; simp_all [aggF, isS])
theorem ragg_ev (s : ByteArray) : Ev E 140 [.str s] (.d (.bool (aggF s))) := by
  refine enter1 Tryz.func140 Tryz.ntmps140 rfl rfl fun w0 F0 O => ?_
  repeat' (first | refine zS rfl ?_ | refine qA ?_ | refine qB rfl ?_ | refine qD ?_ | refine qE ?_ | refine qF ?_ | refine qG ?_ | refine zT rfl ?_ | refine qL rfl rfl ?_ | (refine qV rfl ?_ ?_ <;> intro _))
  all_goals (refine congrArg D.bool ?_; simp_all [aggF, isS])
end Go.Proofs.YthieohigmpfknaaGreatDoor

/- Blank constants, numbers of operands, unused fields, by both texts. Conditions: none. -/
namespace Go.Proofs.YthieohigmpfknaaGreatDoor
open Go Go.Abs Go.Val
attribute [local irreducible] go SGo HasBody Ev ExtEv EvO EvS

def blankF (v : V) : Bool := v.k == 0 && (v.n == 0 && (v.d == 0 && (s0 v.s && l0 v)))
theorem blank_ev (v : V) : Ev E 143 [enc v] (.d (.bool (blankF v))) := by
  refine enter1 Tryz.func143 Tryz.ntmps143 rfl rfl fun w0 F0 O => ?_
  repeat' (first | refine zS rfl ?_ | refine qA ?_ | refine qB rfl ?_ | refine qD ?_ | refine qL rfl rfl ?_ | (refine qY rfl rfl rfl rfl ?_ ?_ <;> intro _))
  all_goals (refine congrArg D.bool ?_; simp_all [blankF, s0, l0])
theorem rzero_ev (v : V) : Ev E 138 [enc v] (.d (.bool (blankF v))) := by
  refine enter1 Tryz.func138 Tryz.ntmps138 rfl rfl fun w0 F0 O => ?_
  repeat' (first | refine zS rfl ?_ | refine qA ?_ | refine qB rfl ?_ | refine qD ?_ | refine qL rfl rfl ?_ | (refine qY rfl rfl rfl rfl ?_ ?_ <;> intro _))
  all_goals (refine congrArg D.bool ?_; simp_all [blankF, s0, l0])
def kn0 (e : Ex) : Int := ((kidsE e).length : Int)
def opdF (e : Ex) : Bool :=
  bif e.op == 1 || e.op == 2 then kn0 e == 0 else
  bif e.op == 3 || (e.op == 4 || (e.op == 5 || (e.op == 6 || e.op == 21))) then kn0 e == 1 else
  bif e.op == 22 then decide (kn0 e ≤ 16) else
  bif e.op == 23 then ariLo e.nm == 0 || (decide (kn0 e ≥ ariLo e.nm) && decide (kn0 e ≤ ariHi e.nm)) else
  bif e.op == 24 then kn0 e == 1 || (kn0 e == 0 && (isS e.nm ⟨#[99, 111, 117, 110, 116]⟩ && !e.ds)) else kn0 e == 2
theorem ari_zero (s : ByteArray) : (ariHi s == 0) = (ariLo s == 0) := by
  unfold ariHi ariLo
  cases fun1 s <;> cases fun2 s <;> rfl
theorem operands_ev (e : Ex) : Ev E 85 [encE e] (.d (.bool (opdF e))) := by
  have ha := arity_ev e.nm
  refine enter1 Tryz.func85 Tryz.ntmps85 rfl rfl fun w0 F0 O => ?_
  repeat' (first | refine zS rfl ?_ | refine qA ?_ | refine qB rfl ?_ | refine qD ?_ | refine qE ?_ | refine qF ?_ | refine qG ?_ | refine qP rfl rfl rfl rfl rfl rfl b142 (ha) ?_ | refine zT rfl ?_ | refine qL rfl rfl ?_ | (refine qY rfl rfl rfl rfl ?_ ?_ <;> intro _) | (refine qV rfl ?_ ?_ <;> intro _))
  all_goals (refine congrArg D.bool ?_; simp_all [opdF, kn0, isS, Bool.cond_eq_ite] <;> first | rfl | (intro h; exfalso; omega) | (rw [show (ariLo e.nm == 0) = false by rw [beq_eq_false_iff_ne]; assumption]; rfl))
theorem roperands_ev (e : Ex) : Ev E 136 [encE e] (.d (.bool (opdF e))) := by
  have ha := rarity_ev e.nm
  have hz := ari_zero e.nm
  refine enter1 Tryz.func136 Tryz.ntmps136 rfl rfl fun w0 F0 O => ?_
  repeat' (first | refine zS rfl ?_ | refine qA ?_ | refine qB rfl ?_ | refine qD ?_ | refine qE ?_ | refine qF ?_ | refine qG ?_ | refine qP rfl rfl rfl rfl rfl rfl b141 (ha) ?_ | refine zT rfl ?_ | refine qL rfl rfl ?_ | (refine qY rfl rfl rfl rfl ?_ ?_ <;> intro _) | (refine qV rfl ?_ ?_ <;> intro _))
  all_goals (refine congrArg D.bool ?_; simp_all [opdF, kn0, isS, Bool.cond_eq_ite] <;> first | rfl | (intro h; exfalso; omega) | (rw [show (ariLo e.nm == 0) = false by rw [beq_eq_false_iff_ne]; assumption]; rfl))
def namF (op : Int) : Bool := op == 2 || (op == 3 || (op == 4 || (op == 23 || op == 24)))
theorem named_ev (op : Int) : Ev E 137 [.int op] (.d (.bool (namF op))) := by
  refine enter1 Tryz.func137 Tryz.ntmps137 rfl rfl fun w0 F0 O => ?_
  repeat' (first | refine zS rfl ?_ | refine qA ?_ | refine qB rfl ?_ | refine qD ?_ | refine qL rfl rfl ?_ | (refine qY rfl rfl rfl rfl ?_ ?_ <;> intro _))
  all_goals (refine congrArg D.bool ?_; simp_all [namF] <;> (rw [Bool.eq_iff_iff]; simp [*]))
def spareF (e : Ex) : Bool := (e.op == 1 || blankF e.v) && ((namF e.op || isS e.nm ⟨#[]⟩) && (e.op == 24 || !e.ds))
theorem spare_ev (e : Ex) : Ev E 86 [encE e] (.d (.bool (spareF e))) := by
  have hb := blank_ev e.v
  refine enter1 Tryz.func86 Tryz.ntmps86 rfl rfl fun w0 F0 O => ?_
  repeat' (first | refine zS rfl ?_ | refine qA ?_ | refine qB rfl ?_ | refine qD ?_ | refine qP rfl rfl rfl rfl rfl rfl b143 (hb) ?_ | refine qL rfl rfl ?_ | refine zX rfl rfl rfl rfl ?_ | refine zW rfl rfl rfl rfl ?_ | (refine qY rfl rfl rfl rfl ?_ ?_ <;> intro _))
  all_goals (refine congrArg D.bool ?_; simp_all [spareF, namF, isS])
def constF (v : V) : Bool := blankF v || ((v.k == 1 || (v.k == 2 || v.k == 4)) && Val.okV v)
theorem constant_ev (v : V) : Ev E 87 [enc v] (.d (.bool (constF v))) := by
  have hb := blank_ev v
  have hv := Valid_ev ixOK v
  refine enter1 Tryz.func87 Tryz.ntmps87 rfl rfl fun w0 F0 O => ?_
  repeat' (first | refine zS rfl ?_ | refine qA ?_ | refine qB rfl ?_ | refine qD ?_ | refine qP rfl rfl rfl rfl rfl rfl b143 (hb) ?_ | refine qP rfl rfl rfl rfl rfl rfl b66 (hv) ?_ | refine qL rfl rfl ?_ | (refine qY rfl rfl rfl rfl ?_ ?_ <;> intro _))
  all_goals (refine congrArg D.bool ?_; simp_all [constF])
end Go.Proofs.YthieohigmpfknaaGreatDoor

/- The size of an expression, by both texts. Conditions: at most a million parts. -/
namespace Go.Proofs.YthieohigmpfknaaGreatDoor
open Go Go.Abs Go.Val
attribute [local irreducible] go SGo HasBody Ev ExtEv EvO EvS

mutual
def nd : Ex → Nat
  | .mk _ _ _ _ l => ndL l + 1
def ndL : List Ex → Nat
  | [] => 0
  | x :: r => nd x + ndL r
end
theorem nd_eq (e : Ex) : nd e = ndL e.ks + 1 := by cases e; simp [nd, Ex.ks]
theorem ndL_mem : ∀ {l : List Ex} {x : Ex}, x ∈ l → nd x ≤ ndL l
  | [], x, h => by simp at h
  | y :: r, x, h => by
    simp only [ndL]
    rcases List.mem_cons.1 h with e | e
    · rw [e]; omega
    · have := ndL_mem e; omega
theorem ndL_drop {l : List Ex} {i : Nat} {x : Ex} (h : l[i]? = some x) : ndL (l.drop i) = nd x + ndL (l.drop (i + 1)) := by
  rw [drop_at h]; rfl
structure SNd (l : List Ex) where
  i : Nat
  n : Nat
  hi : i ≤ l.length
  ok : ndL l + 1 = n + ndL (l.drop i)
theorem sizeE_ev (e : Ex) : nd e ≤ 1000000 → Ev E 52 [encE e] (.d (.int (nd e))) := by
  refine xind (P := fun e => nd e ≤ 1000000 → Ev E 52 [encE e] (.d (.int (nd e)))) (fun op v nm ds ks ih hb => ?_) e
  refine Ev.fit fun hfit => ?_
  obtain ⟨-, -, -, hmax, -⟩ := fit_encE (hfit (encE (.mk op v nm ds ks)) (by simp))
  simp only [Ex.ks] at hmax
  have hlen : (kidsE (.mk op v nm ds ks)).length = ks.length := kidsE_len _
  have hnd : nd (.mk op v nm ds ks) = ndL ks + 1 := nd_eq _
  rw [hnd] at hb ⊢
  refine enter1 Tryz.func52 Tryz.ntmps52 rfl rfl fun w0 F0 O => ?_
  repeat' (first | refine zS rfl ?_ | refine qA ?_ | refine qB rfl ?_ | refine qD ?_ | refine qF ?_)
  refine go_loop_ (α := SNd ks) (fun p => ⟨[(3, .d (.int p.n)), (7, .d (.sl (kidsE (.mk op v nm ds ks)))), (8, .d (.int (kidsE (.mk op v nm ds ks)).length)), (9, .d (.int p.i))], []⟩) (fun p => ks.length - p.i) ⟨0, 1, by omega, by rw [List.drop_zero]; omega⟩ ((zle 0)) ?_
  rintro ⟨i, n, hi, ok⟩
  dsimp only
  rcases Nat.lt_or_ge i ks.length with hlt | hge
  · have hd1 : decide ((i : Int) < ((kidsE (.mk op v nm ds ks)).length : Int)) = true := by rw [hlen]; simpa using hlt
    have hx0 := List.getElem?_eq_getElem hlt
    generalize ks[i] = x at hx0
    have hx : (kidsE (.mk op v nm ds ks))[(i : Int).toNat]? = some (encE x) := kidsE_get (e := .mk op v nm ds ks) (by rw [Int.toNat_natCast]; exact hx0)
    have hdr := ndL_drop hx0
    have hm := ndL_mem (List.mem_of_getElem? hx0)
    have hs := ih x (List.mem_of_getElem? hx0) (by omega)
    repeat' (first | refine zS rfl ?_ | refine qA ?_ | refine qB rfl ?_ | refine qD ?_ | refine qE ?_ | refine qF ?_ | refine qG ?_ | refine qI (encE x) rfl (guardX_ok rfl) rfl rfl rfl rfl rfl rfl (by first | omega | decide) hx ?_ | refine qP rfl rfl rfl rfl rfl rfl b52 (hs) ?_ | refine zT rfl ?_)
    refine go_stop ?_
    refine ⟨⟨i + 1, n + nd x, by omega, by omega⟩, by dsimp only; omega, ?_⟩
    dsimp only
    rw [Int.natCast_add]
    exact (zle 0)
  · have hd1 : decide ((i : Int) < ((kidsE (.mk op v nm ds ks)).length : Int)) = false := by rw [hlen]; simp; omega
    have : ks.drop i = [] := List.drop_eq_nil_of_le hge
    rw [ok, this]
    repeat' (first | refine zS rfl ?_ | refine qA ?_ | refine qB rfl ?_ | refine qD ?_ | refine qH rfl ?_ | refine zU rfl ?_ | refine qL rfl rfl ?_ | exact zD)
theorem rsizeE_ev (e : Ex) : nd e ≤ 1000000 → Ev E 47 [encE e] (.d (.int (nd e))) := by
  refine xind (P := fun e => nd e ≤ 1000000 → Ev E 47 [encE e] (.d (.int (nd e)))) (fun op v nm ds ks ih hb => ?_) e
  refine Ev.fit fun hfit => ?_
  obtain ⟨-, -, -, hmax, -⟩ := fit_encE (hfit (encE (.mk op v nm ds ks)) (by simp))
  simp only [Ex.ks] at hmax
  have hlen : (kidsE (.mk op v nm ds ks)).length = ks.length := kidsE_len _
  have hnd : nd (.mk op v nm ds ks) = ndL ks + 1 := nd_eq _
  rw [hnd] at hb ⊢
  refine enter1 Tryz.func47 Tryz.ntmps47 rfl rfl fun w0 F0 O => ?_
  repeat' (first | refine zS rfl ?_ | refine qA ?_ | refine qB rfl ?_ | refine qD ?_ | refine qF ?_)
  refine go_loop_ (α := SNd ks) (fun p => ⟨[(1, .ptr 0 0), (3, .d (.int p.n)), (4, .d (.int p.i))], [.var 31 (.w (.d (encE (.mk op v nm ds ks))))]⟩) (fun p => ks.length - p.i) ⟨0, 1, by omega, by rw [List.drop_zero]; omega⟩ ((zle 1)) ?_
  rintro ⟨i, n, hi, ok⟩
  dsimp only
  rcases Nat.lt_or_ge i ks.length with hlt | hge
  · have hd1 : decide ((i : Int) < ((kidsE (.mk op v nm ds ks)).length : Int)) = true := by rw [hlen]; simpa using hlt
    have hx0 := List.getElem?_eq_getElem hlt
    generalize ks[i] = x at hx0
    have hx : (kidsE (.mk op v nm ds ks))[(i : Int).toNat]? = some (encE x) := kidsE_get (e := .mk op v nm ds ks) (by rw [Int.toNat_natCast]; exact hx0)
    have hdr := ndL_drop hx0
    have hm := ndL_mem (List.mem_of_getElem? hx0)
    have hs := ih x (List.mem_of_getElem? hx0) (by omega)
    repeat' (first | refine zS rfl ?_ | refine qA ?_ | refine qB rfl ?_ | refine qD ?_ | refine qE ?_ | refine qF ?_ | refine qG ?_ | refine qI (encE x) rfl (guardX_ok rfl) rfl rfl rfl rfl rfl rfl (by first | omega | decide) hx ?_ | refine qP rfl rfl rfl rfl rfl rfl b47 (hs) ?_ | refine zT rfl ?_)
    refine go_stop ?_
    refine ⟨⟨i + 1, n + nd x, by omega, by omega⟩, by dsimp only; omega, ?_⟩
    dsimp only
    rw [Int.natCast_add]
    exact (zle 1)
  · have hd1 : decide ((i : Int) < ((kidsE (.mk op v nm ds ks)).length : Int)) = false := by rw [hlen]; simp; omega
    have : ks.drop i = [] := List.drop_eq_nil_of_le hge
    rw [ok, this]
    repeat' (first | refine zS rfl ?_ | refine qA ?_ | refine qB rfl ?_ | refine qD ?_ | refine qH rfl ?_ | refine zU rfl ?_ | refine qL rfl rfl ?_ | exact zD)
end Go.Proofs.YthieohigmpfknaaGreatDoor

/- The depth of an expression, by both texts. Conditions: depth at most a million. -/
namespace Go.Proofs.YthieohigmpfknaaGreatDoor
open Go Go.Abs Go.Val
attribute [local irreducible] go SGo HasBody Ev ExtEv EvO EvS

mutual
def dp : Ex → Nat
  | .mk _ _ _ _ l => dpL l + 1
def dpL : List Ex → Nat
  | [] => 0
  | x :: r => max (dp x) (dpL r)
end
theorem dp_eq (e : Ex) : dp e = dpL e.ks + 1 := by cases e; simp [dp, Ex.ks]
theorem dpL_mem : ∀ {l : List Ex} {x : Ex}, x ∈ l → dp x ≤ dpL l
  | [], x, h => by simp at h
  | y :: r, x, h => by
    simp only [dpL]
    rcases List.mem_cons.1 h with e | e
    · rw [e]; omega
    · have := dpL_mem e; omega
theorem dpL_drop {l : List Ex} {i : Nat} {x : Ex} (h : l[i]? = some x) : dpL (l.drop i) = max (dp x) (dpL (l.drop (i + 1))) := by
  rw [drop_at h]; rfl
structure SDp (l : List Ex) where
  i : Nat
  n : Nat
  hi : i ≤ l.length
  ok : dpL l = max n (dpL (l.drop i))
theorem rdepth_ev (e : Ex) : dp e ≤ 1000000 → Ev E 46 [encE e] (.d (.int (dp e))) := by
  refine xind (P := fun e => dp e ≤ 1000000 → Ev E 46 [encE e] (.d (.int (dp e)))) (fun op v nm ds ks ih hb => ?_) e
  refine Ev.fit fun hfit => ?_
  obtain ⟨-, -, -, hmax, -⟩ := fit_encE (hfit (encE (.mk op v nm ds ks)) (by simp))
  simp only [Ex.ks] at hmax
  have hlen : (kidsE (.mk op v nm ds ks)).length = ks.length := kidsE_len _
  have hnd : dp (.mk op v nm ds ks) = dpL ks + 1 := dp_eq _
  rw [hnd] at hb ⊢
  refine enter1 Tryz.func46 Tryz.ntmps46 rfl rfl fun w0 F0 O => ?_
  repeat' (first | refine zS rfl ?_ | refine qA ?_ | refine qB rfl ?_ | refine qD ?_ | refine qF ?_)
  refine go_loop_ (α := SDp ks) (fun p => ⟨[(1, .ptr 0 0), (3, .d (.int p.n)), (4, .d (.int p.i))], [.var 31 (.w (.d (encE (.mk op v nm ds ks))))]⟩) (fun p => ks.length - p.i) ⟨0, 0, by omega, by rw [List.drop_zero]; omega⟩ ((zle 1)) ?_
  rintro ⟨i, n, hi, ok⟩
  dsimp only
  rcases Nat.lt_or_ge i ks.length with hlt | hge
  · have hd1 : decide ((i : Int) < ((kidsE (.mk op v nm ds ks)).length : Int)) = true := by rw [hlen]; simpa using hlt
    have hx0 := List.getElem?_eq_getElem hlt
    generalize ks[i] = x at hx0
    have hx : (kidsE (.mk op v nm ds ks))[(i : Int).toNat]? = some (encE x) := kidsE_get (e := .mk op v nm ds ks) (by rw [Int.toNat_natCast]; exact hx0)
    have hdr := dpL_drop hx0
    have hm := dpL_mem (List.mem_of_getElem? hx0)
    have hs := ih x (List.mem_of_getElem? hx0) (by omega)
    cases hgt : decide ((dp x : Int) > (n : Int)) with
    | true =>
      have hgt' := of_decide_eq_true hgt
      repeat' (first | refine zS rfl ?_ | refine qA ?_ | refine qB rfl ?_ | refine qD ?_ | refine qE ?_ | refine qF ?_ | refine qG ?_ | refine qI (encE x) rfl (guardX_ok rfl) rfl rfl rfl rfl rfl rfl (by first | omega | decide) hx ?_ | refine qP rfl rfl rfl rfl rfl rfl b46 (hs) ?_ | refine zT rfl ?_)
      refine go_stop ?_
      exact ⟨⟨i + 1, dp x, by omega, by omega⟩, by dsimp only; omega, (zle 1)⟩
    | false =>
      have hgt' := of_decide_eq_false hgt
      repeat' (first | refine zS rfl ?_ | refine qA ?_ | refine qB rfl ?_ | refine qD ?_ | refine qE ?_ | refine qF ?_ | refine qG ?_ | refine qI (encE x) rfl (guardX_ok rfl) rfl rfl rfl rfl rfl rfl (by first | omega | decide) hx ?_ | refine qP rfl rfl rfl rfl rfl rfl b46 (hs) ?_ | refine zT rfl ?_ | refine zU rfl ?_)
      refine go_stop ?_
      exact ⟨⟨i + 1, n, by omega, by omega⟩, by dsimp only; omega, (zle 1)⟩
  · have hd1 : decide ((i : Int) < ((kidsE (.mk op v nm ds ks)).length : Int)) = false := by rw [hlen]; simp; omega
    have : ks.drop i = [] := List.drop_eq_nil_of_le hge
    have hn : n = dpL ks := by rw [ok, this]; simp [dpL]
    subst hn
    repeat' (first | refine zS rfl ?_ | refine qA ?_ | refine qB rfl ?_ | refine qD ?_ | refine qH rfl ?_ | refine zU rfl ?_ | refine qL rfl rfl ?_ | exact zD)
theorem depth_ev (e : Ex) : dp e ≤ 1000000 → Ev E 51 [encE e] (.d (.int (dp e))) := by
  refine xind (P := fun e => dp e ≤ 1000000 → Ev E 51 [encE e] (.d (.int (dp e)))) (fun op v nm ds ks ih hb => ?_) e
  refine Ev.fit fun hfit => ?_
  obtain ⟨-, -, -, hmax, -⟩ := fit_encE (hfit (encE (.mk op v nm ds ks)) (by simp))
  simp only [Ex.ks] at hmax
  have hlen : (kidsE (.mk op v nm ds ks)).length = ks.length := kidsE_len _
  have hnd : dp (.mk op v nm ds ks) = dpL ks + 1 := dp_eq _
  rw [hnd] at hb ⊢
  refine enter1 Tryz.func51 Tryz.ntmps51 rfl rfl fun w0 F0 O => ?_
  repeat' (first | refine zS rfl ?_ | refine qA ?_ | refine qB rfl ?_ | refine qD ?_ | refine qF ?_)
  refine go_loop_ (α := SDp ks) (fun p => ⟨[(3, .d (.int p.n)), (7, .d (.sl (kidsE (.mk op v nm ds ks)))), (8, .d (.int (kidsE (.mk op v nm ds ks)).length)), (9, .d (.int p.i))], []⟩) (fun p => ks.length - p.i) ⟨0, 0, by omega, by rw [List.drop_zero]; omega⟩ ((zle 0)) ?_
  rintro ⟨i, n, hi, ok⟩
  dsimp only
  rcases Nat.lt_or_ge i ks.length with hlt | hge
  · have hd1 : decide ((i : Int) < ((kidsE (.mk op v nm ds ks)).length : Int)) = true := by rw [hlen]; simpa using hlt
    have hx0 := List.getElem?_eq_getElem hlt
    generalize ks[i] = x at hx0
    have hx : (kidsE (.mk op v nm ds ks))[(i : Int).toNat]? = some (encE x) := kidsE_get (e := .mk op v nm ds ks) (by rw [Int.toNat_natCast]; exact hx0)
    have hdr := dpL_drop hx0
    have hm := dpL_mem (List.mem_of_getElem? hx0)
    have hs := ih x (List.mem_of_getElem? hx0) (by omega)
    repeat' (first | refine zS rfl ?_ | refine qA ?_ | refine qB rfl ?_ | refine qD ?_ | refine qE ?_ | refine qF ?_ | refine qG ?_ | refine qI (encE x) rfl (guardX_ok rfl) rfl rfl rfl rfl rfl rfl (by first | omega | decide) hx ?_ | refine qP rfl rfl rfl rfl rfl rfl b51 (hs) ?_ | refine zT rfl ?_)
    refine go_stop ?_
    refine ⟨⟨i + 1, max n (dp x), by omega, by omega⟩, by dsimp only; omega, ?_⟩
    dsimp only
    rw [show ((max n (dp x) : Nat) : Int) = max (n : Int) (dp x : Int) by omega]
    exact (zle 0)
  · have hd1 : decide ((i : Int) < ((kidsE (.mk op v nm ds ks)).length : Int)) = false := by rw [hlen]; simp; omega
    have : ks.drop i = [] := List.drop_eq_nil_of_le hge
    have hn : n = dpL ks := by rw [ok, this]; simp [dpL]
    subst hn
    repeat' (first | refine zS rfl ?_ | refine qA ?_ | refine qB rfl ?_ | refine qD ?_ | refine qH rfl ?_ | refine zU rfl ?_ | refine qL rfl rfl ?_ | exact zD)
end Go.Proofs.YthieohigmpfknaaGreatDoor

/- Upper case and the reserved words, by both texts. Conditions: none; for the program's test, a word of at most 1000 bytes. -/
namespace Go.Proofs.YthieohigmpfknaaGreatDoor
open Go Go.Abs Go.Val Go.RowKit
attribute [local irreducible] go SGo HasBody Ev ExtEv EvO EvS

theorem blt_irr (i : Nat) : Nat.blt i i = false := by
  cases h : Nat.blt i i with
  | false => rfl
  | true => simp at h
def upN (n : Int) : Int := bif decide (n ≥ 97) && decide (n ≤ 122) then n - 32 else n
def rowU (s : ByteArray) (i : Nat) : List D := (List.range s.size).map fun j => D.imm (.int .u8 (bif Nat.blt j i then upN (byteAt s j) else byteAt s j))
def upL (s : ByteArray) (i : Nat) : List Int := (List.range i).map fun j => upN (byteAt s j)
def upF (s : ByteArray) : ByteArray := strOf (upL s s.size)
theorem upL_len (s : ByteArray) (i : Nat) : (upL s i).length = i := by simp [upL]
theorem upL_succ (s : ByteArray) (i : Nat) : upL s (i + 1) = upL s i ++ [upN (byteAt s i)] := by simp [upL, List.range_succ]
theorem rowU_len (s : ByteArray) (i : Nat) : (rowU s i).length = s.size := by simp [rowU]
theorem rowU_get {s : ByteArray} {i j : Nat} (h : j < s.size) : (rowU s i)[j]? = some (D.imm (.int .u8 (bif Nat.blt j i then upN (byteAt s j) else byteAt s j))) := by
  rw [rowU, List.getElem?_map, List.getElem?_range h]; rfl
theorem rowU_zero (s : ByteArray) : rowU s 0 = bytesD s := by
  refine List.ext_getElem? fun j => ?_
  rcases Nat.lt_or_ge j s.size with h | h
  · rw [rowU_get h, bytesD_at h]; rfl
  · rw [List.getElem?_eq_none (by rw [rowU_len]; exact h), List.getElem?_eq_none (by rw [bytesD_len]; exact h)]
theorem rowU_set {s : ByteArray} {i : Nat} (h : i < s.size) : (rowU s i).set i (.imm (.int .u8 (upN (byteAt s i)))) = rowU s (i + 1) := by
  refine List.ext_getElem? fun j => ?_
  rcases Nat.lt_or_ge j s.size with hj | hj
  · rw [List.getElem?_set, rowU_get hj, rowU_get hj]
    by_cases e : i = j
    · subst e
      rw [if_pos rfl, if_pos (by rw [rowU_len]; exact h), show Nat.blt i (i + 1) = true by simp]
      rfl
    · rw [if_neg e]
      have : Nat.blt j (i + 1) = Nat.blt j i := by rw [Bool.eq_iff_iff]; simp; omega
      rw [this]
  · rw [List.getElem?_eq_none (by rw [List.length_set, rowU_len]; exact hj), List.getElem?_eq_none (by rw [rowU_len]; exact hj)]
theorem rowU_same {s : ByteArray} {i : Nat} (h : i < s.size) (hn : upN (byteAt s i) = byteAt s i) : rowU s i = rowU s (i + 1) := by
  rw [← rowU_set h, hn]
  refine List.ext_getElem? fun j => ?_
  rw [List.getElem?_set]
  by_cases e : i = j
  · subst e
    rw [if_pos rfl, if_pos (by rw [rowU_len]; exact h), rowU_get h, blt_irr]
    rfl
  · rw [if_neg e]
theorem rowU_end (s : ByteArray) : rowU s s.size = (upL s s.size).map fun n => .imm (.int .u8 n) := by
  refine List.ext_getElem? fun j => ?_
  rcases Nat.lt_or_ge j s.size with hj | hj
  · rw [rowU_get hj, upL, List.map_map, List.getElem?_map, List.getElem?_range hj, show Nat.blt j s.size = true by simpa using hj]
    rfl
  · rw [List.getElem?_eq_none (by rw [rowU_len]; exact hj), List.getElem?_eq_none (by rw [List.length_map, upL_len]; exact hj)]
theorem strOf_snoc (ns : List Int) (n : Int) : strOf (ns ++ [n]) = strOf ns ++ strOf [n] := by
  unfold strOf
  rw [List.foldl_append]
  simp only [List.foldl_cons, List.foldl_nil]
  apply ByteArray.ext
  simp [ByteArray.push]
structure SUp (s : ByteArray) where
  i : Nat
  hi : i ≤ s.size
set_option maxHeartbeats 1000000 in
theorem upper_ev (s : ByteArray) : Ev E 211 [.str s] (.d (.str (upF s))) := Ev.fit fun hfit => by
  have hs := (hfit (.str s) (by simp)).str
  have hlen : (bytesD s).length = s.size := bytesD_len s
  refine enter1 Tryz.func211 Tryz.ntmps211 rfl rfl fun w0 F0 O => ?_
  repeat' (first | refine zS rfl ?_ | refine qA ?_ | refine qB rfl ?_ | refine qD ?_ | refine qF ?_ | refine go_bytes rfl rfl rfl rfl rfl rfl rfl rfl ?_)
  rw [hlen, ← rowU_zero]
  refine go_loop_ (α := SUp s) (fun p => ⟨[(3, .own 0), (8, .own 0), (9, .d (.int s.size)), (10, .d (.int p.i))], [.mrow 5 1 (rowU s p.i)]⟩) (fun p => s.size - p.i) ⟨0, by omega⟩ ((zle 1)) ?_
  rintro ⟨i, hi⟩
  dsimp only
  have hrl := rowU_len s i
  rcases Nat.lt_or_ge i s.size with hlt | hge
  · have hd1 : decide ((i : Int) < (s.size : Int)) = true := by simpa using hlt
    have hti : (i : Int).toNat = i := Int.toNat_natCast i
    have hx : (rowU s i)[(i : Int).toNat]? = some (.imm (.int .u8 (byteAt s i))) := by rw [hti, rowU_get hlt, blt_irr]; rfl
    have hb := byteAt_rng s i hlt
    cases h1 : decide (byteAt s i ≥ 97) with
    | false =>
      have hn : upN (byteAt s i) = byteAt s i := by unfold upN; rw [h1]; rfl
      repeat' (first | refine zS rfl ?_ | refine qA ?_ | refine qB rfl ?_ | refine qD ?_ | refine qE ?_ | refine qF ?_ | refine qG ?_ | refine go_indexM rfl rfl rfl rfl rfl rfl rfl rfl (by constructor <;> first | omega | (simp; omega) | decide) ?_ | refine go_loadM _ rfl rfl rfl rfl rfl rfl hx rfl ?_ | refine zT rfl ?_ | refine zU rfl ?_ | refine zW rfl rfl rfl rfl ?_)
      refine go_stop ?_
      refine ⟨⟨i + 1, by omega⟩, by dsimp only; omega, ?_⟩
      rw [rowU_same hlt hn]
      exact (zle 1)
    | true =>
      cases h2 : decide (byteAt s i ≤ 122) with
      | false =>
        have hn : upN (byteAt s i) = byteAt s i := by unfold upN; rw [h1, h2]; rfl
        repeat' (first | refine zS rfl ?_ | refine qA ?_ | refine qB rfl ?_ | refine qD ?_ | refine qE ?_ | refine qF ?_ | refine qG ?_ | refine go_indexM rfl rfl rfl rfl rfl rfl rfl rfl (by constructor <;> first | omega | (simp; omega) | decide) ?_ | refine go_loadM _ rfl rfl rfl rfl rfl rfl hx rfl ?_ | refine zT rfl ?_ | refine zU rfl ?_ | refine zX rfl rfl rfl rfl ?_)
        refine go_stop ?_
        refine ⟨⟨i + 1, by omega⟩, by dsimp only; omega, ?_⟩
        rw [rowU_same hlt hn]
        exact (zle 1)
      | true =>
        have h1' := of_decide_eq_true h1
        have h2' := of_decide_eq_true h2
        have hn : byteAt s i - 97 + 65 = upN (byteAt s i) := by unfold upN; rw [h1, h2]; simp; omega
        repeat' (first | refine zS rfl ?_ | refine qA ?_ | refine qB rfl ?_ | refine qD ?_ | refine qE ?_ | refine qF ?_ | refine qG ?_ | refine go_indexM rfl rfl rfl rfl rfl rfl rfl rfl (by constructor <;> first | omega | (simp; omega) | decide) ?_ | refine go_loadM _ rfl rfl rfl rfl rfl rfl hx rfl ?_ | refine go_storeM _ rfl rfl rfl rfl rfl rfl hx rfl rfl rfl ?_ | refine zT rfl ?_ | refine zX rfl rfl rfl rfl ?_)
        refine go_stop ?_
        refine ⟨⟨i + 1, by omega⟩, by dsimp only; omega, ?_⟩
        rw [hti, hn, rowU_set hlt]
        exact (zle 1)
  · have hd1 : decide ((i : Int) < (s.size : Int)) = false := by simp; omega
    obtain rfl : i = s.size := by omega
    repeat' (first | refine zS rfl ?_ | refine qA ?_ | refine qB rfl ?_ | refine qD ?_ | refine qH rfl ?_ | refine zU rfl ?_)
    refine go_frzS 0 rfl ?_
    dsimp only [frzT, frzX]
    have he := rowU_end s
    repeat' (first | refine zS rfl ?_ | refine qD ?_ | refine go_convB (upL s s.size) rfl rfl rfl rfl rfl rfl rfl rfl he ?_ | refine qL rfl rfl ?_ | exact zD)
set_option maxHeartbeats 1000000 in
theorem rupper_ev (s : ByteArray) : Ev E 207 [.str s] (.d (.str (upF s))) := Ev.fit fun hfit => by
  have hs := (hfit (.str s) (by simp)).str
  refine enter1 Tryz.func207 Tryz.ntmps207 rfl rfl fun w0 F0 O => ?_
  repeat' (first | refine zS rfl ?_ | refine qA ?_ | refine qB rfl ?_ | refine qD ?_ | refine qF ?_)
  refine go_loop_ (α := SUp s) (fun p => ⟨[(0, .d (.str s)), (3, .d (.str (strOf (upL s p.i)))), (4, .d (.int p.i))], []⟩) (fun p => s.size - p.i) ⟨0, by omega⟩ ((zle 0)) ?_
  rintro ⟨i, hi⟩
  dsimp only
  have hz : (strOf (upL s i)).size = i := by rw [strOf_size, upL_len]
  rcases Nat.lt_or_ge i s.size with hlt | hge
  · have hd1 : decide ((i : Int) < (s.size : Int)) = true := by simpa using hlt
    have hti : (i : Int).toNat = i := Int.toNat_natCast i
    have hb := byteAt_rng s i hlt
    rw [← hti] at hb
    have hz1 : ∀ n, (strOf [n]).size = 1 := fun n => strOf_size [n]
    have e1 : strOf (upL s (i + 1)) = strOf (upL s i) ++ strOf [upN (byteAt s (i : Int).toNat)] := by rw [upL_succ, strOf_snoc, hti]
    cases h1 : decide (byteAt s (i : Int).toNat ≥ 97) with
    | false =>
      have hn : upN (byteAt s (i : Int).toNat) = byteAt s (i : Int).toNat := by unfold upN; rw [h1]; rfl
      have hz2 := hz1 (byteAt s (i : Int).toNat)
      repeat' (first | refine zS rfl ?_ | refine qA ?_ | refine qB rfl ?_ | refine qD ?_ | refine qE ?_ | refine qF ?_ | refine qG ?_ | refine zT rfl ?_ | refine zU rfl ?_ | refine zW rfl rfl rfl rfl ?_)
      refine go_stop ?_
      refine ⟨⟨i + 1, by omega⟩, by dsimp only; omega, ?_⟩
      dsimp only
      rw [e1, hn]
      exact (zle 0)
    | true =>
      cases h2 : decide (byteAt s (i : Int).toNat ≤ 122) with
      | false =>
        have hn : upN (byteAt s (i : Int).toNat) = byteAt s (i : Int).toNat := by unfold upN; rw [h1, h2]; rfl
        have hz2 := hz1 (byteAt s (i : Int).toNat)
        repeat' (first | refine zS rfl ?_ | refine qA ?_ | refine qB rfl ?_ | refine qD ?_ | refine qE ?_ | refine qF ?_ | refine qG ?_ | refine zT rfl ?_ | refine zU rfl ?_ | refine zX rfl rfl rfl rfl ?_)
        refine go_stop ?_
        refine ⟨⟨i + 1, by omega⟩, by dsimp only; omega, ?_⟩
        dsimp only
        rw [e1, hn]
        exact (zle 0)
      | true =>
        have h1' := of_decide_eq_true h1
        have h2' := of_decide_eq_true h2
        have hn : upN (byteAt s (i : Int).toNat) = byteAt s (i : Int).toNat - 32 := by unfold upN; rw [h1, h2]; rfl
        have hz2 := hz1 (byteAt s (i : Int).toNat - 32)
        repeat' (first | refine zS rfl ?_ | refine qA ?_ | refine qB rfl ?_ | refine qD ?_ | refine qE ?_ | refine qF ?_ | refine qG ?_ | refine zT rfl ?_ | refine zX rfl rfl rfl rfl ?_)
        refine go_stop ?_
        refine ⟨⟨i + 1, by omega⟩, by dsimp only; omega, ?_⟩
        dsimp only
        rw [e1, hn]
        exact (zle 0)
  · have hd1 : decide ((i : Int) < (s.size : Int)) = false := by simp; omega
    obtain rfl : i = s.size := by omega
    repeat' (first | refine zS rfl ?_ | refine qA ?_ | refine qB rfl ?_ | refine qD ?_ | refine qH rfl ?_ | refine zU rfl ?_ | refine qL rfl rfl ?_ | exact zD)
end Go.Proofs.YthieohigmpfknaaGreatDoor

/- The reserved words, by both texts. Conditions: for the program's test, a word of at most 1000 bytes. -/
namespace Go.Proofs.YthieohigmpfknaaGreatDoor
open Go Go.Abs Go.Val Go.RowKit
attribute [local irreducible] go SGo HasBody Ev ExtEv EvO EvS

def wordsB : List ByteArray := [⟨#[77, 65, 84, 67, 72]⟩, ⟨#[79, 80, 84, 73, 79, 78, 65, 76]⟩, ⟨#[87, 72, 69, 82, 69]⟩, ⟨#[85, 78, 87, 73, 78, 68]⟩, ⟨#[65, 83]⟩, ⟨#[87, 73, 84, 72]⟩, ⟨#[68, 73, 83, 84, 73, 78, 67, 84]⟩, ⟨#[79, 82, 68, 69, 82]⟩, ⟨#[66, 89]⟩, ⟨#[65, 83, 67]⟩, ⟨#[68, 69, 83, 67]⟩, ⟨#[83, 75, 73, 80]⟩, ⟨#[76, 73, 77, 73, 84]⟩, ⟨#[82, 69, 84, 85, 82, 78]⟩, ⟨#[67, 82, 69, 65, 84, 69]⟩, ⟨#[77, 69, 82, 71, 69]⟩, ⟨#[83, 69, 84]⟩, ⟨#[82, 69, 77, 79, 86, 69]⟩, ⟨#[68, 69, 76, 69, 84, 69]⟩, ⟨#[68, 69, 84, 65, 67, 72]⟩, ⟨#[65, 78, 68]⟩, ⟨#[79, 82]⟩, ⟨#[78, 79, 84]⟩, ⟨#[73, 78]⟩, ⟨#[73, 83]⟩, ⟨#[78, 85, 76, 76]⟩, ⟨#[84, 82, 85, 69]⟩, ⟨#[70, 65, 76, 83, 69]⟩, ⟨#[87, 65, 76, 75]⟩, ⟨#[84, 82, 65, 73, 76]⟩, ⟨#[83, 73, 77, 80, 76, 69]⟩, ⟨#[83, 72, 79, 82, 84, 69, 83, 84]⟩, ⟨#[65, 78, 89]⟩]
def resF (s : ByteArray) : Bool := wordsB.any fun w => w.toList == (upF s).toList
theorem rwords_ev : Ev E 208 [] (.d (.sl (wordsB.map .str))) := by
  refine enter0 Tryz.func208 Tryz.ntmps208 rfl rfl fun w0 F0 O => ?_
  repeat' (first | refine zS rfl ?_ | refine qA ?_ | refine qB rfl ?_ | refine qD ?_ | refine qL rfl rfl ?_ | exact zD)
structure SWd (u : ByteArray) where
  i : Nat
  hi : i ≤ wordsB.length
  ok : (wordsB.any fun w => w.toList == u.toList) = ((wordsB.drop i).any fun w => w.toList == u.toList)
theorem rres_ev (s : ByteArray) : Ev E 181 [.str s] (.d (.bool (resF s))) := by
  have h1 := rupper_ev s
  have h2 := rwords_ev
  unfold resF
  have hwl : wordsB.length = 33 := rfl
  have h33 : (wordsB.map D.str).length = wordsB.length := by rw [List.length_map]
  generalize hw : wordsB.map D.str = ws at *
  generalize upF s = u at *
  refine enter1 Tryz.func181 Tryz.ntmps181 rfl rfl fun w0 F0 O => ?_
  repeat' (first | refine zS rfl ?_ | refine qA ?_ | refine qB rfl ?_ | refine qD ?_ | refine qF ?_ | refine qP rfl rfl rfl rfl rfl rfl b207 (h1) ?_ | refine qP rfl rfl rfl rfl rfl rfl b208 (h2) ?_)
  refine go_loop_ (α := SWd u) (fun p => ⟨[(3, .d (.str u)), (4, .d (.sl ws)), (5, .d (.int p.i))], []⟩) (fun p => wordsB.length - p.i) ⟨0, Nat.zero_le _, rfl⟩ ((zle 0)) ?_
  rintro ⟨i, hi, ok⟩
  dsimp only
  rcases Nat.lt_or_ge i wordsB.length with hlt | hge
  · have hd1 : decide ((i : Int) < (ws.length : Int)) = true := by rw [h33]; simpa using hlt
    have hx0 := List.getElem?_eq_getElem hlt
    generalize wordsB[i] = x at hx0
    have hx : ws[(i : Int).toNat]? = some (.str x) := by rw [← hw, Int.toNat_natCast, List.getElem?_map, hx0]; rfl
    rw [ok, drop_at hx0, List.any_cons]
    cases he : x.toList == u.toList with
    | true =>
      repeat' (first | refine zS rfl ?_ | refine qA ?_ | refine qB rfl ?_ | refine qD ?_ | refine qE ?_ | refine qF ?_ | refine qI (.str x) rfl (guardX_ok rfl) rfl rfl rfl rfl rfl rfl (by first | omega | decide) hx ?_ | refine zT rfl ?_ | refine qL rfl rfl ?_ | exact zD)
    | false =>
      repeat' (first | refine zS rfl ?_ | refine qA ?_ | refine qB rfl ?_ | refine qD ?_ | refine qE ?_ | refine qF ?_ | refine qG ?_ | refine qI (.str x) rfl (guardX_ok rfl) rfl rfl rfl rfl rfl rfl (by first | omega | decide) hx ?_ | refine zT rfl ?_ | refine zU rfl ?_)
      refine go_stop ?_
      exact ⟨⟨i + 1, by omega, by rw [ok, drop_at hx0, List.any_cons, he, Bool.false_or]⟩, by dsimp only; omega, (zle 0)⟩
  · have hd1 : decide ((i : Int) < (ws.length : Int)) = false := by rw [h33]; simp; omega
    rw [ok, List.drop_eq_nil_of_le hge]
    repeat' (first | refine zS rfl ?_ | refine qA ?_ | refine qB rfl ?_ | refine qD ?_ | refine qH rfl ?_ | refine zU rfl ?_ | refine qL rfl rfl ?_ | exact zD)

/-! ## The program's test -/
def upB (b : UInt8) : UInt8 := UInt8.ofNat (upN b.toNat).toNat
theorem strOf_list (ns : List Int) : (strOf ns).data.toList = ns.map fun n => UInt8.ofNat n.toNat := by
  have key : ∀ (ns : List Int) (r : ByteArray), (ns.foldl (fun r n => r.push (UInt8.ofNat n.toNat)) r).data.toList = r.data.toList ++ ns.map fun n => UInt8.ofNat n.toNat := by
    intro ns
    induction ns with
    | nil => intro r; simp
    | cons n ns ih =>
      intro r
      rw [List.foldl_cons, ih]
      simp [ByteArray.push]
  have := key ns ByteArray.empty
  unfold strOf
  rw [this]
  simp
theorem upF_list (s : ByteArray) : (upF s).data.toList = s.data.toList.map upB := by
  unfold upF
  rw [strOf_list]
  refine List.ext_getElem? fun j => ?_
  have hl : s.data.toList.length = s.size := by simp
  rcases Nat.lt_or_ge j s.size with hj | hj
  · have hx := List.getElem?_eq_getElem (show j < s.data.toList.length by omega)
    rw [List.getElem?_map, upL, List.getElem?_map, List.getElem?_range hj, List.getElem?_map, hx]
    simp only [Option.map_some, upB, byteAt, List.getD_eq_getElem?_getD, hx, Option.getD_some]
  · rw [List.getElem?_eq_none (by rw [List.length_map, upL_len]; exact hj), List.getElem?_eq_none (by rw [List.length_map]; omega)]
theorem upB_32 (b : UInt8) : upB b = 32 ↔ b = 32 := by
  have key : ∀ c : Fin 256, (upB (UInt8.ofFin c) = 32) = (UInt8.ofFin c = 32) := by
    intro c
    revert c
    decide +kernel
  have hb : b = UInt8.ofFin b.toFin := by rfl
  rw [hb]
  exact iff_of_eq (key b.toFin)
theorem contains_blank : ∀ l : List UInt8, Lib.contains l [32] = decide ((32 : UInt8) ∈ l)
  | [] => by simp [Lib.contains, Lib.index]
  | b :: l => by
    rw [contains_step, contains_blank l]
    have : ([32] : List UInt8).isPrefixOf (b :: l) = ((32 : UInt8) == b) := by simp only [List.isPrefixOf, Bool.and_true]
    rw [this, Bool.eq_iff_iff, Bool.or_eq_true, beq_iff_eq, decide_eq_true_eq, decide_eq_true_eq, List.mem_cons]
theorem up_blank (s : ByteArray) : (32 : UInt8) ∈ (upF s).data.toList ↔ (32 : UInt8) ∈ s.data.toList := by
  rw [upF_list, List.mem_map]
  constructor
  · rintro ⟨b, h1, h2⟩
    rw [(upB_32 b).1 h2] at h1
    exact h1
  · intro h
    exact ⟨32, h, (upB_32 32).2 rfl⟩
theorem words_blank : ∀ w ∈ wordsB.map (·.data.toList), (32 : UInt8) ∉ w := by
  have : (wordsB.map (·.data.toList)).all (fun w => !w.contains 32) = true := by decide
  intro w hw hm
  have := List.all_eq_true.1 this w hw
  simp [List.contains_iff_mem] at this
  exact this hm
theorem any_words (U : List UInt8) : ((wordsB.map (·.data.toList)).any fun w => U == w) = wordsB.any fun w => w.data.toList == U := by
  rw [List.any_map]
  congr 1
  funext w
  simp only [Function.comp]
  rw [Bool.eq_iff_iff, beq_iff_eq, beq_iff_eq]
  exact ⟨fun h => h.symm, fun h => h.symm⟩
theorem resF_data (s : ByteArray) : resF s = wordsB.any fun w => w.data.toList == (upF s).data.toList := by
  unfold resF
  simp only [ByteArray.toList_eq]
/-- What the program computes of the two searches. -/
theorem res_eq (s : ByteArray) (h : Lib.contains s.data.toList [32] = false) : Lib.contains (joinW (wordsB.map (·.data.toList))) (32 :: ((upF s).data.toList ++ [32])) = resF s := by
  rw [contains_blank, decide_eq_false_iff_not] at h
  rw [contains_join _ (fun hm => h ((up_blank s).1 hm)) _ words_blank, any_words, resF_data]
theorem res_blank (s : ByteArray) (h : Lib.contains s.data.toList [32] = true) : resF s = false := by
  rw [contains_blank, decide_eq_true_eq] at h
  rw [resF_data, List.any_eq_false]
  intro w hw he
  have e := eq_of_beq he
  refine words_blank _ (List.mem_map_of_mem hw) ?_
  rw [e]
  exact (up_blank s).2 h
theorem contains_ev (s sub : ByteArray) (hs : s.size < 4294967281) : Ev E 210 [.str s, .str sub] (.d (.bool (Lib.contains s.data.toList sub.data.toList))) := by
  refine of_lib2 rfl fun w F hG _ _ => ?_
  obtain ⟨-, -, m, hm⟩ := hG.2
  refine (Tryz.strings_Contains s sub m w hs hm).mono ?_
  rintro e w' ⟨rfl, rfl⟩
  exact ⟨rfl, Below.refl _ _⟩
end Go.Proofs.YthieohigmpfknaaGreatDoor

/- Words of the language and the checking of expressions, by both texts. Conditions: at most a million parts. -/
namespace Go.Proofs.YthieohigmpfknaaGreatDoor
open Go Go.Abs Go.Val Go.RowKit
attribute [local irreducible] go SGo HasBody Ev ExtEv EvO EvS

theorem upF_size (s : ByteArray) : (upF s).size = s.size := by unfold upF; rw [strOf_size, upL_len]
set_option maxRecDepth 10000 in
attribute [local irreducible] upF resF joinW wordsB in
theorem res_ev (s : ByteArray) (hs : s.size ≤ 1000) : Ev E 183 [.str s] (.d (.bool (resF s))) := by
  have hu := upper_ev s
  have hus := upF_size s
  have h1 : (⟨#[32]⟩ : ByteArray).size = 1 := rfl
  have hc1 := contains_ev s ⟨#[32]⟩ (by omega)
  cases h0 : !(s.toList == (⟨#[]⟩ : ByteArray).toList) with
  | false =>
    have e : resF s = false := by
      rw [resF_data, upF_list]
      have : s.data.toList = [] := by rw [Bool.not_eq_false', beq_iff_eq, ByteArray.toList_eq, ByteArray.toList_eq] at h0; exact h0
      rw [this]
      unfold wordsB
      decide +kernel
    rw [e]
    refine enter1 Tryz.func183 Tryz.ntmps183 rfl rfl fun w0 F0 O => ?_
    repeat' (first | refine zS rfl ?_ | refine qA ?_ | refine qB rfl ?_ | refine qD ?_ | refine qL rfl rfl ?_ | refine zW rfl rfl rfl rfl ?_ | exact zD)
  | true =>
    cases hb : Lib.contains s.data.toList [32] with
    | true =>
      rw [show (⟨#[32]⟩ : ByteArray).data.toList = [32] from rfl, hb] at hc1
      rw [res_blank s hb]
      refine enter1 Tryz.func183 Tryz.ntmps183 rfl rfl fun w0 F0 O => ?_
      repeat' (first | refine zS rfl ?_ | refine qA ?_ | refine qB rfl ?_ | refine qD ?_ | refine qP rfl rfl rfl rfl rfl rfl b210 (hc1) ?_ | refine qL rfl rfl ?_ | refine zX rfl rfl rfl rfl ?_ | exact zD)
    | false =>
      rw [show (⟨#[32]⟩ : ByteArray).data.toList = [32] from rfl, hb] at hc1
      have hr := res_eq s hb
      refine enter1 Tryz.func183 Tryz.ntmps183 rfl rfl fun w0 F0 O => ?_
      repeat' (first | refine zS rfl ?_ | refine qA ?_ | refine qB rfl ?_ | refine qD ?_ | refine qP (d := 7) rfl rfl rfl rfl rfl rfl b210 (hc1) ?_ | refine qP rfl rfl rfl rfl rfl rfl b211 (hu) ?_ | refine qP (d := 15) rfl rfl rfl rfl rfl rfl b210 ((contains_ev _ _ (by decide +kernel))) ?_ | refine qL rfl rfl ?_ | refine zX rfl rfl rfl rfl ?_)
      rw [show ∀ x, (cond (bif true then !false else false) x false) = x from fun _ => rfl]
      refine congrArg D.bool (Eq.trans (congr (congrArg Lib.contains ?_) ?_) hr)
      · unfold joinW wordsB
        decide +kernel
      · simp only [ByteArray.data_append, Array.toList_append]
        simp
def wordF (s : ByteArray) : Bool := nameF s && !resF s
theorem nameF_size {s : ByteArray} (h : nameF s = true) : s.size ≤ 1000 := by
  unfold nameF at h
  simp only [Bool.and_eq_true, decide_eq_true_eq] at h
  omega
theorem word_ev (s : ByteArray) : Ev E 144 [.str s] (.d (.bool (wordF s))) := by
  have h1 := name_ev s
  unfold wordF
  cases hn : nameF s with
  | false =>
    rw [hn] at h1
    refine enter1 Tryz.func144 Tryz.ntmps144 rfl rfl fun w0 F0 O => ?_
    repeat' (first | refine zS rfl ?_ | refine qA ?_ | refine qB rfl ?_ | refine qD ?_ | refine qP rfl rfl rfl rfl rfl rfl b182 (h1) ?_ | refine qL rfl rfl ?_ | exact zD)
  | true =>
    rw [hn] at h1
    have h2 := res_ev s (nameF_size hn)
    refine enter1 Tryz.func144 Tryz.ntmps144 rfl rfl fun w0 F0 O => ?_
    repeat' (first | refine zS rfl ?_ | refine qA ?_ | refine qB rfl ?_ | refine qD ?_ | refine qP rfl rfl rfl rfl rfl rfl b182 (h1) ?_ | refine qP rfl rfl rfl rfl rfl rfl b183 (h2) ?_ | refine qL rfl rfl ?_ | exact zD)
theorem rword_ev (s : ByteArray) : Ev E 139 [.str s] (.d (.bool (wordF s))) := by
  have h1 := rname_ev s
  have h2 := rres_ev s
  unfold wordF
  cases hn : nameF s with
  | false =>
    rw [hn] at h1
    refine enter1 Tryz.func139 Tryz.ntmps139 rfl rfl fun w0 F0 O => ?_
    repeat' (first | refine zS rfl ?_ | refine qA ?_ | refine qB rfl ?_ | refine qD ?_ | refine qP rfl rfl rfl rfl rfl rfl b180 (h1) ?_ | refine qL rfl rfl ?_ | exact zD)
  | true =>
    rw [hn] at h1
    refine enter1 Tryz.func139 Tryz.ntmps139 rfl rfl fun w0 F0 O => ?_
    repeat' (first | refine zS rfl ?_ | refine qA ?_ | refine qB rfl ?_ | refine qD ?_ | refine qP rfl rfl rfl rfl rfl rfl b180 (h1) ?_ | refine qP rfl rfl rfl rfl rfl rfl b181 (h2) ?_ | refine qL rfl rfl ?_ | exact zD)
def nlF (e : Ex) : Bool :=
  bif e.op == 2 || (e.op == 3 || e.op == 4) then !wordF e.nm else
  bif e.op == 23 then ariLo e.nm == 0 else
  bif e.op == 24 then !aggF e.nm else false
theorem nameless_ev (e : Ex) : Ev E 88 [encE e] (.d (.bool (nlF e))) := by
  have h1 := word_ev e.nm
  have h2 := arity_ev e.nm
  have h3 := agg_ev e.nm
  refine enter1 Tryz.func88 Tryz.ntmps88 rfl rfl fun w0 F0 O => ?_
  repeat' (first | refine zS rfl ?_ | refine qA ?_ | refine qB rfl ?_ | refine qD ?_ | refine qE ?_ | refine qF ?_ | refine qG ?_ | refine qP rfl rfl rfl rfl rfl rfl b144 (h1) ?_ | refine qP rfl rfl rfl rfl rfl rfl b142 (h2) ?_ | refine qP rfl rfl rfl rfl rfl rfl b145 (h3) ?_ | refine zT rfl ?_ | refine qL rfl rfl ?_ | (refine qV rfl ?_ ?_ <;> intro _))
  all_goals (refine congrArg D.bool ?_; simp_all [nlF, Bool.cond_eq_ite])
end Go.Proofs.YthieohigmpfknaaGreatDoor

/- The checking of expressions, by both texts. Conditions: at most a million parts. -/
namespace Go.Proofs.YthieohigmpfknaaGreatDoor
open Go Go.Abs Go.Val Go.RowKit
attribute [local irreducible] go SGo HasBody Ev ExtEv EvO EvS

/-- The error of an expression without its operands. -/
def selfF (e : Ex) (w : Bool) : Int :=
  bif (decide (e.op < 1) || decide (e.op > 24)) || (!opdF e || !spareF e) then 1 else
  bif e.op == 1 && !constF e.v then 8 else
  bif nlF e then 6 else
  bif e.op == 24 && w then 9 else 0
mutual
def visF : Ex → Bool → Int
  | .mk op v nm ds ks, w => bif selfF (.mk op v nm ds ks) w != 0 then selfF (.mk op v nm ds ks) w else visM ks (w || op == 24)
def visM : List Ex → Bool → Int
  | [], _ => 0
  | x :: r, w => bif visF x w != 0 then visF x w else visM r w
end
theorem visM_at {l : List Ex} {i : Nat} {x : Ex} {w : Bool} (h : l[i]? = some x) : visM (l.drop i) w = bif visF x w != 0 then visF x w else visM (l.drop (i + 1)) w := by
  rw [drop_at h, visM]
structure SVs (l : List Ex) (w : Bool) where
  i : Nat
  hi : i ≤ l.length
  ok : visM l w = visM (l.drop i) w
theorem visF_ok {e : Ex} {w : Bool} (h : selfF e w = 0) : visF e w = visM e.ks (w || e.op == 24) := by
  cases e
  rw [visF, h]; rfl
theorem visF_bad {e : Ex} {w : Bool} {c : Int} (h : selfF e w = c) (hc : (c != 0) = true) : c = visF e w := by
  cases e
  rw [visF, h, hc]; rfl
set_option maxHeartbeats 4000000 in
theorem visit_ev (e : Ex) : ∀ w, Ev E 53 [encE e, .bool w] (.d (.int (visF e w))) := by
  refine xind (P := fun e => ∀ w, Ev E 53 [encE e, .bool w] (.d (.int (visF e w)))) (fun op v nm ds ks ih w => ?_) e
  refine Ev.fit fun hfit => ?_
  obtain ⟨-, -, -, hmax, -⟩ := fit_encE (hfit (encE (.mk op v nm ds ks)) (by simp))
  have hlen : (kidsE (.mk op v nm ds ks)).length = ks.length := kidsE_len _
  have hkg : ∀ (i : Nat) (x : Ex), ks[i]? = some x → (kidsE (.mk op v nm ds ks))[(i : Int).toNat]? = some (encE x) := fun i x h => kidsE_get (e := .mk op v nm ds ks) (by rw [Int.toNat_natCast]; exact h)
  have hks : Ex.ks (.mk op v nm ds ks) = ks := rfl
  generalize Ex.mk op v nm ds ks = e at *
  rw [hks] at hmax
  have h1 := operands_ev e
  have h2 := spare_ev e
  have h3 := constant_ev e.v
  have h4 := nameless_ev e
  have hsf : ∀ c, (bif (decide (e.op < 1) || decide (e.op > 24)) || (!opdF e || !spareF e) then 1 else bif e.op == 1 && !constF e.v then 8 else bif nlF e then 6 else bif e.op == 24 && w then 9 else 0) = c → selfF e w = c := fun c h => h
  have hbad := fun c (h : selfF e w = c) => visF_bad h
  have hok := visF_ok (e := e) (w := w)
  rw [hks] at hok
  clear hks
  generalize hW : (w || e.op == 24) = W at hok
  cases w
  all_goals
    refine enter2 Tryz.func53 Tryz.ntmps53 rfl rfl fun w0 F0 O => ?_
    repeat' (first | refine zS rfl ?_ | refine qA ?_ | refine qB rfl ?_ | refine qD ?_ | refine qE ?_ | refine qF ?_ | refine qG ?_ | refine qP rfl rfl rfl rfl rfl rfl b85 (h1) ?_ | refine qP rfl rfl rfl rfl rfl rfl b86 (h2) ?_ | refine qP rfl rfl rfl rfl rfl rfl b87 (h3) ?_ | refine qP rfl rfl rfl rfl rfl rfl b88 (h4) ?_ | refine zT rfl ?_ | refine zU rfl ?_ | refine qL rfl rfl ?_ | (refine qY rfl rfl rfl rfl ?_ ?_ <;> intro _) | (refine qV rfl ?_ ?_ <;> intro _))
    any_goals (refine congrArg D.int (hbad _ (hsf _ ?_) rfl); clear ih hkg hfit hsf hbad hok h1 h2 h3 h4; simp_all [Bool.cond_eq_ite]; done)
  all_goals
    rw [hok (hsf _ (by clear ih hkg hfit hsf hbad hok h1 h2 h3 h4; simp_all [Bool.cond_eq_ite]))]
    clear hsf hbad hok h1 h2 h3 h4
    refine go_loop_ (α := SVs ks W) (fun p => ⟨[(1, .d (.bool _)), (2, .ptr 0 0), (44, .d (.sl (kidsE e))), (45, .d (.int (kidsE e).length)), (46, .d (.int p.i))], [.var 31 (.w (.d (encE e)))]⟩) (fun p => ks.length - p.i) ⟨0, by omega, rfl⟩ ((zle 1)) ?_
    rintro ⟨i, hi, ok⟩
    dsimp only
    rcases Nat.lt_or_ge i ks.length with hlt | hge
    · have hd1 : decide ((i : Int) < ((kidsE e).length : Int)) = true := by rw [hlen]; simpa using hlt
      have hx0 := List.getElem?_eq_getElem hlt
      generalize ks[i] = x at hx0
      have hx := hkg i x hx0
      have hv := ih x (List.mem_of_getElem? hx0) W
      rw [← hW] at hv
      rw [ok, visM_at hx0]
      cases hz : visF x W != 0 with
      | true =>
        rw [← hW] at hz ⊢
        repeat' (first | refine zS rfl ?_ | refine qA ?_ | refine qB rfl ?_ | refine qD ?_ | refine qE ?_ | refine qF ?_ | refine qI (encE x) rfl (guardX_ok rfl) rfl rfl rfl rfl rfl rfl (by first | omega | decide) hx ?_ | refine qP rfl rfl rfl rfl rfl rfl b53 (hv) ?_ | refine zT rfl ?_ | refine qL rfl rfl ?_ | exact zD)
      | false =>
        rw [← hW] at hz
        repeat' (first | refine zS rfl ?_ | refine qA ?_ | refine qB rfl ?_ | refine qD ?_ | refine qE ?_ | refine qF ?_ | refine qG ?_ | refine qI (encE x) rfl (guardX_ok rfl) rfl rfl rfl rfl rfl rfl (by first | omega | decide) hx ?_ | refine qP rfl rfl rfl rfl rfl rfl b53 (hv) ?_ | refine zT rfl ?_ | refine zU rfl ?_)
        refine go_stop ?_
        exact ⟨⟨i + 1, by omega, by rw [ok, visM_at hx0, ← hW, hz]; rfl⟩, by dsimp only; omega, (zle 1)⟩
    · have hd1 : decide ((i : Int) < ((kidsE e).length : Int)) = false := by rw [hlen]; simp; omega
      rw [ok, List.drop_eq_nil_of_le hge, visM]
      repeat' (first | refine zS rfl ?_ | refine qA ?_ | refine qB rfl ?_ | refine qD ?_ | refine qH rfl ?_ | refine zU rfl ?_ | refine qL rfl rfl ?_ | exact zD)
end Go.Proofs.YthieohigmpfknaaGreatDoor

/- The checking of expressions by the reference; and what both checks answer. Conditions: at most a million parts. -/
namespace Go.Proofs.YthieohigmpfknaaGreatDoor
open Go Go.Abs Go.Val Go.RowKit
attribute [local irreducible] go SGo HasBody Ev ExtEv EvO EvS

set_option maxHeartbeats 4000000 in
theorem self_ev (e : Ex) (w : Bool) : Ev E 84 [encE e, .bool w] (.d (.int (selfF e w))) := by
  have h1 := roperands_ev e
  have h2 := rzero_ev e.v
  have h3 := RValid_ev e.v
  have h4 := named_ev e.op
  have h5 := rword_ev e.nm
  have h6 := rarity_ev e.nm
  have h7 := ragg_ev e.nm
  have hz := ari_zero e.nm
  generalize hc1 : ((decide (e.op < 1) || decide (e.op > 24)) || (!opdF e || !spareF e)) = c1
  generalize hc2 : (e.op == 1 && !constF e.v) = c2
  generalize hc3 : ((bif e.op == 2 || (e.op == 3 || e.op == 4) then !wordF e.nm else bif e.op == 24 then !aggF e.nm else false)) = c3
  refine enter2 Tryz.func84 Tryz.ntmps84 rfl rfl fun w0 F0 O => ?_
  repeat' (first | refine go_cutR 1 (fun b => ⟨[(50, .d (.bool b)), (1, .d (.bool w)), (2, .ptr 0 0)], [.var 31 (.w (.d (encE e)))]⟩) (c1) ?_ ?_ | refine go_cutR 3 (fun b => ⟨[(83, .d (.bool b)), (1, .d (.bool w)), (2, .ptr 0 0)], [.var 31 (.w (.d (encE e)))]⟩) (c2) ?_ ?_ | refine go_cutR 5 (fun b => ⟨[(113, .d (.bool b)), (1, .d (.bool w)), (2, .ptr 0 0)], [.var 31 (.w (.d (encE e)))]⟩) (c3) ?_ ?_ | refine zS rfl ?_ | refine qA ?_ | refine qB rfl ?_ | refine qD ?_ | refine qE ?_ | refine go_stop ⟨_, ?_, (zle 1)⟩ | refine qP rfl rfl rfl rfl rfl rfl b136 (h1) ?_ | refine qP rfl rfl rfl rfl rfl rfl b138 (h2) ?_ | refine qP rfl rfl rfl rfl rfl rfl b16 (h3) ?_ | refine qP rfl rfl rfl rfl rfl rfl b137 (h4) ?_ | refine qP rfl rfl rfl rfl rfl rfl b139 (h5) ?_ | refine qP rfl rfl rfl rfl rfl rfl b141 (h6) ?_ | refine qP rfl rfl rfl rfl rfl rfl b140 (h7) ?_ | refine zU rfl ?_ | refine qL rfl rfl ?_ | (refine qY rfl rfl rfl rfl ?_ ?_ <;> intro _) | (refine qV rfl ?_ ?_ <;> intro _))
  all_goals clear h1 h2 h3 h4 h5 h6 h7
  any_goals (refine Eq.trans ?_ hc1; clear hc1 hc2 hc3; simp_all [spareF, constF, nlF, isS, Bool.cond_eq_ite])
  any_goals (refine Eq.trans ?_ hc2; clear hc1 hc2 hc3; simp_all [spareF, constF, nlF, isS, Bool.cond_eq_ite])
  any_goals (refine Eq.trans ?_ hc3; clear hc1 hc2 hc3; simp_all [spareF, constF, nlF, isS, Bool.cond_eq_ite])
  any_goals (refine congrArg D.int ?_; unfold selfF; rw [hc1, hc2]; clear hc1 hc2; simp_all [nlF, Bool.cond_eq_ite])
  all_goals first
    | (have o1 : ¬ e.op < 1 := (by omega); have o2 : ¬ 24 < e.op := (by omega); simp_all; done)
    | (rw [Bool.eq_iff_iff]; simp_all; done)
    | (split at hc3 <;> simp_all; done)
theorem rvisit_ev (e : Ex) : ∀ w, Ev E 48 [encE e, .bool w] (.d (.int (visF e w))) := by
  refine xind (P := fun e => ∀ w, Ev E 48 [encE e, .bool w] (.d (.int (visF e w)))) (fun op v nm ds ks ih w => ?_) e
  refine Ev.fit fun hfit => ?_
  obtain ⟨-, -, -, hmax, -⟩ := fit_encE (hfit (encE (.mk op v nm ds ks)) (by simp))
  have hlen : (kidsE (.mk op v nm ds ks)).length = ks.length := kidsE_len _
  have hkg : ∀ (i : Nat) (x : Ex), ks[i]? = some x → (kidsE (.mk op v nm ds ks))[(i : Int).toNat]? = some (encE x) := fun i x h => kidsE_get (e := .mk op v nm ds ks) (by rw [Int.toNat_natCast]; exact h)
  have hks : Ex.ks (.mk op v nm ds ks) = ks := rfl
  generalize Ex.mk op v nm ds ks = e at *
  rw [hks] at hmax
  have h1 := self_ev e w
  have hbad := visF_bad (e := e) (w := w) rfl
  have hok := visF_ok (e := e) (w := w)
  rw [hks] at hok
  clear hks
  generalize hW : (w || e.op == 24) = W at hok
  cases hsf : selfF e w != 0 with
  | true =>
    rw [← hbad hsf]
    refine enter2 Tryz.func48 Tryz.ntmps48 rfl rfl fun w0 F0 O => ?_
    repeat' (first | refine zS rfl ?_ | refine qA ?_ | refine qB rfl ?_ | refine qD ?_ | refine qP rfl rfl rfl rfl rfl rfl b84 (h1) ?_ | refine zT rfl ?_ | refine qL rfl rfl ?_ | exact zD)
  | false =>
    rw [hok (by simpa using hsf)]
    cases w
    all_goals
      refine enter2 Tryz.func48 Tryz.ntmps48 rfl rfl fun w0 F0 O => ?_
      repeat' (first | refine zS rfl ?_ | refine qA ?_ | refine qB rfl ?_ | refine qD ?_ | refine qE ?_ | refine qF ?_ | refine qP rfl rfl rfl rfl rfl rfl b84 (h1) ?_ | refine zU rfl ?_)
      refine go_loop_ (α := SVs ks W) (fun p => ⟨[(1, .d (.bool _)), (2, .ptr 0 0), (6, .d (.int p.i))], [.var 31 (.w (.d (encE e)))]⟩) (fun p => ks.length - p.i) ⟨0, by omega, rfl⟩ ((zle 1)) ?_
      rintro ⟨i, hi, ok⟩
      dsimp only
      rcases Nat.lt_or_ge i ks.length with hlt | hge
      · have hd1 : decide ((i : Int) < ((kidsE e).length : Int)) = true := by rw [hlen]; simpa using hlt
        have hx0 := List.getElem?_eq_getElem hlt
        generalize ks[i] = x at hx0
        have hx := hkg i x hx0
        have hv := ih x (List.mem_of_getElem? hx0) W
        rw [← hW] at hv
        rw [ok, visM_at hx0]
        cases hz : visF x W != 0 with
        | true =>
          rw [← hW] at hz ⊢
          repeat' (first | refine zS rfl ?_ | refine qA ?_ | refine qB rfl ?_ | refine qC (by kernel_rfl) ?_ | refine qD ?_ | refine qE ?_ | refine qF ?_ | refine qI (encE x) rfl (guardX_ok rfl) rfl rfl rfl rfl rfl rfl (by first | omega | decide) hx ?_ | refine qP rfl rfl rfl rfl rfl rfl b48 (hv) ?_ | refine zT rfl ?_ | refine qL rfl rfl ?_ | exact zD)
        | false =>
          rw [← hW] at hz
          repeat' (first | refine zS rfl ?_ | refine qA ?_ | refine qB rfl ?_ | refine qC (by kernel_rfl) ?_ | refine qD ?_ | refine qE ?_ | refine qF ?_ | refine qG ?_ | refine qI (encE x) rfl (guardX_ok rfl) rfl rfl rfl rfl rfl rfl (by first | omega | decide) hx ?_ | refine qP rfl rfl rfl rfl rfl rfl b48 (hv) ?_ | refine zT rfl ?_ | refine zU rfl ?_)
          refine go_stop ?_
          exact ⟨⟨i + 1, by omega, by rw [ok, visM_at hx0, ← hW, hz]; rfl⟩, by dsimp only; omega, (zle 1)⟩
      · have hd1 : decide ((i : Int) < ((kidsE e).length : Int)) = false := by rw [hlen]; simp; omega
        rw [ok, List.drop_eq_nil_of_le hge, visM]
        repeat' (first | refine zS rfl ?_ | refine qA ?_ | refine qB rfl ?_ | refine qD ?_ | refine qH rfl ?_ | refine zU rfl ?_ | refine qL rfl rfl ?_ | exact zD)
/-- The error of an expression. -/
def chkF (e : Ex) : Int := bif decide (dp e > 24) then 5 else bif decide (nd e > 300) then 4 else visF e false
theorem check_ev (e : Ex) (h1 : dp e ≤ 1000000) (h2 : nd e ≤ 1000000) : Ev E 31 [encE e] (.d (.int (chkF e))) := by
  have a1 := depth_ev e h1
  have a2 := sizeE_ev e h2
  have a3 := visit_ev e false
  unfold chkF
  cases g1 : decide (dp e > 24) with
  | true =>
    have b1 : decide ((dp e : Int) > 24) = true := by simp at g1 ⊢; omega
    refine enter1 Tryz.func31 Tryz.ntmps31 rfl rfl fun w0 F0 O => ?_
    repeat' (first | refine zS rfl ?_ | refine qA ?_ | refine qB rfl ?_ | refine qD ?_ | refine qF ?_ | refine qP rfl rfl rfl rfl rfl rfl b51 (a1) ?_ | refine zT rfl ?_ | refine qL rfl rfl ?_ | exact zD)
  | false =>
    have b1 : decide ((dp e : Int) > 24) = false := by simp at g1 ⊢; omega
    cases g2 : decide (nd e > 300) with
    | true =>
      have b2 : decide ((nd e : Int) > 300) = true := by simp at g2 ⊢; omega
      refine enter1 Tryz.func31 Tryz.ntmps31 rfl rfl fun w0 F0 O => ?_
      repeat' (first | refine zS rfl ?_ | refine qA ?_ | refine qB rfl ?_ | refine qD ?_ | refine qF ?_ | refine qP rfl rfl rfl rfl rfl rfl b51 (a1) ?_ | refine qP rfl rfl rfl rfl rfl rfl b52 (a2) ?_ | refine zT rfl ?_ | refine zU rfl ?_ | refine qL rfl rfl ?_ | exact zD)
    | false =>
      have b2 : decide ((nd e : Int) > 300) = false := by simp at g2 ⊢; omega
      refine enter1 Tryz.func31 Tryz.ntmps31 rfl rfl fun w0 F0 O => ?_
      repeat' (first | refine zS rfl ?_ | refine qA ?_ | refine qB rfl ?_ | refine qD ?_ | refine qE ?_ | refine qF ?_ | refine qG ?_ | refine qP rfl rfl rfl rfl rfl rfl b51 (a1) ?_ | refine qP rfl rfl rfl rfl rfl rfl b52 (a2) ?_ | refine qP rfl rfl rfl rfl rfl rfl b53 (a3) ?_ | refine zU rfl ?_ | refine qL rfl rfl ?_ | exact zD)
theorem rcheck_ev (e : Ex) (h1 : dp e ≤ 1000000) (h2 : nd e ≤ 1000000) : Ev E 17 [encE e] (.d (.int (chkF e))) := by
  have a1 := rdepth_ev e h1
  have a2 := rsizeE_ev e h2
  have a3 := rvisit_ev e false
  unfold chkF
  cases g1 : decide (dp e > 24) with
  | true =>
    have b1 : decide ((dp e : Int) > 24) = true := by simp at g1 ⊢; omega
    refine enter1 Tryz.func17 Tryz.ntmps17 rfl rfl fun w0 F0 O => ?_
    repeat' (first | refine zS rfl ?_ | refine qA ?_ | refine qB rfl ?_ | refine qD ?_ | refine qP rfl rfl rfl rfl rfl rfl b46 (a1) ?_ | refine zT rfl ?_ | refine qL rfl rfl ?_ | exact zD)
  | false =>
    have b1 : decide ((dp e : Int) > 24) = false := by simp at g1 ⊢; omega
    cases g2 : decide (nd e > 300) with
    | true =>
      have b2 : decide ((nd e : Int) > 300) = true := by simp at g2 ⊢; omega
      refine enter1 Tryz.func17 Tryz.ntmps17 rfl rfl fun w0 F0 O => ?_
      repeat' (first | refine zS rfl ?_ | refine qA ?_ | refine qB rfl ?_ | refine qD ?_ | refine qE ?_ | refine qP rfl rfl rfl rfl rfl rfl b46 (a1) ?_ | refine qP rfl rfl rfl rfl rfl rfl b47 (a2) ?_ | refine zT rfl ?_ | refine zU rfl ?_ | refine qL rfl rfl ?_ | exact zD)
    | false =>
      have b2 : decide ((nd e : Int) > 300) = false := by simp at g2 ⊢; omega
      refine enter1 Tryz.func17 Tryz.ntmps17 rfl rfl fun w0 F0 O => ?_
      repeat' (first | refine zS rfl ?_ | refine qA ?_ | refine qB rfl ?_ | refine qD ?_ | refine qE ?_ | refine qP rfl rfl rfl rfl rfl rfl b46 (a1) ?_ | refine qP rfl rfl rfl rfl rfl rfl b47 (a2) ?_ | refine qP rfl rfl rfl rfl rfl rfl b48 (a3) ?_ | refine zU rfl ?_ | refine qL rfl rfl ?_ | exact zD)
end Go.Proofs.YthieohigmpfknaaGreatDoor
