/- The law ValueRows answers true for all rows. Conditions: none beyond the row's own (the listed variables as the program's text lays them). -/
import Derived.Test.YtjgmakalledclaaGreatDoorSR
import Derived.Test.YtjgmakalledclaaGreatDoorGC
import Derived.Test.YtjgmakalledclaaGreatDoorMC
import Derived.Test.YtjgmakalledclaaGreatDoorCards
set_option linter.unusedVariables false
set_option linter.unusedSimpArgs false
namespace Go.Proofs.YtjgmakalledclaaGreatDoor
set_option maxRecDepth 4000
open Go Go.Abs Go.Val Go.RowKit Go.ChangeShapes Go.WideShapes
attribute [local irreducible] go SGo HasBody Ev ExtEv EvO EvS RGo
theorem lightL_cost : ∀ (l : List (List V)) (most : Int), 0 ≤ lightL l most → (l.length : Int) + lightL l most ≤ most ∧ ∀ r ∈ l, (costL r : Int) ≤ most
  | [], most, h => by simp [lightL]
  | r :: q, most, h => by
    simp only [lightL] at h ⊢
    by_cases h0 : most ≥ 0
    · rw [decide_eq_true h0, cond_true] at h ⊢
      have hw : 0 ≤ weighL (weighF 12) r (most - 1) := by
        rcases Int.lt_or_le (weighL (weighF 12) r (most - 1)) 0 with hn | hn
        · exfalso
          generalize weighL (weighF 12) r (most - 1) = w at h hn
          cases q with
          | nil => simp [lightL] at h; omega
          | cons y z =>
            simp only [lightL] at h
            rw [decide_eq_false (by omega), cond_false] at h
            omega
        · exact hn
      have hc := weighL_cost (weighF 12) r (fun x _ left hx => weighF_cost 12 x left hx) (most - 1) hw
      obtain ⟨i1, i2⟩ := lightL_cost q _ h
      have hlen : 0 ≤ (costL r : Int) := Int.natCast_nonneg _
      refine ⟨by simp only [List.length_cons]; omega, fun x hx => ?_⟩
      rcases List.mem_cons.1 hx with e | e
      · rw [e]; omega
      · have := i2 x e; omega
    · rw [decide_eq_false h0, cond_false] at h
      omega
theorem nar_of_costL {r : List V} (h : (costL r : Int) ≤ 999999) : nar (vList r) = true := nar_cost (vList r) (by
  rw [cost_eq]
  show 1 + (⟨#[]⟩ : ByteArray).size / 50 + costL r ≤ 1000000
  have : (⟨#[]⟩ : ByteArray).size / 50 = 0 := rfl
  omega)
theorem light_rows {l : List (List V)} {n : Int} (hn : n ≤ 999999) (h : lightF l n = true) : l.length ≤ 2000000 ∧ ∀ r ∈ l, nar (vList r) = true := by
  have h0 : 0 ≤ lightL l n := of_decide_eq_true h
  obtain ⟨i1, i2⟩ := lightL_cost l n h0
  exact ⟨by omega, fun r hr => nar_of_costL (by have := i2 r hr; omega)⟩
theorem stS_idem (l : List (List V)) : stS (cmpL ordF) (stS (cmpL ordF) l) = stS (cmpL ordF) l := by
  obtain ⟨r1, s1⟩ := stS_ok rowC l
  obtain ⟨r2, s2⟩ := stS_ok rowC (stS (cmpL ordF) l)
  exact pw_uniq rowC rowZ _ _ r2.per (srt_pw (by rw [r2.len]; exact s2)) (srt_pw (by rw [r1.len]; exact s1))
structure RwI (S : List (List V)) where
  i : Nat
  h1 : 1 ≤ i
theorem law_rows (p : List V × List V) (l m : List (List V)) : Ev E 3 [.agg [.sl (encL p.1), .sl (encL p.2)], .sl (Val.encR l), .sl (Val.encR m)] (.d (.bool true)) := Ev.fit fun hfit => by
  obtain ⟨a, b⟩ := p
  have hal := alive_ev
  have L1 := light_ev [a, b] 300 (by omega) (by omega)
  have L2 := light_ev l 300 (by omega) (by omega)
  have L3 := light_ev m 300 (by omega) (by omega)
  cases h1 : lightF [a, b] 300 with
  | false =>
    rw [h1] at L1
    have n1 : (!false) = true := rfl
    refine enter3 Tryz.func3 Tryz.ntmps3 rfl rfl fun w0 F0 O => ?_
    repeat' (first | refine go_indexArr rfl rfl rfl rfl rfl rfl rfl (by decide) (by decide) ?_ | refine zS rfl ?_ | refine qA ?_ | refine qB rfl ?_ | refine qC (by kernel_rfl) ?_ | refine qD ?_ | refine qE ?_ | refine qF ?_ | refine qG ?_ | refine qH rfl ?_ | refine qP rfl rfl rfl rfl rfl rfl b10 (L1) ?_ | refine qP rfl rfl rfl rfl rfl rfl b10 (L2) ?_ | refine qP rfl rfl rfl rfl rfl rfl b10 (L3) ?_ | refine qP rfl rfl rfl rfl rfl rfl b11 (hal) ?_ | refine zT rfl ?_ | refine zU rfl ?_ | refine qL rfl rfl ?_ | refine qM rfl rfl rfl ?_ | refine qO rfl rfl rfl ?_ | refine zX rfl rfl rfl rfl ?_ | refine zW rfl rfl rfl rfl ?_ | (refine qY rfl rfl rfl rfl ?_ ?_ <;> intro _) | exact zD | exact zL)
  | true =>
  cases h2 : lightF l 300 with
  | false =>
    rw [h1] at L1
    rw [h2] at L2
    refine enter3 Tryz.func3 Tryz.ntmps3 rfl rfl fun w0 F0 O => ?_
    repeat' (first | refine go_indexArr rfl rfl rfl rfl rfl rfl rfl (by decide) (by decide) ?_ | refine zS rfl ?_ | refine qA ?_ | refine qB rfl ?_ | refine qC (by kernel_rfl) ?_ | refine qD ?_ | refine qE ?_ | refine qF ?_ | refine qG ?_ | refine qH rfl ?_ | refine qP (d := 18) rfl rfl rfl rfl rfl rfl b10 (L1) ?_ | refine qP (d := 22) rfl rfl rfl rfl rfl rfl b10 (L2) ?_ | refine qP (d := 27) rfl rfl rfl rfl rfl rfl b10 (L3) ?_ | refine qP rfl rfl rfl rfl rfl rfl b11 (hal) ?_ | refine zT rfl ?_ | refine zU rfl ?_ | refine qL rfl rfl ?_ | refine qM rfl rfl rfl ?_ | refine qO rfl rfl rfl ?_ | refine zX rfl rfl rfl rfl ?_ | refine zW rfl rfl rfl rfl ?_ | (refine qY rfl rfl rfl rfl ?_ ?_ <;> intro _) | exact zD | exact zL)
  | true =>
  cases h3 : lightF m 300 with
  | false =>
    rw [h1] at L1
    rw [h2] at L2
    rw [h3] at L3
    refine enter3 Tryz.func3 Tryz.ntmps3 rfl rfl fun w0 F0 O => ?_
    repeat' (first | refine go_indexArr rfl rfl rfl rfl rfl rfl rfl (by decide) (by decide) ?_ | refine zS rfl ?_ | refine qA ?_ | refine qB rfl ?_ | refine qC (by kernel_rfl) ?_ | refine qD ?_ | refine qE ?_ | refine qF ?_ | refine qG ?_ | refine qH rfl ?_ | refine qP (d := 18) rfl rfl rfl rfl rfl rfl b10 (L1) ?_ | refine qP (d := 22) rfl rfl rfl rfl rfl rfl b10 (L2) ?_ | refine qP (d := 27) rfl rfl rfl rfl rfl rfl b10 (L3) ?_ | refine qP rfl rfl rfl rfl rfl rfl b11 (hal) ?_ | refine zT rfl ?_ | refine zU rfl ?_ | refine qL rfl rfl ?_ | refine qM rfl rfl rfl ?_ | refine qO rfl rfl rfl ?_ | refine zX rfl rfl rfl rfl ?_ | refine zW rfl rfl rfl rfl ?_ | (refine qY rfl rfl rfl rfl ?_ ?_ <;> intro _) | exact zD | exact zL)
  | true =>
    rw [h1] at L1
    rw [h2] at L2
    rw [h3] at L3
    obtain ⟨hl1, hl2⟩ := light_rows (by omega) h2
    obtain ⟨hm1, hm2⟩ := light_rows (by omega) h3
    have q1 := SortRows_ev l hl2 hl1
    obtain ⟨r1, s1⟩ := stS_ok rowC l
    have q2 := OrderRows_ev a b
    have q3 := rOrderRows_ev a b
    have q4 := rSortRows_ev l hl2 hl1
    have q5 := SameRows_ev (stS (cmpL ordF) l) (stS (cmpL ordF) l)
    have q6 := SameBag_ev l m hl2 hm2 hl1 hm1
    have q7 := rSameBag_ev l m hl2 hm2 hl1 hm1
    have hS2 : ∀ r ∈ stS (cmpL ordF) l, nar (vList r) = true := fun r hr => hl2 r (r1.per.subset hr)
    have q8 := SameBag_ev (stS (cmpL ordF) l) l hS2 hl2 (by rw [r1.len]; exact hl1) hl1
    rw [sameZ_iff.2 rfl] at q5
    rw [stS_idem, sameZ_iff.2 rfl] at q8
    have hSl : (stS (cmpL ordF) l).length = l.length := r1.len
    generalize stS (cmpL ordF) l = S at *
    have hlS : (Val.encR S).length = l.length := by rw [encR_len, hSl]
    generalize sameZ S (stS (cmpL ordF) m) = B at *
    have e1 : (cmpL ordF a b == cmpL ordF a b) = true := beq_self_eq_true _
    have e2 : (B == B) = true := beq_self_eq_true _
    refine enter3 Tryz.func3 Tryz.ntmps3 rfl rfl fun w0 F0 O => ?_
    repeat' (first | refine go_indexArr rfl rfl rfl rfl rfl rfl rfl (by decide) (by decide) ?_ | refine zS rfl ?_ | refine qA ?_ | refine qB rfl ?_ | refine qC (by kernel_rfl) ?_ | refine qD ?_ | refine qE ?_ | refine qF ?_ | refine qG ?_ | refine qH rfl ?_ | refine qP (d := 18) rfl rfl rfl rfl rfl rfl b10 (L1) ?_ | refine qP (d := 22) rfl rfl rfl rfl rfl rfl b10 (L2) ?_ | refine qP (d := 27) rfl rfl rfl rfl rfl rfl b10 (L3) ?_ | refine qP rfl rfl rfl rfl rfl rfl b12 (q1) ?_ | refine zT rfl ?_ | refine zU rfl ?_ | refine qL rfl rfl ?_ | refine qM rfl rfl rfl ?_ | refine qO rfl rfl rfl ?_ | refine zX rfl rfl rfl rfl ?_ | refine zW rfl rfl rfl rfl ?_ | (refine qY rfl rfl rfl rfl ?_ ?_ <;> intro _) | exact zD | exact zL)
    refine go_loop_ (α := RwI S) (fun p => ⟨[(1, .d (.sl (Val.encR l))), (2, .d (.sl (Val.encR m))), (7, .d (encRw a)), (8, .d (encRw b)), (9, .d (.sl (Val.encR S))), (10, .d (.int p.i))], []⟩) (fun p => S.length - p.i) ⟨1, by omega⟩ ((zle 0)) ?_
    rintro ⟨i, hi⟩
    dsimp only
    rcases Nat.lt_or_ge i S.length with hlt | hge
    · have g1 : decide ((i : Int) < ((Val.encR S).length : Int)) = true := decide_eq_true (by omega)
      have x1 : (Val.encR S)[((i : Int) - 1).toNat]? = some (encRw (atS S (i - 1))) := by rw [encR_eq]; exact row_get (en := encRw) (by omega) (by omega)
      have x2 : (Val.encR S)[((i : Int)).toNat]? = some (encRw (atS S i)) := by rw [encR_eq]; exact row_get (en := encRw) (by omega) (by omega)
      have q := OrderRows_ev (atS S (i - 1)) (atS S i)
      have hs := s1 (i - 1) i (by omega) (by omega) (by omega)
      have g2 : decide (cmpL ordF (atS S (i - 1)) (atS S i) > 0) = false := decide_eq_false (by omega)
      repeat' (first | refine zS rfl ?_ | refine qA ?_ | refine qB rfl ?_ | refine qC (by kernel_rfl) ?_ | refine qD ?_ | refine qE ?_ | refine qF ?_ | refine qG ?_ | refine qH rfl ?_ | refine qI (encRw (atS S (i - 1))) rfl (guardX_ok rfl) rfl rfl rfl rfl rfl rfl (by first | omega | decide) x1 ?_ | refine qI (encRw (atS S i)) rfl (guardX_ok rfl) rfl rfl rfl rfl rfl rfl (by first | omega | decide) x2 ?_ | refine qP rfl rfl rfl rfl rfl rfl b13 (q) ?_ | refine zT rfl ?_ | refine zU rfl ?_ | refine qL rfl rfl ?_ | refine qM rfl rfl rfl ?_ | refine qO rfl rfl rfl ?_ | refine zX rfl rfl rfl rfl ?_ | refine zW rfl rfl rfl rfl ?_ | (refine qY rfl rfl rfl rfl ?_ ?_ <;> intro _) | exact zD | exact zL)
      refine go_stop ?_
      exact ⟨⟨i + 1, by omega⟩, by dsimp only; omega, (zle 0)⟩
    · have g1 : decide ((i : Int) < ((Val.encR S).length : Int)) = false := decide_eq_false (by omega)
      repeat' (first | refine zS rfl ?_ | refine qA ?_ | refine qB rfl ?_ | refine qC (by kernel_rfl) ?_ | refine qD ?_ | refine qE ?_ | refine qF ?_ | refine qG ?_ | refine qH rfl ?_ | refine qP rfl rfl rfl rfl rfl rfl b13 (q2) ?_ | refine qP rfl rfl rfl rfl rfl rfl b14 (q3) ?_ | refine qP rfl rfl rfl rfl rfl rfl b16 (q4) ?_ | refine qP rfl rfl rfl rfl rfl rfl b15 (q5) ?_ | refine qP (d := 66) rfl rfl rfl rfl rfl rfl b17 (q6) ?_ | refine qP rfl rfl rfl rfl rfl rfl b18 (q7) ?_ | refine qP (d := 75) rfl rfl rfl rfl rfl rfl b17 (q8) ?_ | refine qP rfl rfl rfl rfl rfl rfl b11 (hal) ?_ | refine zT rfl ?_ | refine zU rfl ?_ | refine qL rfl rfl ?_ | refine qM rfl rfl rfl ?_ | refine qO rfl rfl rfl ?_ | refine zX rfl rfl rfl rfl ?_ | refine zW rfl rfl rfl rfl ?_ | (refine qY rfl rfl rfl rfl ?_ ?_ <;> intro _) | exact zD | exact zL)
theorem mapR_all {α : Type} {f : α → D} : ∀ {ys : List D}, (∀ y ∈ ys, ∃ v, y = f v) → ∃ l : List α, ys = l.map f
  | [], _ => ⟨[], rfl⟩
  | y :: r, h => by
    obtain ⟨v, hv⟩ := h y (by simp)
    obtain ⟨l, hl⟩ := mapR_all (ys := r) fun z hz => h z (by simp [hz])
    exact ⟨v :: l, by rw [hv, hl]; rfl⟩
theorem ty_row {x : D} (h : HasTy Tryz.prog 23 x) : ∃ l, x = encRw l := by
  obtain ⟨xs, rfl, hx⟩ := HasTy.sl_inv Tryz.underlying23 h
  obtain ⟨l, rfl⟩ := mapR_all (f := enc) fun y hy => ty_val (hx y hy)
  exact ⟨l, by unfold encRw; rw [encL_map]⟩
theorem ty_rows {x : D} (h : HasTy Tryz.prog 25 x) : ∃ l, x = .sl (Val.encR l) := by
  obtain ⟨xs, rfl, hx⟩ := HasTy.sl_inv Tryz.underlying25 h
  obtain ⟨l, rfl⟩ := mapR_all (f := encRw) fun y hy => ty_row (hx y hy)
  exact ⟨l, rfl⟩
theorem ty_pair {x : D} (h : HasTy Tryz.prog 24 x) : ∃ p : List V × List V, x = .agg [.sl (encL p.1), .sl (encL p.2)] := by
  have hu := Tryz.underlying24
  cases h with
  | arr parts h hl hp =>
    rw [hu] at h
    cases h
    match parts, hl with
    | [p0, p1], _ =>
      obtain ⟨a, rfl⟩ := ty_row (hp p0 (by simp))
      obtain ⟨b, rfl⟩ := ty_row (hp p1 (by simp))
      exact ⟨(a, b), rfl⟩
  | bool b h => rw [hu] at h; cases h
  | int n h => rw [hu] at h; cases h
  | str s h => rw [hu] at h; cases h
  | sl xs h hx => rw [hu] at h; cases h
  | struct parts h hl hp => rw [hu] at h; cases h
def tysR : List TypeId := [3, 9, 22, 35, 58, 23, 25, 24]
theorem tysR_ok : closedB Tryz.prog tysR = true := by kernel_rfl
set_option maxRecDepth 100000 in
theorem rows_lifted (os : Os) (started : os.Started) (H : Type) (enc : TypeId × Value → H) :
    ReturnsInHanded {} Tryz.checked os 3 .any (fun w args => (Rows.valueRowsSpec.pre enc Tryz.prog Tryz.f3 [] false w args ∧ laidMetH Tryz.prog seatLaid w) ∧ sizedMet enc Tryz.prog Tryz.f3 (OpenSpec.ofChange Rows.valueRowsSpec) false w args)
      (Rows.valueRowsSpec.post enc Tryz.prog Tryz.f3 false true false false) := by
  refine lift_true (C := Tryz.checked) (laid := seatLaid) (tb := 4) tysR seat_own started (by kernel_rfl) Tryz.func3
    (ChangeSpec.witness_shaped (enc := enc) (C := Tryz.checked) (os := os) (X := fun w _ => laidMetH Tryz.prog seatLaid w) false (wit os) #[.agg #[.slice none 0 0, .slice none 0 0], .slice none 0 0, .slice none 0 0] 8 rfl (wit_shaped os _) (by kernel_rfl) (by kernel_rfl) (by kernel_rfl) (wit_met os _))
    rfl rfl Tryz.underlying4 (fun ds hl => ?_) seat_out (by kernel_rfl) tysR_ok (by kernel_rfl) (fun W args xs hL hS hx hsz hr hty => ?_)
  · match ds, hl with
    | [_, _, _], _ => rfl
  · have hsz' : args.size = 3 := hsz
    rw [hsz'] at hx
    match xs, hx with
    | [x0, x1, x2], _ =>
      obtain ⟨a0, rfl⟩ := ty_pair (hty 0 _ x0 rfl rfl)
      obtain ⟨a1, rfl⟩ := ty_rows (hty 1 _ x1 rfl rfl)
      obtain ⟨a2, rfl⟩ := ty_rows (hty 2 _ x2 rfl rfl)
      exact calls_of_ev (gi_of hL hS) (law_rows a0 a1 a2) (by simp [hsz']) hr
theorem rows_holds : Rows.ValueRowsSaid :=
  OpenClaim.holds_of_wide 3 Tryz.f3 rfl rfl rfl rfl rfl rfl rfl ⟨rfl, rfl, rfl, rfl, rfl⟩ rfl rfl rfl rfl rfl (by kernel_rfl) Tryz.func3 (by kernel_rfl)
    (of_decide_eq_true (by kernel_rfl)) (by unfold Func.isWrapper; first | (rw [if_pos (by decide +kernel)]; kernel_rfl) | (rw [if_neg (by decide +kernel)]; exact ⟨rfl, rfl⟩))
    (fun os started H enc _ => rows_lifted os started H enc)
theorem rows_card : Rows.ValueRowsCardSaid := by
  unfold Rows.ValueRowsCardSaid Rows.valueRowsCard
  exact Claim7.holds_tied_plain_at .later [] _ true _ false
    rows_holds (fun _ h => by cases h) (by kernel_rfl) (fun _ h => by cases h) valueRows_row_tie rfl ⟨rfl, rfl⟩ (by kernel_rfl) rfl
    (fun f fn hf hfn => by
      obtain rfl : f = 3 := Option.some.inj ((show Tryz.prog.funcNamed Rows.valueRowsRow.func = some 3 by kernel_rfl).symm.trans hf) |>.symm
      obtain rfl : fn = Tryz.f3 := (Option.some.inj (Tryz.func3.symm.trans hfn)).symm
      exact ⟨by kernel_rfl, fun j t ht => by
        have hall : (Tryz.f3.params.toList.all fun u => !Tryz.prog.wantsStandIn u) = true := by kernel_rfl
        exact (show Tryz.prog.wantsStandIn t = false by simpa using List.all_eq_true.1 hall t (by simpa using Array.mem_of_getElem? ht))⟩)
    (by kernel_rfl)
#print axioms rows_card
end Go.Proofs.YtjgmakalledclaaGreatDoor
