/- The law AggregateParts answers true. Conditions: none. -/
import Derived.Test.YtjgmakalledclaaGreatDoorGC
import Derived.Test.YtjgmakalledclaaGreatDoorAA
set_option linter.unusedVariables false
set_option linter.unusedSimpArgs false
namespace Go.Proofs.YtjgmakalledclaaGreatDoor
set_option maxRecDepth 4000
open Go Go.Abs Go.Val Go.RowKit
attribute [local irreducible] go SGo HasBody Ev ExtEv EvO EvS RGo
theorem nar_srt {l : List V} (h : ∀ x ∈ l, nar x = true) (k : Nat) : nar (bif (srtF l).length == 0 then vNull else atS (srtF l) k) = true ∨ (srtF l).length ≤ k := by
  by_cases hk : k < (srtF l).length
  · rw [show ((srtF l).length == 0) = false by (rw [beq_eq_false_iff_ne]; omega), cond_false]
    refine .inl (h _ ?_)
    have := List.mem_of_getElem? (atS_get hk)
    exact (List.mem_filter.1 (stS_mem this)).1
  · exact .inr (by omega)
theorem nar_min {l : List V} (h : ∀ x ∈ l, nar x = true) : nar (agF bMin false l) = true := by
  rw [ag_min]
  cases hl : (srtF l).length == 0 with
  | true => exact (show nar vNull = true by decide)
  | false =>
    rcases nar_srt h 0 with h1 | h1
    · rwa [hl] at h1
    · rw [beq_eq_false_iff_ne] at hl; omega
theorem nar_max {l : List V} (h : ∀ x ∈ l, nar x = true) : nar (agF bMax false l) = true := by
  rw [ag_max]
  cases hl : (srtF l).length == 0 with
  | true => exact (show nar vNull = true by decide)
  | false =>
    rcases nar_srt h ((srtF l).length - 1) with h1 | h1
    · rwa [hl] at h1
    · rw [beq_eq_false_iff_ne] at hl; omega
set_option maxHeartbeats 1000000 in
theorem law_parts (l m : List V) : Ev E 7 [.sl (encL l), .sl (encL m)] (.d (.bool true)) := by
  have hal := alive23_ev
  have f1 := few_ev l
  have f2 := few_ev m
  have hle1 : (encL l).length = l.length := encL_len l
  have hle2 : (encL m).length = m.length := encL_len m
  cases h : fewF l with
  | false =>
    rw [h] at f1
    have g : (!false) = true := rfl
    refine enter2 Tryz.func7 Tryz.ntmps7 rfl rfl fun w0 F0 O => ?_
    repeat' (first | refine zS rfl ?_ | refine qA ?_ | refine qB rfl ?_ | refine qC (by kernel_rfl) ?_ | refine qD ?_ | refine qE ?_ | refine qF ?_ | refine qG ?_ | refine qH rfl ?_ | refine qP (d := 13) rfl rfl rfl rfl rfl rfl b19 (f1) ?_ | refine qP (d := 17) rfl rfl rfl rfl rfl rfl b19 (f2) ?_ | refine qP rfl rfl rfl rfl rfl rfl b20 (hal) ?_ | refine zT rfl ?_ | refine zU rfl ?_ | refine qL rfl rfl ?_ | refine qM rfl rfl rfl ?_ | refine qO rfl rfl rfl ?_ | refine zX rfl rfl rfl rfl ?_ | refine zW rfl rfl rfl rfl ?_ | (refine qY rfl rfl rfl rfl ?_ ?_ <;> intro _) | exact zD | exact zL)
  | true =>
  cases h' : fewF m with
  | false =>
    rw [h] at f1
    rw [h'] at f2
    have g : (!false) = true := rfl
    have g9 : (!true) = false := rfl
    refine enter2 Tryz.func7 Tryz.ntmps7 rfl rfl fun w0 F0 O => ?_
    repeat' (first | refine zS rfl ?_ | refine qA ?_ | refine qB rfl ?_ | refine qC (by kernel_rfl) ?_ | refine qD ?_ | refine qE ?_ | refine qF ?_ | refine qG ?_ | refine qH rfl ?_ | refine qP (d := 13) rfl rfl rfl rfl rfl rfl b19 (f1) ?_ | refine qP (d := 17) rfl rfl rfl rfl rfl rfl b19 (f2) ?_ | refine qP rfl rfl rfl rfl rfl rfl b20 (hal) ?_ | refine zT rfl ?_ | refine zU rfl ?_ | refine qL rfl rfl ?_ | refine qM rfl rfl rfl ?_ | refine qO rfl rfl rfl ?_ | refine zX rfl rfl rfl rfl ?_ | refine zW rfl rfl rfl rfl ?_ | (refine qY rfl rfl rfl rfl ?_ ?_ <;> intro _) | exact zD | exact zL)
  | true =>
    rw [h] at f1
    rw [h'] at f2
    have g9 : (!true) = false := rfl
    obtain ⟨h1, h2⟩ := few_ok h
    obtain ⟨k1, k2⟩ := few_ok h'
    have hmem : ∀ x ∈ l ++ m, nar x = true := fun x hx => by
      rcases List.mem_append.1 hx with e | e
      · exact h2 x e
      · exact k2 x e
    have hlen : (l ++ m).length ≤ 2000000 := by rw [List.length_append]; omega
    have qA : ∀ (name : ByteArray) (z : List D), z = encL (l ++ m) → Ev E 22 [.str name, .bool false, .sl z] (.d (enc (agF name false (l ++ m)))) := fun name z e => by
      rw [e]
      exact Agg_ev name false (l ++ m) hlen hmem
    have p1 : (presF l).length ≤ 100 := Nat.le_trans (List.length_filter_le _ _) h1
    have p2 : (presF m).length ≤ 100 := Nat.le_trans (List.length_filter_le _ _) k1
    have c1 := Agg_ev bCount false l (by omega) h2
    have c2 := Agg_ev bCount false m (by omega) k2
    rw [ag_count] at c1 c2
    have c1' : Ev E 22 [.str ⟨#[99, 111, 117, 110, 116]⟩, .bool false, .sl (encL l)] (.d (enc (vInt (presF l).length))) := c1
    have c2' : Ev E 22 [.str ⟨#[99, 111, 117, 110, 116]⟩, .bool false, .sl (encL m)] (.d (enc (vInt (presF m).length))) := c2
    have c3 : ∀ z : List D, z = encL (l ++ m) → Ev E 22 [.str ⟨#[99, 111, 117, 110, 116]⟩, .bool false, .sl z] (.d (enc (vInt ((presF l).length + (presF m).length)))) := fun z e => by
      have := qA bCount z e
      rw [parts_count] at this
      exact this
    have a1 := Agg_ev bMin false l (by omega) h2
    have a2 := Agg_ev bMin false m (by omega) k2
    have a3 := qA bMin
    have a4 := RAgg_ev bMin false [agF bMin false l, agF bMin false m] (by simp) (fun x hx => by
      simp only [List.mem_cons, List.not_mem_nil, or_false] at hx
      rcases hx with rfl | rfl
      · exact nar_min h2
      · exact nar_min k2)
    rw [← parts_min] at a4
    have a5 := same23_ev (agF bMin false (l ++ m)) (agF bMin false (l ++ m))
    rw [ordF_self] at a5
    have b1 := Agg_ev bMax false l (by omega) h2
    have b2 := Agg_ev bMax false m (by omega) k2
    have b3 := qA bMax
    have b4 := RAgg_ev bMax false [agF bMax false l, agF bMax false m] (by simp) (fun x hx => by
      simp only [List.mem_cons, List.not_mem_nil, or_false] at hx
      rcases hx with rfl | rfl
      · exact nar_max h2
      · exact nar_max k2)
    rw [← parts_max] at b4
    have b5 := same23_ev (agF bMax false (l ++ m)) (agF bMax false (l ++ m))
    rw [ordF_self] at b5
    clear qA
    generalize agF bMin false (l ++ m) = Rn at *
    generalize agF bMax false (l ++ m) = Rx at *
    generalize agF bMin false l = Ln at *
    generalize agF bMax false l = Lx at *
    generalize agF bMin false m = Mn at *
    generalize agF bMax false m = Mx at *
    have g2 : ((2 : Int) != 2) = false := rfl
    have g3 : ((((presF l).length : Int) + ((presF m).length : Int)) != (((presF l).length : Int) + ((presF m).length : Int))) = false := by simp
    generalize (presF l).length = PL at *
    generalize (presF m).length = PM at *
    have n1 : (vInt (PL : Int)).n = (PL : Int) := rfl
    have n2 : (vInt (PM : Int)).n = (PM : Int) := rfl
    have g4 : ((vInt ((PL : Int) + (PM : Int))).n != (vInt (PL : Int)).n + (vInt (PM : Int)).n) = false := g3
    have e0 : encL (l ++ m) = encL l ++ encL m := by simp [encL_map]
    have s0 : ([] : List D).length = 0 := rfl
    have s1 : (([] : List D) ++ encL l).length = l.length := hle1
    have hx1 : ([.str ⟨#[109, 105, 110]⟩, .str ⟨#[109, 97, 120]⟩] : List D)[((0 : Nat) : Int).toNat]? = some (.str ⟨#[109, 105, 110]⟩) := rfl
    have hx2 : ([.str ⟨#[109, 105, 110]⟩, .str ⟨#[109, 97, 120]⟩] : List D)[((1 : Nat) : Int).toNat]? = some (.str ⟨#[109, 97, 120]⟩) := rfl
    by_cases hl0 : encL l = []
    · by_cases hm0 : encL m = []
      · have ez : ([] : List D) = encL (l ++ m) := by rw [e0, hl0, hm0]; rfl
        have c3' := c3 _ ez
        have a3' := a3 _ ez
        have b3' := b3 _ ez
        clear c3 a3 b3 ez
        refine enter2 Tryz.func7 Tryz.ntmps7 rfl rfl fun w0 F0 O => ?_
        repeat' (first | refine go_buildOwn rfl rfl rfl rfl rfl rfl rfl (by decide) (by decide) ?_ | (refine go_append0o rfl rfl rfl rfl rfl rfl rfl rfl (congrArg (fun z => X.d (D.sl z)) hl0) ?_) | (refine go_append0o rfl rfl rfl rfl rfl rfl rfl rfl (congrArg (fun z => X.d (D.sl z)) hm0) ?_) | refine zS rfl ?_ | refine qA ?_ | refine qB rfl ?_ | refine qC (by kernel_rfl) ?_ | refine qD ?_ | refine qE ?_ | refine qF ?_ | refine qG ?_ | refine qH rfl ?_ | refine qP (d := 13) rfl rfl rfl rfl rfl rfl b19 (f1) ?_ | refine qP (d := 17) rfl rfl rfl rfl rfl rfl b19 (f2) ?_ | refine qP (d := 27) rfl rfl rfl rfl rfl rfl b22 (c1') ?_ | refine qP (d := 29) rfl rfl rfl rfl rfl rfl b22 (c2') ?_ | refine zT rfl ?_ | refine zU rfl ?_ | refine qL rfl rfl ?_ | refine qM rfl rfl rfl ?_ | refine qO rfl rfl rfl ?_ | refine zX rfl rfl rfl rfl ?_ | refine zW rfl rfl rfl rfl ?_ | (refine qY rfl rfl rfl rfl ?_ ?_ <;> intro _) | exact zD | exact zL)
        refine go_frzS 0 rfl ?_
        repeat' (first | refine zS rfl ?_ | refine qA ?_ | refine qB rfl ?_ | refine qC (by kernel_rfl) ?_ | refine qD ?_ | refine qE ?_ | refine qF ?_ | refine qG ?_ | refine qH rfl ?_ | refine qP (d := 31) rfl rfl rfl rfl rfl rfl b22 (c3') ?_ | refine zT rfl ?_ | refine zU rfl ?_ | refine qL rfl rfl ?_ | refine qM rfl rfl rfl ?_ | refine qO rfl rfl rfl ?_ | refine zX rfl rfl rfl rfl ?_ | refine zW rfl rfl rfl rfl ?_ | (refine qY rfl rfl rfl rfl ?_ ?_ <;> intro _) | exact zD | exact zL)
        refine go_loop_ (α := Fin 3) (fun p => ⟨[(0, .d (.sl (encL l))), (1, .d (.sl (encL m))), (5, .d (.sl [])), (45, .d (.sl [.str ⟨#[109, 105, 110]⟩, .str ⟨#[109, 97, 120]⟩])), (46, .d (.int 2)), (47, .d (.int p.val))], []⟩) (fun p => 3 - p.val) ⟨0, by omega⟩ ((zle 0)) ?_
        rintro ⟨i, hi⟩
        dsimp only
        rcases (show i = 0 ∨ i = 1 ∨ i = 2 by omega) with rfl | rfl | rfl
        · have g1 : decide (((0 : Nat) : Int) < 2) = true := by decide
          repeat' (first | refine zS rfl ?_ | refine qA ?_ | refine qB rfl ?_ | refine qC (by kernel_rfl) ?_ | refine qD ?_ | refine qE ?_ | refine qF ?_ | refine qG ?_ | refine qH rfl ?_ | refine qI (.str ⟨#[109, 105, 110]⟩) rfl (guardX_ok rfl) rfl rfl rfl rfl rfl rfl (by first | omega | decide) hx1 ?_ | refine qP (d := 53) rfl rfl rfl rfl rfl rfl b22 (a1) ?_ | refine qP (d := 56) rfl rfl rfl rfl rfl rfl b22 (a2) ?_ | refine qP (d := 60) rfl rfl rfl rfl rfl rfl b22 (a3') ?_ | refine qP rfl rfl rfl rfl rfl rfl b23 (a4) ?_ | refine qP rfl rfl rfl rfl rfl rfl b21 (a5) ?_ | refine zT rfl ?_ | refine zU rfl ?_ | refine qL rfl rfl ?_ | refine qM rfl rfl rfl ?_ | refine qO rfl rfl rfl ?_ | refine zX rfl rfl rfl rfl ?_ | refine zW rfl rfl rfl rfl ?_ | (refine qY rfl rfl rfl rfl ?_ ?_ <;> intro _) | exact zD | exact zL)
          refine go_stop ?_
          exact ⟨⟨1, by omega⟩, by dsimp only; omega, (zle 0)⟩
        · have g1 : decide (((1 : Nat) : Int) < 2) = true := by decide
          repeat' (first | refine zS rfl ?_ | refine qA ?_ | refine qB rfl ?_ | refine qC (by kernel_rfl) ?_ | refine qD ?_ | refine qE ?_ | refine qF ?_ | refine qG ?_ | refine qH rfl ?_ | refine qI (.str ⟨#[109, 97, 120]⟩) rfl (guardX_ok rfl) rfl rfl rfl rfl rfl rfl (by first | omega | decide) hx2 ?_ | refine qP (d := 53) rfl rfl rfl rfl rfl rfl b22 (b1) ?_ | refine qP (d := 56) rfl rfl rfl rfl rfl rfl b22 (b2) ?_ | refine qP (d := 60) rfl rfl rfl rfl rfl rfl b22 (b3') ?_ | refine qP rfl rfl rfl rfl rfl rfl b23 (b4) ?_ | refine qP rfl rfl rfl rfl rfl rfl b21 (b5) ?_ | refine zT rfl ?_ | refine zU rfl ?_ | refine qL rfl rfl ?_ | refine qM rfl rfl rfl ?_ | refine qO rfl rfl rfl ?_ | refine zX rfl rfl rfl rfl ?_ | refine zW rfl rfl rfl rfl ?_ | (refine qY rfl rfl rfl rfl ?_ ?_ <;> intro _) | exact zD | exact zL)
          refine go_stop ?_
          exact ⟨⟨2, by omega⟩, by dsimp only; omega, (zle 0)⟩
        · have g1 : decide (((2 : Nat) : Int) < 2) = false := by decide
          repeat' (first | refine zS rfl ?_ | refine qA ?_ | refine qB rfl ?_ | refine qC (by kernel_rfl) ?_ | refine qD ?_ | refine qE ?_ | refine qF ?_ | refine qG ?_ | refine qH rfl ?_ | refine qP rfl rfl rfl rfl rfl rfl b20 (hal) ?_ | refine zT rfl ?_ | refine zU rfl ?_ | refine qL rfl rfl ?_ | refine qM rfl rfl rfl ?_ | refine qO rfl rfl rfl ?_ | refine zX rfl rfl rfl rfl ?_ | refine zW rfl rfl rfl rfl ?_ | (refine qY rfl rfl rfl rfl ?_ ?_ <;> intro _) | exact zD | exact zL)
      · have ez : (([] ++ encL m) : List D) = encL (l ++ m) := by rw [e0, hl0]; try simp
        have c3' := c3 _ ez
        have a3' := a3 _ ez
        have b3' := b3 _ ez
        clear c3 a3 b3 ez
        refine enter2 Tryz.func7 Tryz.ntmps7 rfl rfl fun w0 F0 O => ?_
        repeat' (first | refine go_buildOwn rfl rfl rfl rfl rfl rfl rfl (by decide) (by decide) ?_ | (refine go_append0o rfl rfl rfl rfl rfl rfl rfl rfl (congrArg (fun z => X.d (D.sl z)) hl0) ?_) | (refine qS rfl ⟨hm0, encL_cells m, by (show (([] : List D).length + (encL m).length) * 64 ≤ 140737488355328; omega), by (show ([] : List D).length + (encL m).length ≤ 9223372036854775807; omega)⟩ ?_) | refine zS rfl ?_ | refine qA ?_ | refine qB rfl ?_ | refine qC (by kernel_rfl) ?_ | refine qD ?_ | refine qE ?_ | refine qF ?_ | refine qG ?_ | refine qH rfl ?_ | refine qP (d := 13) rfl rfl rfl rfl rfl rfl b19 (f1) ?_ | refine qP (d := 17) rfl rfl rfl rfl rfl rfl b19 (f2) ?_ | refine qP (d := 27) rfl rfl rfl rfl rfl rfl b22 (c1') ?_ | refine qP (d := 29) rfl rfl rfl rfl rfl rfl b22 (c2') ?_ | refine zT rfl ?_ | refine zU rfl ?_ | refine qL rfl rfl ?_ | refine qM rfl rfl rfl ?_ | refine qO rfl rfl rfl ?_ | refine zX rfl rfl rfl rfl ?_ | refine zW rfl rfl rfl rfl ?_ | (refine qY rfl rfl rfl rfl ?_ ?_ <;> intro _) | exact zD | exact zL)
        refine go_frzS 1 rfl ?_
        repeat' (first | refine zS rfl ?_ | refine qA ?_ | refine qB rfl ?_ | refine qC (by kernel_rfl) ?_ | refine qD ?_ | refine qE ?_ | refine qF ?_ | refine qG ?_ | refine qH rfl ?_ | refine qP (d := 31) rfl rfl rfl rfl rfl rfl b22 (c3') ?_ | refine zT rfl ?_ | refine zU rfl ?_ | refine qL rfl rfl ?_ | refine qM rfl rfl rfl ?_ | refine qO rfl rfl rfl ?_ | refine zX rfl rfl rfl rfl ?_ | refine zW rfl rfl rfl rfl ?_ | (refine qY rfl rfl rfl rfl ?_ ?_ <;> intro _) | exact zD | exact zL)
        refine go_loop_ (α := Fin 3) (fun p => ⟨[(0, .d (.sl (encL l))), (1, .d (.sl (encL m))), (5, .d (.sl ([] ++ encL m))), (45, .d (.sl [.str ⟨#[109, 105, 110]⟩, .str ⟨#[109, 97, 120]⟩])), (46, .d (.int 2)), (47, .d (.int p.val))], []⟩) (fun p => 3 - p.val) ⟨0, by omega⟩ ((zle 0)) ?_
        rintro ⟨i, hi⟩
        dsimp only
        rcases (show i = 0 ∨ i = 1 ∨ i = 2 by omega) with rfl | rfl | rfl
        · have g1 : decide (((0 : Nat) : Int) < 2) = true := by decide
          repeat' (first | refine zS rfl ?_ | refine qA ?_ | refine qB rfl ?_ | refine qC (by kernel_rfl) ?_ | refine qD ?_ | refine qE ?_ | refine qF ?_ | refine qG ?_ | refine qH rfl ?_ | refine qI (.str ⟨#[109, 105, 110]⟩) rfl (guardX_ok rfl) rfl rfl rfl rfl rfl rfl (by first | omega | decide) hx1 ?_ | refine qP (d := 53) rfl rfl rfl rfl rfl rfl b22 (a1) ?_ | refine qP (d := 56) rfl rfl rfl rfl rfl rfl b22 (a2) ?_ | refine qP (d := 60) rfl rfl rfl rfl rfl rfl b22 (a3') ?_ | refine qP rfl rfl rfl rfl rfl rfl b23 (a4) ?_ | refine qP rfl rfl rfl rfl rfl rfl b21 (a5) ?_ | refine zT rfl ?_ | refine zU rfl ?_ | refine qL rfl rfl ?_ | refine qM rfl rfl rfl ?_ | refine qO rfl rfl rfl ?_ | refine zX rfl rfl rfl rfl ?_ | refine zW rfl rfl rfl rfl ?_ | (refine qY rfl rfl rfl rfl ?_ ?_ <;> intro _) | exact zD | exact zL)
          refine go_stop ?_
          exact ⟨⟨1, by omega⟩, by dsimp only; omega, (zle 0)⟩
        · have g1 : decide (((1 : Nat) : Int) < 2) = true := by decide
          repeat' (first | refine zS rfl ?_ | refine qA ?_ | refine qB rfl ?_ | refine qC (by kernel_rfl) ?_ | refine qD ?_ | refine qE ?_ | refine qF ?_ | refine qG ?_ | refine qH rfl ?_ | refine qI (.str ⟨#[109, 97, 120]⟩) rfl (guardX_ok rfl) rfl rfl rfl rfl rfl rfl (by first | omega | decide) hx2 ?_ | refine qP (d := 53) rfl rfl rfl rfl rfl rfl b22 (b1) ?_ | refine qP (d := 56) rfl rfl rfl rfl rfl rfl b22 (b2) ?_ | refine qP (d := 60) rfl rfl rfl rfl rfl rfl b22 (b3') ?_ | refine qP rfl rfl rfl rfl rfl rfl b23 (b4) ?_ | refine qP rfl rfl rfl rfl rfl rfl b21 (b5) ?_ | refine zT rfl ?_ | refine zU rfl ?_ | refine qL rfl rfl ?_ | refine qM rfl rfl rfl ?_ | refine qO rfl rfl rfl ?_ | refine zX rfl rfl rfl rfl ?_ | refine zW rfl rfl rfl rfl ?_ | (refine qY rfl rfl rfl rfl ?_ ?_ <;> intro _) | exact zD | exact zL)
          refine go_stop ?_
          exact ⟨⟨2, by omega⟩, by dsimp only; omega, (zle 0)⟩
        · have g1 : decide (((2 : Nat) : Int) < 2) = false := by decide
          repeat' (first | refine zS rfl ?_ | refine qA ?_ | refine qB rfl ?_ | refine qC (by kernel_rfl) ?_ | refine qD ?_ | refine qE ?_ | refine qF ?_ | refine qG ?_ | refine qH rfl ?_ | refine qP rfl rfl rfl rfl rfl rfl b20 (hal) ?_ | refine zT rfl ?_ | refine zU rfl ?_ | refine qL rfl rfl ?_ | refine qM rfl rfl rfl ?_ | refine qO rfl rfl rfl ?_ | refine zX rfl rfl rfl rfl ?_ | refine zW rfl rfl rfl rfl ?_ | (refine qY rfl rfl rfl rfl ?_ ?_ <;> intro _) | exact zD | exact zL)
    · by_cases hm0 : encL m = []
      · have ez : (([] ++ encL l) : List D) = encL (l ++ m) := by rw [e0, hm0]; try simp
        have c3' := c3 _ ez
        have a3' := a3 _ ez
        have b3' := b3 _ ez
        clear c3 a3 b3 ez
        refine enter2 Tryz.func7 Tryz.ntmps7 rfl rfl fun w0 F0 O => ?_
        repeat' (first | refine go_buildOwn rfl rfl rfl rfl rfl rfl rfl (by decide) (by decide) ?_ | (refine qS rfl ⟨hl0, encL_cells l, by (show (([] : List D).length + (encL l).length) * 64 ≤ 140737488355328; omega), by (show ([] : List D).length + (encL l).length ≤ 9223372036854775807; omega)⟩ ?_) | (refine go_append0o rfl rfl rfl rfl rfl rfl rfl rfl (congrArg (fun z => X.d (D.sl z)) hm0) ?_) | refine zS rfl ?_ | refine qA ?_ | refine qB rfl ?_ | refine qC (by kernel_rfl) ?_ | refine qD ?_ | refine qE ?_ | refine qF ?_ | refine qG ?_ | refine qH rfl ?_ | refine qP (d := 13) rfl rfl rfl rfl rfl rfl b19 (f1) ?_ | refine qP (d := 17) rfl rfl rfl rfl rfl rfl b19 (f2) ?_ | refine qP (d := 27) rfl rfl rfl rfl rfl rfl b22 (c1') ?_ | refine qP (d := 29) rfl rfl rfl rfl rfl rfl b22 (c2') ?_ | refine zT rfl ?_ | refine zU rfl ?_ | refine qL rfl rfl ?_ | refine qM rfl rfl rfl ?_ | refine qO rfl rfl rfl ?_ | refine zX rfl rfl rfl rfl ?_ | refine zW rfl rfl rfl rfl ?_ | (refine qY rfl rfl rfl rfl ?_ ?_ <;> intro _) | exact zD | exact zL)
        refine go_frzS 1 rfl ?_
        repeat' (first | refine zS rfl ?_ | refine qA ?_ | refine qB rfl ?_ | refine qC (by kernel_rfl) ?_ | refine qD ?_ | refine qE ?_ | refine qF ?_ | refine qG ?_ | refine qH rfl ?_ | refine qP (d := 31) rfl rfl rfl rfl rfl rfl b22 (c3') ?_ | refine zT rfl ?_ | refine zU rfl ?_ | refine qL rfl rfl ?_ | refine qM rfl rfl rfl ?_ | refine qO rfl rfl rfl ?_ | refine zX rfl rfl rfl rfl ?_ | refine zW rfl rfl rfl rfl ?_ | (refine qY rfl rfl rfl rfl ?_ ?_ <;> intro _) | exact zD | exact zL)
        refine go_loop_ (α := Fin 3) (fun p => ⟨[(0, .d (.sl (encL l))), (1, .d (.sl (encL m))), (5, .d (.sl ([] ++ encL l))), (45, .d (.sl [.str ⟨#[109, 105, 110]⟩, .str ⟨#[109, 97, 120]⟩])), (46, .d (.int 2)), (47, .d (.int p.val))], []⟩) (fun p => 3 - p.val) ⟨0, by omega⟩ ((zle 0)) ?_
        rintro ⟨i, hi⟩
        dsimp only
        rcases (show i = 0 ∨ i = 1 ∨ i = 2 by omega) with rfl | rfl | rfl
        · have g1 : decide (((0 : Nat) : Int) < 2) = true := by decide
          repeat' (first | refine zS rfl ?_ | refine qA ?_ | refine qB rfl ?_ | refine qC (by kernel_rfl) ?_ | refine qD ?_ | refine qE ?_ | refine qF ?_ | refine qG ?_ | refine qH rfl ?_ | refine qI (.str ⟨#[109, 105, 110]⟩) rfl (guardX_ok rfl) rfl rfl rfl rfl rfl rfl (by first | omega | decide) hx1 ?_ | refine qP (d := 53) rfl rfl rfl rfl rfl rfl b22 (a1) ?_ | refine qP (d := 56) rfl rfl rfl rfl rfl rfl b22 (a2) ?_ | refine qP (d := 60) rfl rfl rfl rfl rfl rfl b22 (a3') ?_ | refine qP rfl rfl rfl rfl rfl rfl b23 (a4) ?_ | refine qP rfl rfl rfl rfl rfl rfl b21 (a5) ?_ | refine zT rfl ?_ | refine zU rfl ?_ | refine qL rfl rfl ?_ | refine qM rfl rfl rfl ?_ | refine qO rfl rfl rfl ?_ | refine zX rfl rfl rfl rfl ?_ | refine zW rfl rfl rfl rfl ?_ | (refine qY rfl rfl rfl rfl ?_ ?_ <;> intro _) | exact zD | exact zL)
          refine go_stop ?_
          exact ⟨⟨1, by omega⟩, by dsimp only; omega, (zle 0)⟩
        · have g1 : decide (((1 : Nat) : Int) < 2) = true := by decide
          repeat' (first | refine zS rfl ?_ | refine qA ?_ | refine qB rfl ?_ | refine qC (by kernel_rfl) ?_ | refine qD ?_ | refine qE ?_ | refine qF ?_ | refine qG ?_ | refine qH rfl ?_ | refine qI (.str ⟨#[109, 97, 120]⟩) rfl (guardX_ok rfl) rfl rfl rfl rfl rfl rfl (by first | omega | decide) hx2 ?_ | refine qP (d := 53) rfl rfl rfl rfl rfl rfl b22 (b1) ?_ | refine qP (d := 56) rfl rfl rfl rfl rfl rfl b22 (b2) ?_ | refine qP (d := 60) rfl rfl rfl rfl rfl rfl b22 (b3') ?_ | refine qP rfl rfl rfl rfl rfl rfl b23 (b4) ?_ | refine qP rfl rfl rfl rfl rfl rfl b21 (b5) ?_ | refine zT rfl ?_ | refine zU rfl ?_ | refine qL rfl rfl ?_ | refine qM rfl rfl rfl ?_ | refine qO rfl rfl rfl ?_ | refine zX rfl rfl rfl rfl ?_ | refine zW rfl rfl rfl rfl ?_ | (refine qY rfl rfl rfl rfl ?_ ?_ <;> intro _) | exact zD | exact zL)
          refine go_stop ?_
          exact ⟨⟨2, by omega⟩, by dsimp only; omega, (zle 0)⟩
        · have g1 : decide (((2 : Nat) : Int) < 2) = false := by decide
          repeat' (first | refine zS rfl ?_ | refine qA ?_ | refine qB rfl ?_ | refine qC (by kernel_rfl) ?_ | refine qD ?_ | refine qE ?_ | refine qF ?_ | refine qG ?_ | refine qH rfl ?_ | refine qP rfl rfl rfl rfl rfl rfl b20 (hal) ?_ | refine zT rfl ?_ | refine zU rfl ?_ | refine qL rfl rfl ?_ | refine qM rfl rfl rfl ?_ | refine qO rfl rfl rfl ?_ | refine zX rfl rfl rfl rfl ?_ | refine zW rfl rfl rfl rfl ?_ | (refine qY rfl rfl rfl rfl ?_ ?_ <;> intro _) | exact zD | exact zL)
      · have ez : (([] ++ encL l ++ encL m) : List D) = encL (l ++ m) := by rw [e0]; try simp
        have c3' := c3 _ ez
        have a3' := a3 _ ez
        have b3' := b3 _ ez
        clear c3 a3 b3 ez
        refine enter2 Tryz.func7 Tryz.ntmps7 rfl rfl fun w0 F0 O => ?_
        repeat' (first | refine go_buildOwn rfl rfl rfl rfl rfl rfl rfl (by decide) (by decide) ?_ | (refine qS rfl ⟨hl0, encL_cells l, by (show (([] : List D).length + (encL l).length) * 64 ≤ 140737488355328; omega), by (show ([] : List D).length + (encL l).length ≤ 9223372036854775807; omega)⟩ ?_) | (refine qS rfl ⟨hm0, encL_cells m, by (show ((([] ++ encL l) : List D).length + (encL m).length) * 64 ≤ 140737488355328; omega), by (show (([] ++ encL l) : List D).length + (encL m).length ≤ 9223372036854775807; omega)⟩ ?_) | refine zS rfl ?_ | refine qA ?_ | refine qB rfl ?_ | refine qC (by kernel_rfl) ?_ | refine qD ?_ | refine qE ?_ | refine qF ?_ | refine qG ?_ | refine qH rfl ?_ | refine qP (d := 13) rfl rfl rfl rfl rfl rfl b19 (f1) ?_ | refine qP (d := 17) rfl rfl rfl rfl rfl rfl b19 (f2) ?_ | refine qP (d := 27) rfl rfl rfl rfl rfl rfl b22 (c1') ?_ | refine qP (d := 29) rfl rfl rfl rfl rfl rfl b22 (c2') ?_ | refine zT rfl ?_ | refine zU rfl ?_ | refine qL rfl rfl ?_ | refine qM rfl rfl rfl ?_ | refine qO rfl rfl rfl ?_ | refine zX rfl rfl rfl rfl ?_ | refine zW rfl rfl rfl rfl ?_ | (refine qY rfl rfl rfl rfl ?_ ?_ <;> intro _) | exact zD | exact zL)
        refine go_frzS 2 rfl ?_
        repeat' (first | refine zS rfl ?_ | refine qA ?_ | refine qB rfl ?_ | refine qC (by kernel_rfl) ?_ | refine qD ?_ | refine qE ?_ | refine qF ?_ | refine qG ?_ | refine qH rfl ?_ | refine qP (d := 31) rfl rfl rfl rfl rfl rfl b22 (c3') ?_ | refine zT rfl ?_ | refine zU rfl ?_ | refine qL rfl rfl ?_ | refine qM rfl rfl rfl ?_ | refine qO rfl rfl rfl ?_ | refine zX rfl rfl rfl rfl ?_ | refine zW rfl rfl rfl rfl ?_ | (refine qY rfl rfl rfl rfl ?_ ?_ <;> intro _) | exact zD | exact zL)
        refine go_loop_ (α := Fin 3) (fun p => ⟨[(0, .d (.sl (encL l))), (1, .d (.sl (encL m))), (5, .d (.sl ([] ++ encL l ++ encL m))), (45, .d (.sl [.str ⟨#[109, 105, 110]⟩, .str ⟨#[109, 97, 120]⟩])), (46, .d (.int 2)), (47, .d (.int p.val))], []⟩) (fun p => 3 - p.val) ⟨0, by omega⟩ ((zle 0)) ?_
        rintro ⟨i, hi⟩
        dsimp only
        rcases (show i = 0 ∨ i = 1 ∨ i = 2 by omega) with rfl | rfl | rfl
        · have g1 : decide (((0 : Nat) : Int) < 2) = true := by decide
          repeat' (first | refine zS rfl ?_ | refine qA ?_ | refine qB rfl ?_ | refine qC (by kernel_rfl) ?_ | refine qD ?_ | refine qE ?_ | refine qF ?_ | refine qG ?_ | refine qH rfl ?_ | refine qI (.str ⟨#[109, 105, 110]⟩) rfl (guardX_ok rfl) rfl rfl rfl rfl rfl rfl (by first | omega | decide) hx1 ?_ | refine qP (d := 53) rfl rfl rfl rfl rfl rfl b22 (a1) ?_ | refine qP (d := 56) rfl rfl rfl rfl rfl rfl b22 (a2) ?_ | refine qP (d := 60) rfl rfl rfl rfl rfl rfl b22 (a3') ?_ | refine qP rfl rfl rfl rfl rfl rfl b23 (a4) ?_ | refine qP rfl rfl rfl rfl rfl rfl b21 (a5) ?_ | refine zT rfl ?_ | refine zU rfl ?_ | refine qL rfl rfl ?_ | refine qM rfl rfl rfl ?_ | refine qO rfl rfl rfl ?_ | refine zX rfl rfl rfl rfl ?_ | refine zW rfl rfl rfl rfl ?_ | (refine qY rfl rfl rfl rfl ?_ ?_ <;> intro _) | exact zD | exact zL)
          refine go_stop ?_
          exact ⟨⟨1, by omega⟩, by dsimp only; omega, (zle 0)⟩
        · have g1 : decide (((1 : Nat) : Int) < 2) = true := by decide
          repeat' (first | refine zS rfl ?_ | refine qA ?_ | refine qB rfl ?_ | refine qC (by kernel_rfl) ?_ | refine qD ?_ | refine qE ?_ | refine qF ?_ | refine qG ?_ | refine qH rfl ?_ | refine qI (.str ⟨#[109, 97, 120]⟩) rfl (guardX_ok rfl) rfl rfl rfl rfl rfl rfl (by first | omega | decide) hx2 ?_ | refine qP (d := 53) rfl rfl rfl rfl rfl rfl b22 (b1) ?_ | refine qP (d := 56) rfl rfl rfl rfl rfl rfl b22 (b2) ?_ | refine qP (d := 60) rfl rfl rfl rfl rfl rfl b22 (b3') ?_ | refine qP rfl rfl rfl rfl rfl rfl b23 (b4) ?_ | refine qP rfl rfl rfl rfl rfl rfl b21 (b5) ?_ | refine zT rfl ?_ | refine zU rfl ?_ | refine qL rfl rfl ?_ | refine qM rfl rfl rfl ?_ | refine qO rfl rfl rfl ?_ | refine zX rfl rfl rfl rfl ?_ | refine zW rfl rfl rfl rfl ?_ | (refine qY rfl rfl rfl rfl ?_ ?_ <;> intro _) | exact zD | exact zL)
          refine go_stop ?_
          exact ⟨⟨2, by omega⟩, by dsimp only; omega, (zle 0)⟩
        · have g1 : decide (((2 : Nat) : Int) < 2) = false := by decide
          repeat' (first | refine zS rfl ?_ | refine qA ?_ | refine qB rfl ?_ | refine qC (by kernel_rfl) ?_ | refine qD ?_ | refine qE ?_ | refine qF ?_ | refine qG ?_ | refine qH rfl ?_ | refine qP rfl rfl rfl rfl rfl rfl b20 (hal) ?_ | refine zT rfl ?_ | refine zU rfl ?_ | refine qL rfl rfl ?_ | refine qM rfl rfl rfl ?_ | refine qO rfl rfl rfl ?_ | refine zX rfl rfl rfl rfl ?_ | refine zW rfl rfl rfl rfl ?_ | (refine qY rfl rfl rfl rfl ?_ ?_ <;> intro _) | exact zD | exact zL)
end Go.Proofs.YtjgmakalledclaaGreatDoor
