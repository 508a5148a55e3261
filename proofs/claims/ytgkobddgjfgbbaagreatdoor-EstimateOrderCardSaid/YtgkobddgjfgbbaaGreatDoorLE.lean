/- The statements' own words: few, and sets of integers by the specification; What Check leaves; the chapter's examples: what the specifications give there; The chapter's examples hold; The statements on Atom, Rows and Steps; From rows' readings to statistics, atoms and queries; the listed variable as the engine wants it; a world for the witnesses. Conditions: each part's own, as it says. -/
import Derived.Test.YtgkobddgjfgbbaaGreatDoorGC
import Derived.Test.YtgkobddgjfgbbaaGreatDoorLD
import Derived.Test.YtgkobddgjfgbbaaGreatDoorGB
import Derived.Test.YtgkobddgjfgbbaaGreatDoorRows
import Derived.Test.YtgkobddgjfgbbaaGreatDoorTie
import Derived.ProofKit
set_option linter.unusedVariables false
set_option linter.unusedSimpArgs false
/- The statements' own words: few, and sets of integers by the specification. Conditions: lists of at most 100 elements. -/
namespace Go.Proofs.YtgkobddgjfgbbaaGreatDoor
open Go Go.Abs Go.Val
attribute [local irreducible] go SGo HasBody Ev ExtEv EvO EvS PGo RGo ordF

def sumL (l : List (List Int)) (n : Int) : Int := l.foldl (fun n x => addW n x.length) n
theorem sumL_rng {n : Int} (h : inR .i64 n) : ∀ (l : List (List Int)), inR .i64 (sumL l n) := by
  intro l
  induction l generalizing n with
  | nil => exact h
  | cons x r ih => exact ih (addW_rng _ _)
/-- The statements' bound for statistics. -/
def fewF (s : ST) : Bool := decide (sumL s.ins (sumL s.outs (addW s.lb.length s.ty.length)) ≤ 200)
structure SSu (l : List (List Int)) (n0 : Int) where
  i : Nat
  n : Int
  hi : i ≤ l.length
  hn : inR .i64 n
  ok : sumL l n0 = sumL (l.drop i) n
theorem sumL_at {l : List (List Int)} {i : Nat} {x : List Int} {n : Int} (h : l[i]? = some x) : sumL (l.drop i) n = sumL (l.drop (i + 1)) (addW n x.length) := by
  rw [drop_at h]; rfl
theorem few_ev (s : ST) : Ev E 7 [encST s] (.d (.bool (fewF s))) := Ev.fit fun hfit => by
  obtain ⟨nodes, edges, lb, ty, outs, ins⟩ := s
  have hft := hfit (encST ⟨nodes, edges, lb, ty, outs, ins⟩) (by simp)
  obtain ⟨hm1, -⟩ := fit_map (hft.aggs (.sl (lb.map encCT)) (by simp))
  obtain ⟨hm2, -⟩ := fit_map (hft.aggs (.sl (ty.map encCT)) (by simp))
  obtain ⟨hm3, he3⟩ := fit_map (hft.aggs (.sl (outs.map intsD)) (by simp))
  obtain ⟨hm4, he4⟩ := fit_map (hft.aggs (.sl (ins.map intsD)) (by simp))
  have hl1 : (lb.map encCT).length = lb.length := by simp
  have hl2 : (ty.map encCT).length = ty.length := by simp
  have hl3 : (outs.map intsD).length = outs.length := by simp
  have hl4 : (ins.map intsD).length = ins.length := by simp
  have hn0 : inR .i64 (addW lb.length ty.length) := addW_rng _ _
  have e0 : IntKind.i64.wrap (((lb.map encCT).length : Int) + ((ty.map encCT).length : Int)) = addW lb.length ty.length := by rw [hl1, hl2]; rfl
  obtain ⟨n0, hn00⟩ : ∃ n0, addW lb.length ty.length = n0 := ⟨_, rfl⟩
  unfold fewF
  dsimp only
  rw [hn00] at e0 hn0 ⊢
  refine enter1 Tryz.func7 Tryz.ntmps7 rfl rfl fun w0 F0 O => ?_
  repeat' (first | (refine go_addW 12 rfl rfl rfl rfl rfl rfl ?_; rw [e0]) | refine zS rfl ?_ | refine qA ?_ | refine qB rfl ?_ | refine qC (by kernel_rfl) ?_ | refine qD ?_ | refine qE ?_ | refine qF ?_ | refine qG ?_ | refine qH rfl ?_ | refine zT rfl ?_ | refine zU rfl ?_ | refine qL rfl rfl ?_ | refine qM rfl rfl rfl ?_ | refine qO rfl rfl rfl ?_ | refine zX rfl rfl rfl rfl ?_ | refine zW rfl rfl rfl rfl ?_ | (refine qY rfl rfl rfl rfl ?_ ?_ <;> intro _) | exact zD | exact zL)
  refine go_loop_ (α := SSu outs n0) (fun p => ⟨[(1, .ptr 0 0), (3, .d (.int p.n)), (4, .d (.int p.i))], [oST ⟨nodes, edges, lb, ty, outs, ins⟩]⟩) (fun p => outs.length - p.i) ⟨0, n0, by omega, hn0, rfl⟩ ((zle 1)) ?_
  rintro ⟨i, n, hi, hn, ok⟩
  dsimp only at ok ⊢
  rcases Nat.lt_or_ge i outs.length with hlt | hge
  · have g1 : decide ((i : Int) < ((outs.map intsD).length : Int)) = true := by rw [hl3]; simpa using hlt
    have hx0 := List.getElem?_eq_getElem hlt
    generalize outs[i] = x at hx0
    have hx : (outs.map intsD)[(i : Int).toNat]? = some (.sl (x.map .int)) := map_at (f := intsD) hx0
    have hxl := (he3 x (List.mem_of_getElem? hx0)).sls.1
    simp only [List.length_map] at hxl
    have hnn := hn
    simp only [inR] at hnn
    have e1 : IntKind.i64.wrap (n + ((x.map D.int).length : Int)) = addW n x.length := by rw [List.length_map]; rfl
    repeat' (first | (refine go_addW 27 rfl rfl rfl rfl rfl rfl ?_; rw [e1]) | refine zS rfl ?_ | refine qA ?_ | refine qB rfl ?_ | refine qC (by kernel_rfl) ?_ | refine qD ?_ | refine qE ?_ | refine qF ?_ | refine qG ?_ | refine qH rfl ?_ | refine qI (.sl (x.map .int)) rfl (guardX_ok rfl) rfl rfl rfl rfl rfl rfl (by first | omega | decide) hx ?_ | refine zT rfl ?_ | refine zU rfl ?_ | refine qL rfl rfl ?_ | refine qM rfl rfl rfl ?_ | refine qO rfl rfl rfl ?_ | refine zX rfl rfl rfl rfl ?_ | refine zW rfl rfl rfl rfl ?_ | (refine qY rfl rfl rfl rfl ?_ ?_ <;> intro _) | exact zD | exact zL)
    refine go_stop ?_
    exact ⟨⟨i + 1, addW n x.length, by omega, addW_rng _ _, by rw [ok, sumL_at hx0]⟩, by dsimp only; omega, (zle 1)⟩
  · have g1 : decide ((i : Int) < ((outs.map intsD).length : Int)) = false := by rw [hl3]; simp; omega
    have ok' : sumL outs n0 = n := by rw [ok, List.drop_eq_nil_of_le hge]; rfl
    rw [ok']
    clear ok ok'
    repeat' (first | refine zS rfl ?_ | refine qA ?_ | refine qB rfl ?_ | refine qC (by kernel_rfl) ?_ | refine qD ?_ | refine qE ?_ | refine qF ?_ | refine qG ?_ | refine qH rfl ?_ | refine zT rfl ?_ | refine zU rfl ?_ | refine qL rfl rfl ?_ | refine qM rfl rfl rfl ?_ | refine qO rfl rfl rfl ?_ | refine zX rfl rfl rfl rfl ?_ | refine zW rfl rfl rfl rfl ?_ | (refine qY rfl rfl rfl rfl ?_ ?_ <;> intro _) | exact zD | exact zL)
    refine go_loop_ (α := SSu ins n) (fun p => ⟨[(1, .ptr 0 0), (3, .d (.int p.n)), (5, .d (.int p.i))], [oST ⟨nodes, edges, lb, ty, outs, ins⟩]⟩) (fun p => ins.length - p.i) ⟨0, n, by omega, hn, rfl⟩ ((zle 1)) ?_
    rintro ⟨j, m, hj, hm, ok⟩
    dsimp only at ok ⊢
    rcases Nat.lt_or_ge j ins.length with hlt | hge
    · have g2 : decide ((j : Int) < ((ins.map intsD).length : Int)) = true := by rw [hl4]; simpa using hlt
      have hx0 := List.getElem?_eq_getElem hlt
      generalize ins[j] = x at hx0
      have hx : (ins.map intsD)[(j : Int).toNat]? = some (.sl (x.map .int)) := map_at (f := intsD) hx0
      have e1 : IntKind.i64.wrap (m + ((x.map D.int).length : Int)) = addW m x.length := by rw [List.length_map]; rfl
      repeat' (first | (refine go_addW 42 rfl rfl rfl rfl rfl rfl ?_; rw [e1]) | refine zS rfl ?_ | refine qA ?_ | refine qB rfl ?_ | refine qC (by kernel_rfl) ?_ | refine qD ?_ | refine qE ?_ | refine qF ?_ | refine qG ?_ | refine qH rfl ?_ | refine qI (.sl (x.map .int)) rfl (guardX_ok rfl) rfl rfl rfl rfl rfl rfl (by first | omega | decide) hx ?_ | refine zT rfl ?_ | refine zU rfl ?_ | refine qL rfl rfl ?_ | refine qM rfl rfl rfl ?_ | refine qO rfl rfl rfl ?_ | refine zX rfl rfl rfl rfl ?_ | refine zW rfl rfl rfl rfl ?_ | (refine qY rfl rfl rfl rfl ?_ ?_ <;> intro _) | exact zD | exact zL)
      refine go_stop ?_
      exact ⟨⟨j + 1, addW m x.length, by omega, addW_rng _ _, by rw [ok, sumL_at hx0]⟩, by dsimp only; omega, (zle 1)⟩
    · have g2 : decide ((j : Int) < ((ins.map intsD).length : Int)) = false := by rw [hl4]; simp; omega
      have ok' : sumL ins n = m := by rw [ok, List.drop_eq_nil_of_le hge]; rfl
      rw [ok']
      repeat' (first | refine zS rfl ?_ | refine qA ?_ | refine qB rfl ?_ | refine qC (by kernel_rfl) ?_ | refine qD ?_ | refine qE ?_ | refine qF ?_ | refine qG ?_ | refine qH rfl ?_ | refine zT rfl ?_ | refine zU rfl ?_ | refine qL rfl rfl ?_ | refine qM rfl rfl rfl ?_ | refine qO rfl rfl rfl ?_ | refine zX rfl rfl rfl rfl ?_ | refine zW rfl rfl rfl rfl ?_ | (refine qY rfl rfl rfl rfl ?_ ?_ <;> intro _) | exact zD | exact zL)
structure SSa (a b : List Int) where
  i : Nat
  hi : i ≤ a.length
  ok : (a == b) = (a.drop i == b.drop i)
theorem same_ev (a b : List Int) : Ev E 15 [.sl (iL a), .sl (iL b)] (.d (.bool (a == b))) := Ev.fit fun hfit => by
  obtain ⟨hm1, -⟩ := fit_map (hfit (.sl (iL a)) (by simp))
  obtain ⟨hm2, -⟩ := fit_map (hfit (.sl (iL b)) (by simp))
  have hl1 := iL_len a
  have hl2 := iL_len b
  by_cases hab : a.length = b.length
  · have g1 : (((iL a).length : Int) != ((iL b).length : Int)) = false := by rw [hl1, hl2, hab]; simp
    refine enter2 Tryz.func15 Tryz.ntmps15 rfl rfl fun w0 F0 O => ?_
    repeat' (first | refine zS rfl ?_ | refine qA ?_ | refine qB rfl ?_ | refine qC (by kernel_rfl) ?_ | refine qD ?_ | refine qE ?_ | refine qF ?_ | refine qG ?_ | refine qH rfl ?_ | refine zT rfl ?_ | refine zU rfl ?_ | refine qL rfl rfl ?_ | refine qM rfl rfl rfl ?_ | refine qO rfl rfl rfl ?_ | refine zX rfl rfl rfl rfl ?_ | refine zW rfl rfl rfl rfl ?_ | (refine qY rfl rfl rfl rfl ?_ ?_ <;> intro _) | exact zD | exact zL)
    refine go_loop_ (α := SSa a b) (fun p => ⟨[(0, .d (.sl (iL a))), (1, .d (.sl (iL b))), (5, .d (.int p.i))], []⟩) (fun p => a.length - p.i) ⟨0, by omega, rfl⟩ ((zle 0)) ?_
    rintro ⟨i, hi, ok⟩
    dsimp only at ok ⊢
    rcases Nat.lt_or_ge i a.length with hlt | hge
    · have g2 : decide ((i : Int) < ((iL a).length : Int)) = true := by rw [hl1]; simpa using hlt
      have hx0 := List.getElem?_eq_getElem hlt
      have hy0 := List.getElem?_eq_getElem (show i < b.length by omega)
      generalize a[i] = x at hx0
      generalize b[i] = y at hy0
      have hx := iL_get hx0
      have hy := iL_get hy0
      have hd : (a.drop i == b.drop i) = (x == y && a.drop (i + 1) == b.drop (i + 1)) := by rw [drop_at hx0, drop_at hy0]; rfl
      rw [hd] at ok
      cases hc : x == y with
      | true =>
        have g3 : (x != y) = false := by unfold bne; rw [hc]; rfl
        rw [hc, Bool.true_and] at ok
        repeat' (first | refine zS rfl ?_ | refine qA ?_ | refine qB rfl ?_ | refine qC (by kernel_rfl) ?_ | refine qD ?_ | refine qE ?_ | refine qF ?_ | refine qG ?_ | refine qH rfl ?_ | refine qI (.int x) rfl (guardX_ok rfl) rfl rfl rfl rfl rfl rfl (by first | omega | decide) hx ?_ | refine qI (.int y) rfl (guardX_ok rfl) rfl rfl rfl rfl rfl rfl (by first | omega | decide) hy ?_ | refine zT rfl ?_ | refine zU rfl ?_ | refine qL rfl rfl ?_ | refine qM rfl rfl rfl ?_ | refine qO rfl rfl rfl ?_ | refine zX rfl rfl rfl rfl ?_ | refine zW rfl rfl rfl rfl ?_ | (refine qY rfl rfl rfl rfl ?_ ?_ <;> intro _) | exact zD | exact zL)
        refine go_stop ?_
        exact ⟨⟨i + 1, by omega, ok⟩, by dsimp only; omega, (zle 0)⟩
      | false =>
        have g3 : (x != y) = true := by unfold bne; rw [hc]; rfl
        rw [hc, Bool.false_and] at ok
        rw [ok]
        repeat' (first | refine zS rfl ?_ | refine qA ?_ | refine qB rfl ?_ | refine qC (by kernel_rfl) ?_ | refine qD ?_ | refine qE ?_ | refine qF ?_ | refine qG ?_ | refine qH rfl ?_ | refine qI (.int x) rfl (guardX_ok rfl) rfl rfl rfl rfl rfl rfl (by first | omega | decide) hx ?_ | refine qI (.int y) rfl (guardX_ok rfl) rfl rfl rfl rfl rfl rfl (by first | omega | decide) hy ?_ | refine zT rfl ?_ | refine zU rfl ?_ | refine qL rfl rfl ?_ | refine qM rfl rfl rfl ?_ | refine qO rfl rfl rfl ?_ | refine zX rfl rfl rfl rfl ?_ | refine zW rfl rfl rfl rfl ?_ | (refine qY rfl rfl rfl rfl ?_ ?_ <;> intro _) | exact zD | exact zL)
    · have g2 : decide ((i : Int) < ((iL a).length : Int)) = false := by rw [hl1]; simp; omega
      rw [ok, List.drop_eq_nil_of_le hge, List.drop_eq_nil_of_le (by omega)]
      repeat' (first | refine zS rfl ?_ | refine qA ?_ | refine qB rfl ?_ | refine qC (by kernel_rfl) ?_ | refine qD ?_ | refine qE ?_ | refine qF ?_ | refine qG ?_ | refine qH rfl ?_ | refine zT rfl ?_ | refine zU rfl ?_ | refine qL rfl rfl ?_ | refine qM rfl rfl rfl ?_ | refine qO rfl rfl rfl ?_ | refine zX rfl rfl rfl rfl ?_ | refine zW rfl rfl rfl rfl ?_ | (refine qY rfl rfl rfl rfl ?_ ?_ <;> intro _) | exact zD | exact zL)
  · have g1 : (((iL a).length : Int) != ((iL b).length : Int)) = true := by rw [hl1, hl2]; simp; omega
    have e : (a == b) = false := by
      rw [beq_eq_false_iff_ne]
      rintro rfl
      exact hab rfl
    rw [e]
    refine enter2 Tryz.func15 Tryz.ntmps15 rfl rfl fun w0 F0 O => ?_
    repeat' (first | refine zS rfl ?_ | refine qA ?_ | refine qB rfl ?_ | refine qC (by kernel_rfl) ?_ | refine qD ?_ | refine qE ?_ | refine qF ?_ | refine qG ?_ | refine qH rfl ?_ | refine zT rfl ?_ | refine zU rfl ?_ | refine qL rfl rfl ?_ | refine qM rfl rfl rfl ?_ | refine qO rfl rfl rfl ?_ | refine zX rfl rfl rfl rfl ?_ | refine zW rfl rfl rfl rfl ?_ | (refine qY rfl rfl rfl rfl ?_ ?_ <;> intro _) | exact zD | exact zL)
structure SWi (x : Int) (l : List Int) where
  i : Nat
  out : List Int
  d : Bool
  hi : i ≤ l.length
  ho : out.length ≤ 2 * i
  ok : wiG x l false = out ++ wiG x (l.drop i) d
theorem with_ev (l : List Int) (x : Int) (hl : l.length ≤ 100) : Ev E 45 [.sl (iL l), .int x] (.d (.sl (iL (wiG x l false)))) := by
  have hle := iL_len l
  refine enter2 Tryz.func45 Tryz.ntmps45 rfl rfl fun w0 F0 O => ?_
  repeat' (first | refine zS rfl ?_ | refine qA ?_ | refine qB rfl ?_ | refine qC (by kernel_rfl) ?_ | refine qD ?_ | refine qE ?_ | refine qF ?_ | refine qG ?_ | refine qH rfl ?_ | refine zT rfl ?_ | refine zU rfl ?_ | refine qL rfl rfl ?_ | refine qM rfl rfl rfl ?_ | refine qO rfl rfl rfl ?_ | refine zX rfl rfl rfl rfl ?_ | refine zW rfl rfl rfl rfl ?_ | (refine qY rfl rfl rfl rfl ?_ ?_ <;> intro _) | exact zD | exact zL)
  refine go_loop_ (α := SWi x l) (fun p => ⟨[(0, .d (.sl (iL l))), (1, .d (.int x)), (5, rowK 0 (iL p.out)), (6, .d (.bool p.d)), (7, .d (.int p.i))], rowO 3 1 (iL p.out)⟩) (fun p => l.length - p.i) ⟨0, [], false, by omega, by simp, rfl⟩ ((zle 0)) ?_
  rintro ⟨i, out, d, hi, ho, ok⟩
  dsimp only at ho ok ⊢
  have hol : (iL out).length ≤ 200 := by rw [iL_len]; omega
  rcases Nat.lt_or_ge i l.length with hlt | hge
  · have g1 : decide ((i : Int) < ((iL l).length : Int)) = true := by rw [hle]; simpa using hlt
    have hx0 := List.getElem?_eq_getElem hlt
    generalize l[i] = y at hx0
    have hy := iL_get hx0
    rw [drop_at hx0, wiG] at ok
    cases c1 : y == x with
    | true =>
      have hgt : decide (y > x) = false := by have : y = x := by simpa using c1
                                              subst this; simp
      rw [c1, hgt, Bool.false_and, cond_false, Bool.or_true] at ok
      have hnx : iL (out ++ [y]) = iL out ++ [.int y] := iL_app out [y]
      have hok : wiG x l false = (out ++ [y]) ++ wiG x (l.drop (i + 1)) true := by rw [ok]; simp
      have hon : (out ++ [y]).length ≤ 2 * (i + 1) := by simp; omega
      generalize iL out = o at *
      match o, hol with
      | [], hol =>
        dsimp only [rowK, rowO]
        repeat' (first | refine zS rfl ?_ | refine qA ?_ | refine qB rfl ?_ | refine qC (by kernel_rfl) ?_ | refine qD ?_ | refine qE ?_ | refine qF ?_ | refine qG ?_ | refine qH rfl ?_ | refine qI (.int y) rfl (guardX_ok rfl) rfl rfl rfl rfl rfl rfl (by first | omega | decide) hy ?_ | (refine qS rfl ⟨by simp, fun d hd => by (obtain rfl := List.mem_singleton.1 hd; rfl), by (show (0 + 1) * 8 ≤ 140737488355328; omega), by (show 0 + 1 ≤ 9223372036854775807; omega)⟩ ?_) | refine zT rfl ?_ | refine zU rfl ?_ | refine qL rfl rfl ?_ | refine qM rfl rfl rfl ?_ | refine qO rfl rfl rfl ?_ | refine zX rfl rfl rfl rfl ?_ | refine zW rfl rfl rfl rfl ?_ | (refine qY rfl rfl rfl rfl ?_ ?_ <;> intro _) | exact zD | exact zL)
        refine go_stop ?_
        refine ⟨⟨i + 1, out ++ [y], true, by omega, hon, hok⟩, by dsimp only; omega, ?_⟩
        dsimp only
        rw [hnx]
        exact (zren [0])
      | a :: q, hol =>
        dsimp only [rowK, rowO]
        have hq : (a :: q).length ≤ 200 := hol
        have hq2 : (a :: q ++ [D.int x]).length ≤ 201 := by rw [List.length_append]; exact Nat.add_le_add_right hq 1
        repeat' (first | refine zS rfl ?_ | refine qA ?_ | refine qB rfl ?_ | refine qC (by kernel_rfl) ?_ | refine qD ?_ | refine qE ?_ | refine qF ?_ | refine qG ?_ | refine qH rfl ?_ | refine qI (.int y) rfl (guardX_ok rfl) rfl rfl rfl rfl rfl rfl (by first | omega | decide) hy ?_ | (refine qS rfl ⟨by simp, fun d hd => by (obtain rfl := List.mem_singleton.1 hd; rfl), by (show ((a :: q).length + 1) * 8 ≤ 140737488355328; omega), by (show (a :: q).length + 1 ≤ 9223372036854775807; omega)⟩ ?_) | refine zT rfl ?_ | refine zU rfl ?_ | refine qL rfl rfl ?_ | refine qM rfl rfl rfl ?_ | refine qO rfl rfl rfl ?_ | refine zX rfl rfl rfl rfl ?_ | refine zW rfl rfl rfl rfl ?_ | (refine qY rfl rfl rfl rfl ?_ ?_ <;> intro _) | exact zD | exact zL)
        refine go_stop ?_
        refine ⟨⟨i + 1, out ++ [y], true, by omega, hon, hok⟩, by dsimp only; omega, ?_⟩
        dsimp only
        rw [hnx]
        exact (zren [1])
    | false =>
      rw [c1, Bool.or_false] at ok
      cases c2 : decide (y > x) with
      | false =>
        rw [c2, Bool.false_and, cond_false] at ok
        cases d with
        | false =>
          have hnx : iL (out ++ [y]) = iL out ++ [.int y] := iL_app out [y]
          have hok : wiG x l false = (out ++ [y]) ++ wiG x (l.drop (i + 1)) false := by rw [ok]; simp
          have hon : (out ++ [y]).length ≤ 2 * (i + 1) := by simp; omega
          generalize iL out = o at *
          match o, hol with
          | [], hol =>
            dsimp only [rowK, rowO]
            repeat' (first | refine zS rfl ?_ | refine qA ?_ | refine qB rfl ?_ | refine qC (by kernel_rfl) ?_ | refine qD ?_ | refine qE ?_ | refine qF ?_ | refine qG ?_ | refine qH rfl ?_ | refine qI (.int y) rfl (guardX_ok rfl) rfl rfl rfl rfl rfl rfl (by first | omega | decide) hy ?_ | (refine qS rfl ⟨by simp, fun d hd => by (obtain rfl := List.mem_singleton.1 hd; rfl), by (show (0 + 1) * 8 ≤ 140737488355328; omega), by (show 0 + 1 ≤ 9223372036854775807; omega)⟩ ?_) | refine zT rfl ?_ | refine zU rfl ?_ | refine qL rfl rfl ?_ | refine qM rfl rfl rfl ?_ | refine qO rfl rfl rfl ?_ | refine zX rfl rfl rfl rfl ?_ | refine zW rfl rfl rfl rfl ?_ | (refine qY rfl rfl rfl rfl ?_ ?_ <;> intro _) | exact zD | exact zL)
            refine go_stop ?_
            refine ⟨⟨i + 1, out ++ [y], false, by omega, hon, hok⟩, by dsimp only; omega, ?_⟩
            dsimp only
            rw [hnx]
            exact (zren [0])
          | a :: q, hol =>
            dsimp only [rowK, rowO]
            have hq : (a :: q).length ≤ 200 := hol
            have hq2 : (a :: q ++ [D.int x]).length ≤ 201 := by rw [List.length_append]; exact Nat.add_le_add_right hq 1
            repeat' (first | refine zS rfl ?_ | refine qA ?_ | refine qB rfl ?_ | refine qC (by kernel_rfl) ?_ | refine qD ?_ | refine qE ?_ | refine qF ?_ | refine qG ?_ | refine qH rfl ?_ | refine qI (.int y) rfl (guardX_ok rfl) rfl rfl rfl rfl rfl rfl (by first | omega | decide) hy ?_ | (refine qS rfl ⟨by simp, fun d hd => by (obtain rfl := List.mem_singleton.1 hd; rfl), by (show ((a :: q).length + 1) * 8 ≤ 140737488355328; omega), by (show (a :: q).length + 1 ≤ 9223372036854775807; omega)⟩ ?_) | refine zT rfl ?_ | refine zU rfl ?_ | refine qL rfl rfl ?_ | refine qM rfl rfl rfl ?_ | refine qO rfl rfl rfl ?_ | refine zX rfl rfl rfl rfl ?_ | refine zW rfl rfl rfl rfl ?_ | (refine qY rfl rfl rfl rfl ?_ ?_ <;> intro _) | exact zD | exact zL)
            refine go_stop ?_
            refine ⟨⟨i + 1, out ++ [y], false, by omega, hon, hok⟩, by dsimp only; omega, ?_⟩
            dsimp only
            rw [hnx]
            exact (zren [1])
        | true =>
          have hnx : iL (out ++ [y]) = iL out ++ [.int y] := iL_app out [y]
          have hok : wiG x l false = (out ++ [y]) ++ wiG x (l.drop (i + 1)) true := by rw [ok]; simp
          have hon : (out ++ [y]).length ≤ 2 * (i + 1) := by simp; omega
          generalize iL out = o at *
          match o, hol with
          | [], hol =>
            dsimp only [rowK, rowO]
            repeat' (first | refine zS rfl ?_ | refine qA ?_ | refine qB rfl ?_ | refine qC (by kernel_rfl) ?_ | refine qD ?_ | refine qE ?_ | refine qF ?_ | refine qG ?_ | refine qH rfl ?_ | refine qI (.int y) rfl (guardX_ok rfl) rfl rfl rfl rfl rfl rfl (by first | omega | decide) hy ?_ | (refine qS rfl ⟨by simp, fun d hd => by (obtain rfl := List.mem_singleton.1 hd; rfl), by (show (0 + 1) * 8 ≤ 140737488355328; omega), by (show 0 + 1 ≤ 9223372036854775807; omega)⟩ ?_) | refine zT rfl ?_ | refine zU rfl ?_ | refine qL rfl rfl ?_ | refine qM rfl rfl rfl ?_ | refine qO rfl rfl rfl ?_ | refine zX rfl rfl rfl rfl ?_ | refine zW rfl rfl rfl rfl ?_ | (refine qY rfl rfl rfl rfl ?_ ?_ <;> intro _) | exact zD | exact zL)
            refine go_stop ?_
            refine ⟨⟨i + 1, out ++ [y], true, by omega, hon, hok⟩, by dsimp only; omega, ?_⟩
            dsimp only
            rw [hnx]
            exact (zren [0])
          | a :: q, hol =>
            dsimp only [rowK, rowO]
            have hq : (a :: q).length ≤ 200 := hol
            have hq2 : (a :: q ++ [D.int x]).length ≤ 201 := by rw [List.length_append]; exact Nat.add_le_add_right hq 1
            repeat' (first | refine zS rfl ?_ | refine qA ?_ | refine qB rfl ?_ | refine qC (by kernel_rfl) ?_ | refine qD ?_ | refine qE ?_ | refine qF ?_ | refine qG ?_ | refine qH rfl ?_ | refine qI (.int y) rfl (guardX_ok rfl) rfl rfl rfl rfl rfl rfl (by first | omega | decide) hy ?_ | (refine qS rfl ⟨by simp, fun d hd => by (obtain rfl := List.mem_singleton.1 hd; rfl), by (show ((a :: q).length + 1) * 8 ≤ 140737488355328; omega), by (show (a :: q).length + 1 ≤ 9223372036854775807; omega)⟩ ?_) | refine zT rfl ?_ | refine zU rfl ?_ | refine qL rfl rfl ?_ | refine qM rfl rfl rfl ?_ | refine qO rfl rfl rfl ?_ | refine zX rfl rfl rfl rfl ?_ | refine zW rfl rfl rfl rfl ?_ | (refine qY rfl rfl rfl rfl ?_ ?_ <;> intro _) | exact zD | exact zL)
            refine go_stop ?_
            refine ⟨⟨i + 1, out ++ [y], true, by omega, hon, hok⟩, by dsimp only; omega, ?_⟩
            dsimp only
            rw [hnx]
            exact (zren [1])
      | true =>
        rw [c2, Bool.true_and] at ok
        cases d with
        | true =>
          rw [Bool.not_true, cond_false] at ok
          have hnx : iL (out ++ [y]) = iL out ++ [.int y] := iL_app out [y]
          have hok : wiG x l false = (out ++ [y]) ++ wiG x (l.drop (i + 1)) true := by rw [ok]; simp
          have hon : (out ++ [y]).length ≤ 2 * (i + 1) := by simp; omega
          generalize iL out = o at *
          match o, hol with
          | [], hol =>
            dsimp only [rowK, rowO]
            repeat' (first | refine zS rfl ?_ | refine qA ?_ | refine qB rfl ?_ | refine qC (by kernel_rfl) ?_ | refine qD ?_ | refine qE ?_ | refine qF ?_ | refine qG ?_ | refine qH rfl ?_ | refine qI (.int y) rfl (guardX_ok rfl) rfl rfl rfl rfl rfl rfl (by first | omega | decide) hy ?_ | (refine qS rfl ⟨by simp, fun d hd => by (obtain rfl := List.mem_singleton.1 hd; rfl), by (show (0 + 1) * 8 ≤ 140737488355328; omega), by (show 0 + 1 ≤ 9223372036854775807; omega)⟩ ?_) | refine zT rfl ?_ | refine zU rfl ?_ | refine qL rfl rfl ?_ | refine qM rfl rfl rfl ?_ | refine qO rfl rfl rfl ?_ | refine zX rfl rfl rfl rfl ?_ | refine zW rfl rfl rfl rfl ?_ | (refine qY rfl rfl rfl rfl ?_ ?_ <;> intro _) | exact zD | exact zL)
            refine go_stop ?_
            refine ⟨⟨i + 1, out ++ [y], true, by omega, hon, hok⟩, by dsimp only; omega, ?_⟩
            dsimp only
            rw [hnx]
            exact (zren [0])
          | a :: q, hol =>
            dsimp only [rowK, rowO]
            have hq : (a :: q).length ≤ 200 := hol
            have hq2 : (a :: q ++ [D.int x]).length ≤ 201 := by rw [List.length_append]; exact Nat.add_le_add_right hq 1
            repeat' (first | refine zS rfl ?_ | refine qA ?_ | refine qB rfl ?_ | refine qC (by kernel_rfl) ?_ | refine qD ?_ | refine qE ?_ | refine qF ?_ | refine qG ?_ | refine qH rfl ?_ | refine qI (.int y) rfl (guardX_ok rfl) rfl rfl rfl rfl rfl rfl (by first | omega | decide) hy ?_ | (refine qS rfl ⟨by simp, fun d hd => by (obtain rfl := List.mem_singleton.1 hd; rfl), by (show ((a :: q).length + 1) * 8 ≤ 140737488355328; omega), by (show (a :: q).length + 1 ≤ 9223372036854775807; omega)⟩ ?_) | refine zT rfl ?_ | refine zU rfl ?_ | refine qL rfl rfl ?_ | refine qM rfl rfl rfl ?_ | refine qO rfl rfl rfl ?_ | refine zX rfl rfl rfl rfl ?_ | refine zW rfl rfl rfl rfl ?_ | (refine qY rfl rfl rfl rfl ?_ ?_ <;> intro _) | exact zD | exact zL)
            refine go_stop ?_
            refine ⟨⟨i + 1, out ++ [y], true, by omega, hon, hok⟩, by dsimp only; omega, ?_⟩
            dsimp only
            rw [hnx]
            exact (zren [1])
        | false =>
          rw [Bool.not_false, cond_true] at ok
          have hnx : iL (out ++ [x, y]) = iL out ++ [.int x] ++ [.int y] := by rw [iL_app, List.append_assoc]; rfl
          have hok : wiG x l false = (out ++ [x, y]) ++ wiG x (l.drop (i + 1)) true := by rw [ok]; simp
          have hon : (out ++ [x, y]).length ≤ 2 * (i + 1) := by simp; omega
          generalize iL out = o at *
          match o, hol with
          | [], hol =>
            dsimp only [rowK, rowO]
            repeat' (first | refine zS rfl ?_ | refine qA ?_ | refine qB rfl ?_ | refine qC (by kernel_rfl) ?_ | refine qD ?_ | refine qE ?_ | refine qF ?_ | refine qG ?_ | refine qH rfl ?_ | refine qI (.int y) rfl (guardX_ok rfl) rfl rfl rfl rfl rfl rfl (by first | omega | decide) hy ?_ | (refine qS rfl ⟨by simp, fun d hd => by (obtain rfl := List.mem_singleton.1 hd; rfl), by (show (0 + 1) * 8 ≤ 140737488355328; omega), by (show 0 + 1 ≤ 9223372036854775807; omega)⟩ ?_) | (refine qS rfl ⟨by simp, fun d hd => by (obtain rfl := List.mem_singleton.1 hd; rfl), by (show (1 + 1) * 8 ≤ 140737488355328; omega), by (show 1 + 1 ≤ 9223372036854775807; omega)⟩ ?_) | refine zT rfl ?_ | refine zU rfl ?_ | refine qL rfl rfl ?_ | refine qM rfl rfl rfl ?_ | refine qO rfl rfl rfl ?_ | refine zX rfl rfl rfl rfl ?_ | refine zW rfl rfl rfl rfl ?_ | (refine qY rfl rfl rfl rfl ?_ ?_ <;> intro _) | exact zD | exact zL)
            refine go_stop ?_
            refine ⟨⟨i + 1, out ++ [x, y], true, by omega, hon, hok⟩, by dsimp only; omega, ?_⟩
            dsimp only
            rw [hnx]
            exact (zren [1])
          | a :: q, hol =>
            dsimp only [rowK, rowO]
            have hq : (a :: q).length ≤ 200 := hol
            have hq2 : (a :: q ++ [D.int x]).length ≤ 201 := by rw [List.length_append]; exact Nat.add_le_add_right hq 1
            repeat' (first | refine zS rfl ?_ | refine qA ?_ | refine qB rfl ?_ | refine qC (by kernel_rfl) ?_ | refine qD ?_ | refine qE ?_ | refine qF ?_ | refine qG ?_ | refine qH rfl ?_ | refine qI (.int y) rfl (guardX_ok rfl) rfl rfl rfl rfl rfl rfl (by first | omega | decide) hy ?_ | (refine qS rfl ⟨by simp, fun d hd => by (obtain rfl := List.mem_singleton.1 hd; rfl), by (show ((a :: q).length + 1) * 8 ≤ 140737488355328; omega), by (show (a :: q).length + 1 ≤ 9223372036854775807; omega)⟩ ?_) | (refine qS rfl ⟨by simp, fun d hd => by (obtain rfl := List.mem_singleton.1 hd; rfl), by (show ((a :: q ++ [D.int x]).length + 1) * 8 ≤ 140737488355328; omega), by (show (a :: q ++ [D.int x]).length + 1 ≤ 9223372036854775807; omega)⟩ ?_) | refine zT rfl ?_ | refine zU rfl ?_ | refine qL rfl rfl ?_ | refine qM rfl rfl rfl ?_ | refine qO rfl rfl rfl ?_ | refine zX rfl rfl rfl rfl ?_ | refine zW rfl rfl rfl rfl ?_ | (refine qY rfl rfl rfl rfl ?_ ?_ <;> intro _) | exact zD | exact zL)
            refine go_stop ?_
            refine ⟨⟨i + 1, out ++ [x, y], true, by omega, hon, hok⟩, by dsimp only; omega, ?_⟩
            dsimp only
            rw [hnx]
            exact (zren [2])
  · have g1 : decide ((i : Int) < ((iL l).length : Int)) = false := by rw [hle]; simp; omega
    rw [List.drop_eq_nil_of_le hge, wiG] at ok
    cases d with
    | true =>
      rw [cond_true, List.append_nil] at ok
      rw [ok]
      generalize iL out = o at *
      match o, hol with
      | [], hol =>
        dsimp only [rowK, rowO]
        repeat' (first | refine zS rfl ?_ | refine qA ?_ | refine qB rfl ?_ | refine qC (by kernel_rfl) ?_ | refine qD ?_ | refine qE ?_ | refine qF ?_ | refine qG ?_ | refine qH rfl ?_ | refine zT rfl ?_ | refine zU rfl ?_ | refine qL rfl rfl ?_ | refine qM rfl rfl rfl ?_ | refine qO rfl rfl rfl ?_ | refine zX rfl rfl rfl rfl ?_ | refine zW rfl rfl rfl rfl ?_ | (refine qY rfl rfl rfl rfl ?_ ?_ <;> intro _) | exact zD | exact zL)
      | a :: q, hol =>
        dsimp only [rowK, rowO]
        refine qA ?_
        refine go_frz 0 rfl ?_
        repeat' (first | refine zS rfl ?_ | refine qA ?_ | refine qB rfl ?_ | refine qC (by kernel_rfl) ?_ | refine qD ?_ | refine qE ?_ | refine qF ?_ | refine qG ?_ | refine qH rfl ?_ | refine zT rfl ?_ | refine zU rfl ?_ | refine qL rfl rfl ?_ | refine qM rfl rfl rfl ?_ | refine qO rfl rfl rfl ?_ | refine zX rfl rfl rfl rfl ?_ | refine zW rfl rfl rfl rfl ?_ | (refine qY rfl rfl rfl rfl ?_ ?_ <;> intro _) | exact zD | exact zL)
    | false =>
      rw [cond_false] at ok
      rw [ok, iL_app]
      generalize iL out = o at *
      match o, hol with
      | [], hol =>
        dsimp only [rowK, rowO]
        repeat' (first | refine zS rfl ?_ | refine qA ?_ | refine qB rfl ?_ | refine qC (by kernel_rfl) ?_ | refine qD ?_ | refine qE ?_ | refine qF ?_ | refine qG ?_ | refine qH rfl ?_ | (refine qS rfl ⟨by simp, fun d hd => by (obtain rfl := List.mem_singleton.1 hd; rfl), by (show (0 + 1) * 8 ≤ 140737488355328; omega), by (show 0 + 1 ≤ 9223372036854775807; omega)⟩ ?_) | refine zT rfl ?_ | refine zU rfl ?_ | refine qL rfl rfl ?_ | refine qM rfl rfl rfl ?_ | refine qO rfl rfl rfl ?_ | refine zX rfl rfl rfl rfl ?_ | refine zW rfl rfl rfl rfl ?_ | (refine qY rfl rfl rfl rfl ?_ ?_ <;> intro _) | exact zD | exact zL)
        refine go_frz 0 rfl ?_
        repeat' (first | refine zS rfl ?_ | refine qA ?_ | refine qB rfl ?_ | refine qC (by kernel_rfl) ?_ | refine qD ?_ | refine qE ?_ | refine qF ?_ | refine qG ?_ | refine qH rfl ?_ | refine zT rfl ?_ | refine zU rfl ?_ | refine qL rfl rfl ?_ | refine qM rfl rfl rfl ?_ | refine qO rfl rfl rfl ?_ | refine zX rfl rfl rfl rfl ?_ | refine zW rfl rfl rfl rfl ?_ | (refine qY rfl rfl rfl rfl ?_ ?_ <;> intro _) | exact zD | exact zL)
      | a :: q, hol =>
        dsimp only [rowK, rowO]
        have hq : (a :: q).length ≤ 200 := hol
        repeat' (first | refine zS rfl ?_ | refine qA ?_ | refine qB rfl ?_ | refine qC (by kernel_rfl) ?_ | refine qD ?_ | refine qE ?_ | refine qF ?_ | refine qG ?_ | refine qH rfl ?_ | (refine qS rfl ⟨by simp, fun d hd => by (obtain rfl := List.mem_singleton.1 hd; rfl), by (show ((a :: q).length + 1) * 8 ≤ 140737488355328; omega), by (show (a :: q).length + 1 ≤ 9223372036854775807; omega)⟩ ?_) | refine zT rfl ?_ | refine zU rfl ?_ | refine qL rfl rfl ?_ | refine qM rfl rfl rfl ?_ | refine qO rfl rfl rfl ?_ | refine zX rfl rfl rfl rfl ?_ | refine zW rfl rfl rfl rfl ?_ | (refine qY rfl rfl rfl rfl ?_ ?_ <;> intro _) | exact zD | exact zL)
        refine go_frz 1 rfl ?_
        repeat' (first | refine zS rfl ?_ | refine qA ?_ | refine qB rfl ?_ | refine qC (by kernel_rfl) ?_ | refine qD ?_ | refine qE ?_ | refine qF ?_ | refine qG ?_ | refine qH rfl ?_ | refine zT rfl ?_ | refine zU rfl ?_ | refine qL rfl rfl ?_ | refine qM rfl rfl rfl ?_ | refine qO rfl rfl rfl ?_ | refine zX rfl rfl rfl rfl ?_ | refine zW rfl rfl rfl rfl ?_ | (refine qY rfl rfl rfl rfl ?_ ?_ <;> intro _) | exact zD | exact zL)
theorem wi_len {x : Int} : ∀ (l : List Int) (d : Bool), (wiG x l d).length ≤ l.length + (bif d then 0 else 1)
  | [], d => by cases d <;> simp [wiG]
  | y :: r, d => by
    have h1 := wi_len (x := x) r true
    have h2 := wi_len (x := x) r (d || y == x)
    unfold wiG
    cases hc : decide (y > x) && !(d || y == x) with
    | true =>
      cases d with
      | true => simp at hc
      | false => simp at h1 ⊢; omega
    | false =>
      cases d with
      | true => simp at h2 ⊢; omega
      | false => cases hy : y == x <;> rw [hy] at h2 <;> simp at h2 ⊢ <;> omega
structure SOw (l : List Int) where
  i : Nat
  o : List Int
  hi : i ≤ l.length
  ho : o.length ≤ i
  ok : ofF l = (l.drop i).foldl (fun o x => wiG x o false) o
theorem rof_ev (l : List Int) (hl : l.length ≤ 100) : Ev E 20 [.sl (iL l)] (.d (.sl (iL (ofF l)))) := by
  have hle := iL_len l
  refine enter1 Tryz.func20 Tryz.ntmps20 rfl rfl fun w0 F0 O => ?_
  repeat' (first | refine zS rfl ?_ | refine qA ?_ | refine qB rfl ?_ | refine qC (by kernel_rfl) ?_ | refine qD ?_ | refine qE ?_ | refine qF ?_ | refine qG ?_ | refine qH rfl ?_ | refine zT rfl ?_ | refine zU rfl ?_ | refine qL rfl rfl ?_ | refine qM rfl rfl rfl ?_ | refine qO rfl rfl rfl ?_ | refine zX rfl rfl rfl rfl ?_ | refine zW rfl rfl rfl rfl ?_ | (refine qY rfl rfl rfl rfl ?_ ?_ <;> intro _) | exact zD | exact zL)
  refine go_nilD 3 rfl ?_
  refine go_loop_ (α := SOw l) (fun p => ⟨[(0, .d (.sl (iL l))), (3, .d (.sl (iL p.o))), (4, .d (.int p.i))], []⟩) (fun p => l.length - p.i) ⟨0, [], by omega, by simp, rfl⟩ ((zle 0)) ?_
  rintro ⟨i, o, hi, ho, ok⟩
  dsimp only at ok ⊢
  rcases Nat.lt_or_ge i l.length with hlt | hge
  · have g1 : decide ((i : Int) < ((iL l).length : Int)) = true := by rw [hle]; simpa using hlt
    have hx0 := List.getElem?_eq_getElem hlt
    generalize l[i] = y at hx0
    have hy := iL_get hx0
    have hw := with_ev o y (by omega)
    rw [drop_at hx0, List.foldl_cons] at ok
    repeat' (first | refine zS rfl ?_ | refine qA ?_ | refine qB rfl ?_ | refine qC (by kernel_rfl) ?_ | refine qD ?_ | refine qE ?_ | refine qF ?_ | refine qG ?_ | refine qH rfl ?_ | refine qI (.int y) rfl (guardX_ok rfl) rfl rfl rfl rfl rfl rfl (by first | omega | decide) hy ?_ | refine qP rfl rfl rfl rfl rfl rfl b45 (hw) ?_ | refine zT rfl ?_ | refine zU rfl ?_ | refine qL rfl rfl ?_ | refine qM rfl rfl rfl ?_ | refine qO rfl rfl rfl ?_ | refine zX rfl rfl rfl rfl ?_ | refine zW rfl rfl rfl rfl ?_ | (refine qY rfl rfl rfl rfl ?_ ?_ <;> intro _) | exact zD | exact zL)
    refine go_stop ?_
    refine ⟨⟨i + 1, wiG y o false, by omega, ?_, ok⟩, by dsimp only; omega, (zle 0)⟩
    have := wi_len (x := y) o false
    simp at this
    omega
  · have g1 : decide ((i : Int) < ((iL l).length : Int)) = false := by rw [hle]; simp; omega
    rw [ok, List.drop_eq_nil_of_le hge]
    repeat' (first | refine zS rfl ?_ | refine qA ?_ | refine qB rfl ?_ | refine qC (by kernel_rfl) ?_ | refine qD ?_ | refine qE ?_ | refine qF ?_ | refine qG ?_ | refine qH rfl ?_ | refine zT rfl ?_ | refine zU rfl ?_ | refine qL rfl rfl ?_ | refine qM rfl rfl rfl ?_ | refine qO rfl rfl rfl ?_ | refine zX rfl rfl rfl rfl ?_ | refine zW rfl rfl rfl rfl ?_ | (refine qY rfl rfl rfl rfl ?_ ?_ <;> intro _) | exact zD | exact zL)
end Go.Proofs.YtgkobddgjfgbbaaGreatDoor

/- What Check leaves; the chapter's examples: what the specifications give there. Conditions: none. -/
namespace Go.Proofs.YtgkobddgjfgbbaaGreatDoor
open Go Go.Abs Go.Val

theorem chk_okc {c : CJ} (h : chkF c = 0) : OkC c := by
  unfold chkF at h
  cases h1 : decide (c.vs.length > 24) || decide (c.as.length > 12) with
  | true => rw [h1] at h; simp at h
  | false =>
    rw [h1, cond_false] at h
    cases h2 : c.as.any (badF c.vs.length) with
    | true => rw [h2] at h; simp at h
    | false =>
      rw [Bool.or_eq_false_iff] at h1
      refine ⟨by have := h1.2; simp at this; omega, fun a ha => ?_⟩
      have hb := List.any_eq_false.1 h2 a ha
      unfold badF at hb
      have hb' : (!shapeF a || a.vs.any fun v => decide (v ≥ (c.vs.length : Int))) = false := by simpa using hb
      rw [Bool.or_eq_false_iff] at hb'
      obtain ⟨s1, s2, -⟩ := shape_arity (a := a) (by simpa using hb'.1)
      have := ari_le a.k
      omega
theorem chk_len {c : CJ} (h : chkF c = 0) (h7 : c.as.length ≤ 7 ∨ c.as.length > 12) : c.as.length ≤ 7 := by
  have := (chk_okc h).n
  omega
def lvS : ST := ⟨10, 20, [⟨⟨#[65]⟩, 3⟩], [⟨⟨#[84]⟩, 20⟩], [[4]], [[5]]⟩
def lvL : AT := ⟨1, [0], ⟨#[65]⟩, [], vNull⟩
def lvE : AT := ⟨3, [0, 1, 2], ⟨#[]⟩, [⟨#[84]⟩], vNull⟩
def lvC : CJ := ⟨[⟨#[97]⟩, ⟨#[101]⟩, ⟨#[98]⟩], [lvL, lvE]⟩
def lvD : CJ := ⟨[⟨#[97]⟩], []⟩
theorem lv1 : atomF lvS lvE [0, 2] = 4 := by kernel_rfl
theorem lv2 : atomF lvS lvE [2] = 5 := by kernel_rfl
theorem lv3 : atomF lvS lvE [1] = 1 := by kernel_rfl
theorem lv4 : atomF lvS lvE [] = 20 := by kernel_rfl
theorem lv5 : atomF lvS lvL [0] = 1 := by kernel_rfl
theorem lv6 : chkF lvC = 0 := by kernel_rfl
theorem lv7 : chkF lvD = 25 := by kernel_rfl
theorem lv8 : rowV lvS lvC 0 = 12 := by kernel_rfl
theorem lv9 : ordV lvS lvC 0 = [0, 1] := by kernel_rfl
theorem lv10 : stpN lvS [⟨#[84]⟩, ⟨#[84]⟩, ⟨#[84]⟩] = 320 := by kernel_rfl
theorem lv11 : stpB lvS [⟨#[84]⟩, ⟨#[84]⟩, ⟨#[84]⟩] = true := by kernel_rfl
theorem lv12 : stpB lvS [] = false := by kernel_rfl
end Go.Proofs.YtgkobddgjfgbbaaGreatDoor

/- The chapter's examples hold. Conditions: none. -/
namespace Go.Proofs.YtgkobddgjfgbbaaGreatDoor
open Go Go.Abs Go.Val
attribute [local irreducible] go SGo HasBody Ev ExtEv EvO EvS PGo RGo ordF

set_option maxHeartbeats 2000000 in
theorem lives_ev : Ev E 8 [] (.d (.bool true)) := by
  have hR : Ev E 11 [encST lvS, encCJ lvC] (.tup [natD 12, .int 0]) := by
    have := rows_ev lvS lvC (chkF lvC) (check_ev lvC) fun h => ⟨chk_okc h, by decide⟩
    rw [lv6, lv8] at this
    exact this
  have hO : Ev E 16 [encST lvS, encCJ lvC] (.d (.sl (iL [0, 1]))) := by
    have := order_ev3 lvS lvC (chkF lvC) (check_ev lvC) fun h => ⟨chk_okc h, by decide⟩
    rw [lv6, lv9] at this
    exact this
  have hD : Ev E 11 [encST lvS, encCJ lvD] (.tup [natD 0, .int 25]) := by
    have := rows_ev lvS lvD (chkF lvD) (check_ev lvD) fun h => ⟨chk_okc h, by decide⟩
    rw [lv7] at this
    exact this
  have hS : Ev E 18 [encST lvS, .sl ([⟨#[84]⟩, ⟨#[84]⟩, ⟨#[84]⟩].map .str)] (.tup [natD 320, .bool true]) := by
    have := steps_ev lvS [⟨#[84]⟩, ⟨#[84]⟩, ⟨#[84]⟩]
    rw [lv10, lv11] at this
    exact this
  have hS0 : Ev E 18 [encST lvS, .sl []] (.tup [natD 0, .bool false]) := by
    have := steps_ev lvS []
    rw [lv12] at this
    exact this
  have hA1 : Ev E 9 [encST lvS, encAT lvE, .sl (iL [0, 2])] (.d (.int 4)) := by have := atom_ev lvS lvE [0, 2]; rwa [lv1] at this
  have hA2 : Ev E 9 [encST lvS, encAT lvE, .sl (iL [2])] (.d (.int 5)) := by have := atom_ev lvS lvE [2]; rwa [lv2] at this
  have hA3 : Ev E 9 [encST lvS, encAT lvE, .sl (iL [1])] (.d (.int 1)) := by have := atom_ev lvS lvE [1]; rwa [lv3] at this
  have hA4 : Ev E 9 [encST lvS, encAT lvE, .sl []] (.d (.int 20)) := by have := atom_ev lvS lvE []; rwa [lv4] at this
  have hA5 : Ev E 9 [encST lvS, encAT lvL, .sl (iL [0])] (.d (.int 1)) := by have := atom_ev lvS lvL [0]; rwa [lv5] at this
  have hN1 : Ev E 23 [.int 12] (.d (natD 12)) := nof_ev 12
  have hN2 : Ev E 23 [.int 320] (.d (natD 320)) := nof_ev 320
  have hC1 : Ev E 21 [natD 12, natD 12] (.d (.int 0)) := by
    have := ncmp_ev 12 12 (Nat.le_trans (lim_small (by decide)) (by decide)) (Nat.le_trans (lim_small (by decide)) (by decide))
    rwa [show cmpN 12 12 = 0 from rfl] at this
  have hC2 : Ev E 21 [natD 320, natD 320] (.d (.int 0)) := by
    have := ncmp_ev 320 320 (Nat.le_trans (lim_small (by decide)) (by decide)) (Nat.le_trans (lim_small (by decide)) (by decide))
    rwa [show cmpN 320 320 = 0 from rfl] at this
  have hM : Ev E 15 [.sl (iL [0, 1]), .sl (iL [0, 1])] (.d (.bool true)) := same_ev [0, 1] [0, 1]
  refine enter0 Tryz.func8 Tryz.ntmps8 rfl rfl fun w0 F0 O => ?_
  repeat' (first | refine zS rfl ?_ | refine qA ?_ | refine qB rfl ?_ | refine qC (by kernel_rfl) ?_ | refine qD ?_ | refine qE ?_ | refine qF ?_ | refine qG ?_ | refine qH rfl ?_ | refine qP (d := 37) rfl rfl rfl rfl rfl rfl b11 (hR) ?_ | refine qP (d := 43) rfl rfl rfl rfl rfl rfl b18 (hS) ?_ | refine qP (d := 48) rfl rfl rfl rfl rfl rfl b18 (hS0) ?_ | refine qP (d := 55) rfl rfl rfl rfl rfl rfl b11 (hD) ?_ | refine qP (d := 62) rfl rfl rfl rfl rfl rfl b23 (hN1) ?_ | refine qP (d := 63) rfl rfl rfl rfl rfl rfl b21 (hC1) ?_ | refine qP (d := 69) rfl rfl rfl rfl rfl rfl b16 (hO) ?_ | refine qP (d := 71) rfl rfl rfl rfl rfl rfl b15 (hM) ?_ | refine qP (d := 78) rfl rfl rfl rfl rfl rfl b23 (hN2) ?_ | refine qP (d := 79) rfl rfl rfl rfl rfl rfl b21 (hC2) ?_ | refine qP (d := 94) rfl rfl rfl rfl rfl rfl b9 (hA1) ?_ | refine qP (d := 101) rfl rfl rfl rfl rfl rfl b9 (hA2) ?_ | refine qP (d := 108) rfl rfl rfl rfl rfl rfl b9 (hA3) ?_ | refine qP (d := 114) rfl rfl rfl rfl rfl rfl b9 (hA4) ?_ | refine qP (d := 121) rfl rfl rfl rfl rfl rfl b9 (hA5) ?_ | refine zT rfl ?_ | refine zU rfl ?_ | refine qL rfl rfl ?_ | refine qM rfl rfl rfl ?_ | refine qO rfl rfl rfl ?_ | refine zX rfl rfl rfl rfl ?_ | refine zW rfl rfl rfl rfl ?_ | (refine qY rfl rfl rfl rfl ?_ ?_ <;> intro _) | exact zD | exact zL)
end Go.Proofs.YtgkobddgjfgbbaaGreatDoor

/- The statements on Atom, Rows and Steps. Conditions: none. -/
namespace Go.Proofs.YtgkobddgjfgbbaaGreatDoor
open Go Go.Abs Go.Val
attribute [local irreducible] go SGo HasBody Ev ExtEv EvO EvS PGo RGo ordF

theorem ea_ev (s : ST) (a : AT) (b : List Int) : Ev E 3 [encST s, encAT a, .sl (iL b)] (.d (.bool true)) := Ev.fit fun hfit => by
  obtain ⟨hmb, -⟩ := fit_map (hfit (.sl (iL b)) (by simp))
  have hlb := iL_len b
  have hf := few_ev s
  cases c1 : fewF s with
  | false =>
    rw [c1] at hf
    refine enter3 Tryz.func3 Tryz.ntmps3 rfl rfl fun w0 F0 O => ?_
    repeat' (first | refine zS rfl ?_ | refine qA ?_ | refine qB rfl ?_ | refine qC (by kernel_rfl) ?_ | refine qD ?_ | refine qE ?_ | refine qF ?_ | refine qG ?_ | refine qH rfl ?_ | refine qP rfl rfl rfl rfl rfl rfl b7 (hf) ?_ | refine qP rfl rfl rfl rfl rfl rfl b8 (lives_ev) ?_ | refine zT rfl ?_ | refine zU rfl ?_ | refine qL rfl rfl ?_ | refine qM rfl rfl rfl ?_ | refine qO rfl rfl rfl ?_ | refine zX rfl rfl rfl rfl ?_ | refine zW rfl rfl rfl rfl ?_ | (refine qY rfl rfl rfl rfl ?_ ?_ <;> intro _) | exact zD | exact zL)
  | true =>
    rw [c1] at hf
    obtain ⟨k, vs, nm, ty, v⟩ := a
    have hlt : (ty.map D.str).length = ty.length := by simp
    cases c2 : decide (((ty.map D.str).length : Int) > 50) with
    | true =>
      refine enter3 Tryz.func3 Tryz.ntmps3 rfl rfl fun w0 F0 O => ?_
      repeat' (first | refine zS rfl ?_ | refine qA ?_ | refine qB rfl ?_ | refine qC (by kernel_rfl) ?_ | refine qD ?_ | refine qE ?_ | refine qF ?_ | refine qG ?_ | refine qH rfl ?_ | refine qP rfl rfl rfl rfl rfl rfl b7 (hf) ?_ | refine qP rfl rfl rfl rfl rfl rfl b8 (lives_ev) ?_ | refine zT rfl ?_ | refine zU rfl ?_ | refine qL rfl rfl ?_ | refine qM rfl rfl rfl ?_ | refine qO rfl rfl rfl ?_ | refine zX rfl rfl rfl rfl ?_ | refine zW rfl rfl rfl rfl ?_ | (refine qY rfl rfl rfl rfl ?_ ?_ <;> intro _) | exact zD | exact zL)
    | false =>
      cases c3 : decide (((iL b).length : Int) > 100) with
      | true =>
        refine enter3 Tryz.func3 Tryz.ntmps3 rfl rfl fun w0 F0 O => ?_
        repeat' (first | refine zS rfl ?_ | refine qA ?_ | refine qB rfl ?_ | refine qC (by kernel_rfl) ?_ | refine qD ?_ | refine qE ?_ | refine qF ?_ | refine qG ?_ | refine qH rfl ?_ | refine qP rfl rfl rfl rfl rfl rfl b7 (hf) ?_ | refine qP rfl rfl rfl rfl rfl rfl b8 (lives_ev) ?_ | refine zT rfl ?_ | refine zU rfl ?_ | refine qL rfl rfl ?_ | refine qM rfl rfl rfl ?_ | refine qO rfl rfl rfl ?_ | refine zX rfl rfl rfl rfl ?_ | refine zW rfl rfl rfl rfl ?_ | (refine qY rfl rfl rfl rfl ?_ ?_ <;> intro _) | exact zD | exact zL)
      | false =>
        have h1 := atom_ev s ⟨k, vs, nm, ty, v⟩ b
        have h2 := ratom_ev s ⟨k, vs, nm, ty, v⟩ b
        generalize atomF s ⟨k, vs, nm, ty, v⟩ b = n at h1 h2
        have hn : (n == n) = true := by simp
        refine enter3 Tryz.func3 Tryz.ntmps3 rfl rfl fun w0 F0 O => ?_
        repeat' (first | refine zS rfl ?_ | refine qA ?_ | refine qB rfl ?_ | refine qC (by kernel_rfl) ?_ | refine qD ?_ | refine qE ?_ | refine qF ?_ | refine qG ?_ | refine qH rfl ?_ | refine qP rfl rfl rfl rfl rfl rfl b7 (hf) ?_ | refine qP rfl rfl rfl rfl rfl rfl b9 (h1) ?_ | refine qP rfl rfl rfl rfl rfl rfl b10 (h2) ?_ | refine qP rfl rfl rfl rfl rfl rfl b8 (lives_ev) ?_ | refine zT rfl ?_ | refine zU rfl ?_ | refine qL rfl rfl ?_ | refine qM rfl rfl rfl ?_ | refine qO rfl rfl rfl ?_ | refine zX rfl rfl rfl rfl ?_ | refine zW rfl rfl rfl rfl ?_ | (refine qY rfl rfl rfl rfl ?_ ?_ <;> intro _) | exact zD | exact zL)
        all_goals (refine congrArg D.bool ?_; rw [hn]; rfl)
theorem lim0 : (lim 0).length ≤ 64 := Nat.le_trans (lim_small (N := 0) (by decide)) (by decide)
theorem stpG_lim {s : ST} : ∀ (l : List ByteArray) (p q : Nat), (lim p).length ≤ 64 → stpG s l p = some q → (lim q).length ≤ 64
  | [], p, q, hp, h => by cases h; exact hp
  | t :: r, p, q, hp, h => by
    cases hc : fit64 (p * (maxF s [t] 1).toNat) with
    | true =>
      rw [stpG_fit hc] at h
      exact stpG_lim r _ q (of_decide_eq_true hc) h
    | false =>
      rw [stpG_not hc] at h
      cases h
theorem stp_lim {s : ST} (hs : Fit (encST s)) (ty : List ByteArray) : (lim (stpN s ty)).length ≤ 64 := by
  unfold stpN
  cases ty with
  | nil => exact lim0
  | cons t r =>
    cases h : stpF s (t :: r) with
    | none => exact lim0
    | some q =>
      refine stpG_lim r _ q ?_ h
      have := edgesF_rng hs t
      simp only [inR] at this
      exact Nat.le_trans (lim_small (by omega)) (by decide)
theorem cmp_self (n : Nat) : cmpN n n = 0 := by simp [cmpN]
theorem es_ev (s : ST) (ty : List ByteArray) : Ev E 5 [encST s, .sl (ty.map .str)] (.d (.bool true)) := Ev.fit fun hfit => by
  have hmt := (fit_map (hfit (.sl (ty.map .str)) (by simp))).1
  have hft := hfit (encST s) (by simp)
  have hlt : (ty.map D.str).length = ty.length := by simp
  have hf := few_ev s
  cases c1 : fewF s with
  | false =>
    rw [c1] at hf
    refine enter2 Tryz.func5 Tryz.ntmps5 rfl rfl fun w0 F0 O => ?_
    repeat' (first | refine zS rfl ?_ | refine qA ?_ | refine qB rfl ?_ | refine qC (by kernel_rfl) ?_ | refine qD ?_ | refine qE ?_ | refine qF ?_ | refine qG ?_ | refine qH rfl ?_ | refine qP rfl rfl rfl rfl rfl rfl b7 (hf) ?_ | refine qP rfl rfl rfl rfl rfl rfl b8 (lives_ev) ?_ | refine zT rfl ?_ | refine zU rfl ?_ | refine qL rfl rfl ?_ | refine qM rfl rfl rfl ?_ | refine qO rfl rfl rfl ?_ | refine zX rfl rfl rfl rfl ?_ | refine zW rfl rfl rfl rfl ?_ | (refine qY rfl rfl rfl rfl ?_ ?_ <;> intro _) | exact zD | exact zL)
  | true =>
    rw [c1] at hf
    cases c2 : decide (((ty.map D.str).length : Int) > 60) with
    | true =>
      refine enter2 Tryz.func5 Tryz.ntmps5 rfl rfl fun w0 F0 O => ?_
      repeat' (first | refine zS rfl ?_ | refine qA ?_ | refine qB rfl ?_ | refine qC (by kernel_rfl) ?_ | refine qD ?_ | refine qE ?_ | refine qF ?_ | refine qG ?_ | refine qH rfl ?_ | refine qP rfl rfl rfl rfl rfl rfl b7 (hf) ?_ | refine qP rfl rfl rfl rfl rfl rfl b8 (lives_ev) ?_ | refine zT rfl ?_ | refine zU rfl ?_ | refine qL rfl rfl ?_ | refine qM rfl rfl rfl ?_ | refine qO rfl rfl rfl ?_ | refine zX rfl rfl rfl rfl ?_ | refine zW rfl rfl rfl rfl ?_ | (refine qY rfl rfl rfl rfl ?_ ?_ <;> intro _) | exact zD | exact zL)
    | false =>
      have h1 := steps_ev s ty
      have h2 := rsteps_ev s ty
      have hl := stp_lim hft ty
      have h3 : Ev E 13 [natD (stpN s ty)] (.d (.bool true)) := nvalid_ev (lim (stpN s ty)) (lim_okL _) hl
      have h4 := rncmp_ev (stpN s ty) (stpN s ty) hl hl
      rw [cmp_self] at h4
      generalize stpN s ty = n at *
      generalize stpB s ty = b at *
      have hb : (b == b) = true := by simp
      refine enter2 Tryz.func5 Tryz.ntmps5 rfl rfl fun w0 F0 O => ?_
      repeat' (first | refine zS rfl ?_ | refine qA ?_ | refine qB rfl ?_ | refine qC (by kernel_rfl) ?_ | refine qD ?_ | refine qE ?_ | refine qF ?_ | refine qG ?_ | refine qH rfl ?_ | refine qP rfl rfl rfl rfl rfl rfl b7 (hf) ?_ | refine qP rfl rfl rfl rfl rfl rfl b18 (h1) ?_ | refine qP rfl rfl rfl rfl rfl rfl b19 (h2) ?_ | refine qP rfl rfl rfl rfl rfl rfl b13 (h3) ?_ | refine qP rfl rfl rfl rfl rfl rfl b14 (h4) ?_ | refine qP rfl rfl rfl rfl rfl rfl b8 (lives_ev) ?_ | refine zT rfl ?_ | refine zU rfl ?_ | refine qL rfl rfl ?_ | refine qM rfl rfl rfl ?_ | refine qO rfl rfl rfl ?_ | refine zX rfl rfl rfl rfl ?_ | refine zW rfl rfl rfl rfl ?_ | (refine qY rfl rfl rfl rfl ?_ ?_ <;> intro _) | exact zD | exact zL)
      all_goals (refine congrArg D.bool ?_; rw [hb]; rfl)
theorem row_lim {s : ST} (hs : Fit (encST s)) (c : CJ) (h : chkF c = 0 → c.as.length ≤ 7) : (lim (rowV s c (chkF c))).length ≤ 64 := by
  unfold rowV
  cases he : chkF c == 0 with
  | false => exact lim0
  | true =>
    rw [cond_true]
    unfold rowsF
    refine lim_of_le (Nat.le_trans (tb_lim (h (by simpa using he)) (facF_le hs c) (Nat.two_pow_pos _)) (Nat.pow_le_pow_right (by decide) (by decide)))
theorem er_ev (s : ST) (c : CJ) : Ev E 4 [encST s, encCJ c] (.d (.bool true)) := Ev.fit fun hfit => by
  have hft := hfit (encST s) (by simp)
  have hfc := hfit (encCJ c) (by simp)
  have hf := few_ev s
  have hck := check_ev c
  have hrk := rcheck_ev c
  have key : (chkF c = 0 → c.as.length ≤ 7) → _ := fun h7 => And.intro (rows_ev s c (chkF c) hck fun h => ⟨chk_okc h, h7 h⟩) <| And.intro (rrows_ev s c (chkF c) hrk fun h => ⟨chk_okc h, h7 h⟩) <| And.intro (order_ev3 s c (chkF c) hck fun h => ⟨chk_okc h, h7 h⟩) <| And.intro (rorder_ev3 s c (chkF c) hrk fun h => ⟨chk_okc h, h7 h⟩) (row_lim hft c h7)
  have kl : ∀ h : c.as.length ≤ 7 ∨ c.as.length > 12, chkF c = 0 → c.as.length ≤ 7 := fun h h0 => chk_len h0 h
  generalize hev : chkF c = e at *
  clear hev
  generalize rowV s c e = n at *
  generalize ordV s c e = o at *
  obtain ⟨vs, ats⟩ := c
  have hla : (ats.map encAT).length = ats.length := by simp
  cases c1 : fewF s with
  | false =>
    rw [c1] at hf
    refine enter2 Tryz.func4 Tryz.ntmps4 rfl rfl fun w0 F0 O => ?_
    repeat' (first | refine zS rfl ?_ | refine qA ?_ | refine qB rfl ?_ | refine qC (by kernel_rfl) ?_ | refine qD ?_ | refine qE ?_ | refine qF ?_ | refine qG ?_ | refine qH rfl ?_ | refine qP rfl rfl rfl rfl rfl rfl b7 (hf) ?_ | refine qP rfl rfl rfl rfl rfl rfl b8 (lives_ev) ?_ | refine zT rfl ?_ | refine zU rfl ?_ | refine qL rfl rfl ?_ | refine qM rfl rfl rfl ?_ | refine qO rfl rfl rfl ?_ | refine zX rfl rfl rfl rfl ?_ | refine zW rfl rfl rfl rfl ?_ | (refine qY rfl rfl rfl rfl ?_ ?_ <;> intro _) | exact zD | exact zL)
  | true =>
    rw [c1] at hf
    have tail : ∀ (g : ats.length ≤ 7 ∨ ats.length > 12), (decide (((ats.map encAT).length : Int) > 7) = false ∨ (decide (((ats.map encAT).length : Int) > 7) = true ∧ decide (((ats.map encAT).length : Int) ≤ 12) = false)) → Ev E 4 [encST s, encCJ ⟨vs, ats⟩] (.d (.bool true)) := by
      intro g hg
      obtain ⟨k1, k2, k3, k4, k5⟩ := key (kl g)
      have h3 : Ev E 13 [natD n] (.d (.bool true)) := nvalid_ev (lim n) (lim_okL _) k5
      have h4 := rncmp_ev n n k5 k5
      rw [cmp_self] at h4
      have h5 := same_ev o o
      rw [show (o == o) = true by simp] at h5
      have h6 : (e == e) = true := by simp
      rcases hg with g1 | ⟨g1, g2⟩
      · refine enter2 Tryz.func4 Tryz.ntmps4 rfl rfl fun w0 F0 O => ?_
        repeat' (first | refine zS rfl ?_ | refine qA ?_ | refine qB rfl ?_ | refine qC (by kernel_rfl) ?_ | refine qD ?_ | refine qE ?_ | refine qF ?_ | refine qG ?_ | refine qH rfl ?_ | refine qP rfl rfl rfl rfl rfl rfl b7 (hf) ?_ | refine qP rfl rfl rfl rfl rfl rfl b8 (lives_ev) ?_ | refine qP rfl rfl rfl rfl rfl rfl b11 (k1) ?_ | refine qP rfl rfl rfl rfl rfl rfl b12 (k2) ?_ | refine qP rfl rfl rfl rfl rfl rfl b13 (h3) ?_ | refine qP rfl rfl rfl rfl rfl rfl b14 (h4) ?_ | refine qP rfl rfl rfl rfl rfl rfl b16 (k3) ?_ | refine qP rfl rfl rfl rfl rfl rfl b17 (k4) ?_ | refine qP rfl rfl rfl rfl rfl rfl b15 (h5) ?_ | refine zT rfl ?_ | refine zU rfl ?_ | refine qL rfl rfl ?_ | refine qM rfl rfl rfl ?_ | refine qO rfl rfl rfl ?_ | refine zX rfl rfl rfl rfl ?_ | refine zW rfl rfl rfl rfl ?_ | (refine qY rfl rfl rfl rfl ?_ ?_ <;> intro _) | exact zD | exact zL)
        all_goals (refine congrArg D.bool ?_; rw [h6]; rfl)
      · refine enter2 Tryz.func4 Tryz.ntmps4 rfl rfl fun w0 F0 O => ?_
        repeat' (first | refine zS rfl ?_ | refine qA ?_ | refine qB rfl ?_ | refine qC (by kernel_rfl) ?_ | refine qD ?_ | refine qE ?_ | refine qF ?_ | refine qG ?_ | refine qH rfl ?_ | refine qP rfl rfl rfl rfl rfl rfl b7 (hf) ?_ | refine qP rfl rfl rfl rfl rfl rfl b8 (lives_ev) ?_ | refine qP rfl rfl rfl rfl rfl rfl b11 (k1) ?_ | refine qP rfl rfl rfl rfl rfl rfl b12 (k2) ?_ | refine qP rfl rfl rfl rfl rfl rfl b13 (h3) ?_ | refine qP rfl rfl rfl rfl rfl rfl b14 (h4) ?_ | refine qP rfl rfl rfl rfl rfl rfl b16 (k3) ?_ | refine qP rfl rfl rfl rfl rfl rfl b17 (k4) ?_ | refine qP rfl rfl rfl rfl rfl rfl b15 (h5) ?_ | refine zT rfl ?_ | refine zU rfl ?_ | refine qL rfl rfl ?_ | refine qM rfl rfl rfl ?_ | refine qO rfl rfl rfl ?_ | refine zX rfl rfl rfl rfl ?_ | refine zW rfl rfl rfl rfl ?_ | (refine qY rfl rfl rfl rfl ?_ ?_ <;> intro _) | exact zD | exact zL)
        all_goals (refine congrArg D.bool ?_; rw [h6]; rfl)
    cases c2 : decide (((ats.map encAT).length : Int) > 7) with
    | false => exact tail (.inl (by rw [hla] at c2; simp at c2; omega)) (.inl c2)
    | true =>
      cases c3 : decide (((ats.map encAT).length : Int) ≤ 12) with
      | false => exact tail (.inr (by rw [hla] at c3; simp at c3; omega)) (.inr ⟨c2, c3⟩)
      | true =>
        refine enter2 Tryz.func4 Tryz.ntmps4 rfl rfl fun w0 F0 O => ?_
        repeat' (first | refine zS rfl ?_ | refine qA ?_ | refine qB rfl ?_ | refine qC (by kernel_rfl) ?_ | refine qD ?_ | refine qE ?_ | refine qF ?_ | refine qG ?_ | refine qH rfl ?_ | refine qP rfl rfl rfl rfl rfl rfl b7 (hf) ?_ | refine qP rfl rfl rfl rfl rfl rfl b8 (lives_ev) ?_ | refine zT rfl ?_ | refine zU rfl ?_ | refine qL rfl rfl ?_ | refine qM rfl rfl rfl ?_ | refine qO rfl rfl rfl ?_ | refine zX rfl rfl rfl rfl ?_ | refine zW rfl rfl rfl rfl ?_ | (refine qY rfl rfl rfl rfl ?_ ?_ <;> intro _) | exact zD | exact zL)
end Go.Proofs.YtgkobddgjfgbbaaGreatDoor

/- From rows' readings to statistics, atoms and queries; the listed variable as the engine wants it; a world for the witnesses. Conditions: none. -/
namespace Go.Proofs.YtgkobddgjfgbbaaGreatDoor
open Go Go.Abs Go.Val Go.RowKit Go.ChangeShapes Go.WideShapes

theorem ty_V : ∀ {t : TypeId} {x : D}, HasTy Tryz.prog t x → (t = 30 → ∃ v, x = enc v) ∧ (t = 28 → ∃ l, x = .sl (encL l)) := by
  intro t x h
  induction h with
  | bool b h => exact ⟨fun e => (by subst e; rw [Tryz.underlying30] at h; cases h), fun e => (by subst e; rw [Tryz.underlying28] at h; cases h)⟩
  | int n h => exact ⟨fun e => (by subst e; rw [Tryz.underlying30] at h; cases h), fun e => (by subst e; rw [Tryz.underlying28] at h; cases h)⟩
  | str s h => exact ⟨fun e => (by subst e; rw [Tryz.underlying30] at h; cases h), fun e => (by subst e; rw [Tryz.underlying28] at h; cases h)⟩
  | arr ps h _ _ => exact ⟨fun e => (by subst e; rw [Tryz.underlying30] at h; cases h), fun e => (by subst e; rw [Tryz.underlying28] at h; cases h)⟩
  | sl xs h hx ih =>
    refine ⟨fun e => (by subst e; rw [Tryz.underlying30] at h; cases h), fun e => ?_⟩
    subst e
    rw [Tryz.underlying28] at h
    cases h
    have : ∀ ys : List D, (∀ y ∈ ys, ∃ v, y = enc v) → ∃ l, ys = encL l := by
      intro ys
      induction ys with
      | nil => exact fun _ => ⟨[], by simp [encL]⟩
      | cons y r ihr =>
        intro hy
        obtain ⟨v, rfl⟩ := hy y (by simp)
        obtain ⟨l, rfl⟩ := ihr fun z hz => hy z (by simp [hz])
        exact ⟨v :: l, by simp [encL, enc]⟩
    obtain ⟨l, rfl⟩ := this xs fun y hy => (ih y hy).1 rfl
    exact ⟨l, rfl⟩
  | struct parts h hl hp ih =>
    refine ⟨fun e => ?_, fun e => (by subst e; rw [Tryz.underlying28] at h; cases h)⟩
    subst e
    rw [Tryz.underlying30] at h
    cases h
    match parts, hl with
    | [p0, p1, p2, p3, p4], _ =>
      obtain ⟨k, rfl⟩ := HasTy.int_inv Tryz.underlying3 (hp 0 _ p0 rfl rfl)
      obtain ⟨n, rfl⟩ := HasTy.int_inv Tryz.underlying3 (hp 1 _ p1 rfl rfl)
      obtain ⟨d, rfl⟩ := HasTy.int_inv Tryz.underlying3 (hp 2 _ p2 rfl rfl)
      obtain ⟨s, rfl⟩ := HasTy.str_inv Tryz.underlying9 (hp 3 _ p3 rfl rfl)
      obtain ⟨l, rfl⟩ := (ih 4 _ p4 rfl rfl).2 rfl
      exact ⟨.mk k n d s l, rfl⟩
theorem ty_val {x : D} (h : HasTy Tryz.prog 30 x) : ∃ v, x = enc v := (ty_V h).1 rfl
theorem list_of {α : Type} {f : α → D} : ∀ ys : List D, (∀ y ∈ ys, ∃ v, y = f v) → ∃ l : List α, ys = l.map f
  | [], _ => ⟨[], rfl⟩
  | y :: r, hy => by
    obtain ⟨v, rfl⟩ := hy y (by simp)
    obtain ⟨l, rfl⟩ := list_of r fun z hz => hy z (by simp [hz])
    exact ⟨v :: l, rfl⟩
theorem ty_strs {x : D} (h : HasTy Tryz.prog 27 x) : ∃ l : List ByteArray, x = .sl (l.map .str) := by
  obtain ⟨xs, rfl, hx⟩ := HasTy.sl_inv Tryz.underlying27 h
  obtain ⟨l, rfl⟩ := list_of (f := D.str) xs fun y hy => HasTy.str_inv Tryz.underlying9 (hx y hy)
  exact ⟨l, rfl⟩
theorem ty_ints {x : D} (h : HasTy Tryz.prog 26 x) : ∃ l : List Int, x = .sl (iL l) := by
  obtain ⟨xs, rfl, hx⟩ := HasTy.sl_inv Tryz.underlying26 h
  obtain ⟨l, rfl⟩ := list_of (f := D.int) xs fun y hy => HasTy.int_inv Tryz.underlying3 (hx y hy)
  exact ⟨l, rfl⟩
theorem ty_intss {x : D} (h : HasTy Tryz.prog 23 x) : ∃ l : List (List Int), x = .sl (l.map intsD) := by
  obtain ⟨xs, rfl, hx⟩ := HasTy.sl_inv Tryz.underlying23 h
  obtain ⟨l, rfl⟩ := list_of (f := intsD) xs fun y hy => ty_ints (hx y hy)
  exact ⟨l, rfl⟩
theorem ty_CT {x : D} (h : HasTy Tryz.prog 56 x) : ∃ c, x = encCT c := by
  obtain ⟨parts, rfl, hl, hp⟩ := HasTy.struct_inv Tryz.underlying56 h
  match parts, hl with
  | [p0, p1], _ =>
    obtain ⟨s, rfl⟩ := HasTy.str_inv Tryz.underlying9 (hp 0 _ p0 rfl rfl)
    obtain ⟨n, rfl⟩ := HasTy.int_inv Tryz.underlying3 (hp 1 _ p1 rfl rfl)
    exact ⟨⟨s, n⟩, rfl⟩
theorem ty_CTs {x : D} (h : HasTy Tryz.prog 22 x) : ∃ l : List CT, x = .sl (l.map encCT) := by
  obtain ⟨xs, rfl, hx⟩ := HasTy.sl_inv Tryz.underlying22 h
  obtain ⟨l, rfl⟩ := list_of (f := encCT) xs fun y hy => ty_CT (hx y hy)
  exact ⟨l, rfl⟩
theorem ty_ST {x : D} (h : HasTy Tryz.prog 25 x) : ∃ s, x = encST s := by
  obtain ⟨parts, rfl, hl, hp⟩ := HasTy.struct_inv Tryz.underlying25 h
  match parts, hl with
  | [p0, p1, p2, p3, p4, p5], _ =>
    obtain ⟨n, rfl⟩ := HasTy.int_inv Tryz.underlying3 (hp 0 _ p0 rfl rfl)
    obtain ⟨e, rfl⟩ := HasTy.int_inv Tryz.underlying3 (hp 1 _ p1 rfl rfl)
    obtain ⟨lb, rfl⟩ := ty_CTs (hp 2 _ p2 rfl rfl)
    obtain ⟨ty, rfl⟩ := ty_CTs (hp 3 _ p3 rfl rfl)
    obtain ⟨o, rfl⟩ := ty_intss (hp 4 _ p4 rfl rfl)
    obtain ⟨i, rfl⟩ := ty_intss (hp 5 _ p5 rfl rfl)
    exact ⟨⟨n, e, lb, ty, o, i⟩, rfl⟩
theorem ty_AT {x : D} (h : HasTy Tryz.prog 32 x) : ∃ a, x = encAT a := by
  obtain ⟨parts, rfl, hl, hp⟩ := HasTy.struct_inv Tryz.underlying32 h
  match parts, hl with
  | [p0, p1, p2, p3, p4], _ =>
    obtain ⟨k, rfl⟩ := HasTy.int_inv Tryz.underlying3 (hp 0 _ p0 rfl rfl)
    obtain ⟨vs, rfl⟩ := ty_ints (hp 1 _ p1 rfl rfl)
    obtain ⟨s, rfl⟩ := HasTy.str_inv Tryz.underlying9 (hp 2 _ p2 rfl rfl)
    obtain ⟨ty, rfl⟩ := ty_strs (hp 3 _ p3 rfl rfl)
    obtain ⟨v, rfl⟩ := ty_val (hp 4 _ p4 rfl rfl)
    obtain ⟨vk, vn, vd, vs', vl⟩ := v
    exact ⟨⟨k, vs, s, ty, .mk vk vn vd vs' vl⟩, rfl⟩
theorem ty_ATs {x : D} (h : HasTy Tryz.prog 37 x) : ∃ l : List AT, x = .sl (l.map encAT) := by
  obtain ⟨xs, rfl, hx⟩ := HasTy.sl_inv Tryz.underlying37 h
  obtain ⟨l, rfl⟩ := list_of (f := encAT) xs fun y hy => ty_AT (hx y hy)
  exact ⟨l, rfl⟩
theorem ty_CJ {x : D} (h : HasTy Tryz.prog 39 x) : ∃ c, x = encCJ c := by
  obtain ⟨parts, rfl, hl, hp⟩ := HasTy.struct_inv Tryz.underlying39 h
  match parts, hl with
  | [p0, p1], _ =>
    obtain ⟨vs, rfl⟩ := ty_strs (hp 0 _ p0 rfl rfl)
    obtain ⟨ats, rfl⟩ := ty_ATs (hp 1 _ p1 rfl rfl)
    exact ⟨⟨vs, ats⟩, rfl⟩
/-- The types that the laws' arguments and the listed variable are made of. -/
def tys : List TypeId := [3, 9, 26, 23, 27, 22, 56, 25, 28, 30, 32, 37, 39, 116]
theorem tys_ok : closedB Tryz.prog tys = true := by kernel_rfl
/-- The rows' list of listed variables. -/
noncomputable def seatLaid : List (String × DataW Unit) := Rows.estimateAtomsRow.laid
theorem gi_of {W : World} (hL : laidMetH Tryz.prog seatLaid W) (hS : W.ShapedOpen Tryz.prog) : E.GI W (F0 W) := by
  rw [MakeChecks.laidMetH_plain _ _ _ (by kernel_rfl)] at hL
  obtain ⟨ps, hLV, -⟩ := hL
  refine ⟨fun e he => ?_, trivial, trivial⟩
  simp only [E, seatG, List.mem_singleton] at he
  subst he
  obtain ⟨x, hm, hs⟩ := listed_D tys tys_ok hLV "graphdb/frac.zero" Rows.laid_graphdb_frac_zero 0 116 (by simp [seatLaid, Rows.estimateAtomsRow]) (by kernel_rfl) (by kernel_rfl) (by decide)
  obtain ⟨parts, rfl, hl, hp⟩ := Says.agg_inv hs
  match parts, hl with
  | [p0, p1], _ =>
    have e0 := Says.int_inv (hp 0 _ p0 rfl rfl)
    have e1 := Says.int_inv (hp 1 _ p1 rfl rfl)
    subst e0 e1
    exact hm
/-- A world in which the listed variable is as listed. -/
noncomputable def wit (os : Os) : World := World.doorLaid Tryz.prog 400 os
set_option maxRecDepth 100000 in
theorem wit_met (os : Os) (args : Array Value) : laidMetH Tryz.prog seatLaid ((wit os).forCall (fun _ _ => 0) ⟨#[], args, []⟩).memory :=
  laidMetH_of_parts3 (fuel := 8) (laidMet_of_run' 8 (by kernel_rfl) (by kernel_rfl)) (by kernel_rfl) (by kernel_rfl)
set_option maxRecDepth 100000 in
theorem wit_shaped (os : Os) (args : Array Value) : ((wit os).forCall (fun _ _ => 0) ⟨#[], args, []⟩).Shaped Tryz.prog := World.shaped_of_RefB (by kernel_rfl) (by kernel_rfl)
theorem seat_own : ownKnob Tryz.prog.godebug = none := by kernel_rfl
theorem seat_out : laidOutB Tryz.prog = true := by kernel_rfl
end Go.Proofs.YtgkobddgjfgbbaaGreatDoor
