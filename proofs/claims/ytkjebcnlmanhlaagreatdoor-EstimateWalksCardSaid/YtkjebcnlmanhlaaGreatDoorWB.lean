/- The program's check of graphs; The program's check of graphs, walked; The statistics of a graph; The statistics of a graph, walked. Conditions: each part's own, as it says. -/
import Derived.Test.YtkjebcnlmanhlaaGreatDoorLD
import Derived.Test.YtkjebcnlmanhlaaGreatDoorWA
import Derived.Test.YtkjebcnlmanhlaaGreatDoorLB
import Derived.Test.YtkjebcnlmanhlaaGreatDoorGC
set_option linter.unusedVariables false
set_option linter.unusedSimpArgs false
/- The program's check of graphs. Conditions: none. -/
namespace Go.Proofs.YtkjebcnlmanhlaaGreatDoor
open Go Go.Abs Go.Val
attribute [local irreducible] go SGo HasBody Ev ExtEv EvO EvS PGo RGo

theorem inc_ev (l : List ByteArray) : Ev E 49 [.sl (l.map .str)] (.d (.bool (riseF l))) := Ev.fit fun hfit => by
  have hmax := (fit_map (hfit (.sl (l.map .str)) (by simp))).1
  have hle : (l.map D.str).length = l.length := by simp
  by_cases h0 : l = []
  · subst h0
    refine enter1 Tryz.func49 Tryz.ntmps49 rfl rfl fun w0 F0 O => ?_
    repeat' (first | refine zS rfl ?_ | refine qA ?_ | refine qB rfl ?_ | refine qC (by kernel_rfl) ?_ | refine qD ?_ | refine qE ?_ | refine qF ?_ | refine qG ?_ | refine qH rfl ?_ | refine zT rfl ?_ | refine zU rfl ?_ | refine qL rfl rfl ?_ | refine qM rfl rfl rfl ?_ | refine qO rfl rfl rfl ?_ | refine zX rfl rfl rfl rfl ?_ | refine zW rfl rfl rfl rfl ?_ | (refine qY rfl rfl rfl rfl ?_ ?_ <;> intro _) | exact zD | exact zL)
    refine go_loop_ (α := Unit) (fun p => ⟨[(0, .d (.sl [])), (3, .d (.int 1))], []⟩) (fun p => 0) () ((zle 0)) ?_
    rintro -
    have g1 : decide ((1 : Int) < (([] : List D).length : Int)) = false := rfl
    repeat' (first | refine zS rfl ?_ | refine qA ?_ | refine qB rfl ?_ | refine qC (by kernel_rfl) ?_ | refine qD ?_ | refine qE ?_ | refine qF ?_ | refine qG ?_ | refine qH rfl ?_ | refine zT rfl ?_ | refine zU rfl ?_ | refine qL rfl rfl ?_ | refine qM rfl rfl rfl ?_ | refine qO rfl rfl rfl ?_ | refine zX rfl rfl rfl rfl ?_ | refine zW rfl rfl rfl rfl ?_ | (refine qY rfl rfl rfl rfl ?_ ?_ <;> intro _) | exact zD | exact zL)
  have hp := List.length_pos_iff.2 h0
  refine enter1 Tryz.func49 Tryz.ntmps49 rfl rfl fun w0 F0 O => ?_
  repeat' (first | refine zS rfl ?_ | refine qA ?_ | refine qB rfl ?_ | refine qC (by kernel_rfl) ?_ | refine qD ?_ | refine qE ?_ | refine qF ?_ | refine qG ?_ | refine qH rfl ?_ | refine zT rfl ?_ | refine zU rfl ?_ | refine qL rfl rfl ?_ | refine qM rfl rfl rfl ?_ | refine qO rfl rfl rfl ?_ | refine zX rfl rfl rfl rfl ?_ | refine zW rfl rfl rfl rfl ?_ | (refine qY rfl rfl rfl rfl ?_ ?_ <;> intro _) | exact zD | exact zL)
  refine go_loop_ (α := SRs l) (fun p => ⟨[(0, .d (.sl (l.map .str))), (3, .d (.int ((p.i + 1 : Nat) : Int)))], []⟩) (fun p => l.length - p.i) ⟨0, by omega, rfl⟩ ((zle 0)) ?_
  rintro ⟨i, hi, ok⟩
  dsimp only
  rcases Nat.lt_or_ge (i + 1) l.length with hlt | hge
  · have g1 : decide (((i + 1 : Nat) : Int) < ((l.map D.str).length : Int)) = true := by rw [hle]; simp; omega
    have ha0 := List.getElem?_eq_getElem (show i < l.length by omega)
    have hb0 := List.getElem?_eq_getElem hlt
    generalize l[i] = a at ha0
    generalize l[i + 1] = b at hb0
    have hb := map_at (f := D.str) hb0
    have ha : (l.map D.str)[(((i + 1 : Nat) : Int) - 1).toNat]? = some (.str a) := by
      rw [show (((i + 1 : Nat) : Int) - 1) = (i : Int) by omega]; exact map_at (f := D.str) ha0
    have g2 := leq_not a b
    rw [ok, rise_at ha0 hb0]
    cases hc : Op.bytesLess a.toList b.toList with
    | true =>
      rw [hc] at g2
      repeat' (first | refine zS rfl ?_ | refine qA ?_ | refine qB rfl ?_ | refine qC (by kernel_rfl) ?_ | refine qD ?_ | refine qE ?_ | refine qF ?_ | refine qG ?_ | refine qH rfl ?_ | refine qI (.str b) rfl (guardX_ok rfl) rfl rfl rfl rfl rfl rfl (by first | omega | decide) hb ?_ | refine qI (.str a) rfl (guardX_ok rfl) rfl rfl rfl rfl rfl rfl (by first | omega | decide) ha ?_ | refine zT rfl ?_ | refine zU rfl ?_ | refine qL rfl rfl ?_ | refine qM rfl rfl rfl ?_ | refine qO rfl rfl rfl ?_ | refine zX rfl rfl rfl rfl ?_ | refine zW rfl rfl rfl rfl ?_ | (refine qY rfl rfl rfl rfl ?_ ?_ <;> intro _) | exact zD | exact zL)
      refine go_stop ?_
      exact ⟨⟨i + 1, hlt, by rw [ok, rise_at ha0 hb0, hc]; rfl⟩, by dsimp only; omega, (zle 0)⟩
    | false =>
      rw [hc] at g2
      repeat' (first | refine zS rfl ?_ | refine qA ?_ | refine qB rfl ?_ | refine qC (by kernel_rfl) ?_ | refine qD ?_ | refine qE ?_ | refine qF ?_ | refine qG ?_ | refine qH rfl ?_ | refine qI (.str b) rfl (guardX_ok rfl) rfl rfl rfl rfl rfl rfl (by first | omega | decide) hb ?_ | refine qI (.str a) rfl (guardX_ok rfl) rfl rfl rfl rfl rfl rfl (by first | omega | decide) ha ?_ | refine zT rfl ?_ | refine zU rfl ?_ | refine qL rfl rfl ?_ | refine qM rfl rfl rfl ?_ | refine qO rfl rfl rfl ?_ | refine zX rfl rfl rfl rfl ?_ | refine zW rfl rfl rfl rfl ?_ | (refine qY rfl rfl rfl rfl ?_ ?_ <;> intro _) | exact zD | exact zL)
  · have g1 : decide (((i + 1 : Nat) : Int) < ((l.map D.str).length : Int)) = false := by rw [hle]; simp; omega
    rw [ok, rise_end (by omega)]
    repeat' (first | refine zS rfl ?_ | refine qA ?_ | refine qB rfl ?_ | refine qC (by kernel_rfl) ?_ | refine qD ?_ | refine qE ?_ | refine qF ?_ | refine qG ?_ | refine qH rfl ?_ | refine zT rfl ?_ | refine zU rfl ?_ | refine qL rfl rfl ?_ | refine qM rfl rfl rfl ?_ | refine qO rfl rfl rfl ?_ | refine zX rfl rfl rfl rfl ?_ | refine zW rfl rfl rfl rfl ?_ | (refine qY rfl rfl rfl rfl ?_ ?_ <;> intro _) | exact zD | exact zL)
theorem unnamed_ev (s : ByteArray) : Ev E 48 [.str s] (.d (.bool (!nameF s))) := by
  have h := name_ev s
  refine enter1 Tryz.func48 Tryz.ntmps48 rfl rfl fun w0 F0 O => ?_
  repeat' (first | refine zS rfl ?_ | refine qA ?_ | refine qB rfl ?_ | refine qC (by kernel_rfl) ?_ | refine qD ?_ | refine qE ?_ | refine qF ?_ | refine qG ?_ | refine qH rfl ?_ | refine qP rfl rfl rfl rfl rfl rfl b25 (h) ?_ | refine zT rfl ?_ | refine zU rfl ?_ | refine qL rfl rfl ?_ | refine qM rfl rfl rfl ?_ | refine qO rfl rfl rfl ?_ | refine zX rfl rfl rfl rfl ?_ | refine zW rfl rfl rfl rfl ?_ | (refine qY rfl rfl rfl rfl ?_ ?_ <;> intro _) | exact zD | exact zL)
def keyL (l : List Pr) : List ByteArray := l.map Pr.key
def partF (labels : List ByteArray) (props : List Pr) : Int :=
  bif decide (labels.length > 8) || decide (props.length > 16) then 4 else
  bif (labels.any fun s => !nameF s) || ((keyL props).any fun s => !nameF s) then 6 else
  bif !riseF labels || !riseF (keyL props) then 26 else
  bif props.any fun p => !plainF p.v then 8 else 0
structure SKl (l : List Pr) where
  i : Nat
  hi : i ≤ l.length
structure SAn {α : Type} (l : List α) (f : α → Bool) where
  i : Nat
  hi : i ≤ l.length
  ok : l.any f = (l.drop i).any f
theorem anyW_at {α : Type} {l : List α} {f : α → Bool} {i : Nat} {x : α} (h : l[i]? = some x) : (l.drop i).any f = (f x || (l.drop (i + 1)).any f) := by rw [drop_at h, List.any_cons]
theorem keyL_next {l : List Pr} {i : Nat} {x : Pr} (h : l[i]? = some x) : (keyL (l.take (i + 1))).map D.str = (keyL (l.take i)).map D.str ++ [.str x.key] := by
  rw [List.take_add_one, h]
  simp [keyL]
set_option maxHeartbeats 2000000 in
theorem parts_ev (labels : List ByteArray) (props : List Pr) : Ev E 23 [.sl (labels.map .str), .sl (props.map encPr)] (.d (.int (partF labels props))) := by
  have hl1 : (labels.map D.str).length = labels.length := by simp
  have hl2 : (props.map encPr).length = props.length := by simp
  have e1 : decide (((labels.map D.str).length : Int) > 8) = decide (labels.length > 8) := by rw [hl1, decide_eq_decide]; omega
  have e2 : decide (((props.map encPr).length : Int) > 16) = decide (props.length > 16) := by rw [hl2, decide_eq_decide]; omega
  have h1 := containsFuncS_ev 48 b48 (fun s => !nameF s) labels fun x _ => unnamed_ev x
  have h2 := containsFuncS_ev 48 b48 (fun s => !nameF s) (keyL props) fun x _ => unnamed_ev x
  have h3 := inc_ev labels
  have h4 := inc_ev (keyL props)
  unfold partF
  rw [← e1, ← e2]
  cases c1 : decide (((labels.map D.str).length : Int) > 8) with
  | true =>
    refine enter2 Tryz.func23 Tryz.ntmps23 rfl rfl fun w0 F0 O => ?_
    repeat' (first | refine zS rfl ?_ | refine qA ?_ | refine qB rfl ?_ | refine qC (by kernel_rfl) ?_ | refine qD ?_ | refine qE ?_ | refine qF ?_ | refine qG ?_ | refine qH rfl ?_ | refine zT rfl ?_ | refine zU rfl ?_ | refine qL rfl rfl ?_ | refine qM rfl rfl rfl ?_ | refine qO rfl rfl rfl ?_ | refine zX rfl rfl rfl rfl ?_ | refine zW rfl rfl rfl rfl ?_ | (refine qY rfl rfl rfl rfl ?_ ?_ <;> intro _) | exact zD | exact zL)
  | false =>
  cases c2 : decide (((props.map encPr).length : Int) > 16) with
  | true =>
    refine enter2 Tryz.func23 Tryz.ntmps23 rfl rfl fun w0 F0 O => ?_
    repeat' (first | refine zS rfl ?_ | refine qA ?_ | refine qB rfl ?_ | refine qC (by kernel_rfl) ?_ | refine qD ?_ | refine qE ?_ | refine qF ?_ | refine qG ?_ | refine qH rfl ?_ | refine zT rfl ?_ | refine zU rfl ?_ | refine qL rfl rfl ?_ | refine qM rfl rfl rfl ?_ | refine qO rfl rfl rfl ?_ | refine zX rfl rfl rfl rfl ?_ | refine zW rfl rfl rfl rfl ?_ | (refine qY rfl rfl rfl rfl ?_ ?_ <;> intro _) | exact zD | exact zL)
  | false =>
  have hpl : props.length ≤ 16 := by have := of_decide_eq_false c2; omega
  simp only [Bool.or_false, cond_false]
  refine enter2 Tryz.func23 Tryz.ntmps23 rfl rfl fun w0 F0 O => ?_
  repeat' (first | refine zS rfl ?_ | refine qA ?_ | refine qB rfl ?_ | refine qC (by kernel_rfl) ?_ | refine qD ?_ | refine qE ?_ | refine qF ?_ | refine qG ?_ | refine qH rfl ?_ | refine zT rfl ?_ | refine zU rfl ?_ | refine qL rfl rfl ?_ | refine qM rfl rfl rfl ?_ | refine qO rfl rfl rfl ?_ | refine zX rfl rfl rfl rfl ?_ | refine zW rfl rfl rfl rfl ?_ | (refine qY rfl rfl rfl rfl ?_ ?_ <;> intro _) | exact zD | exact zL)
  refine go_loop_ (α := SKl props) (fun p => ⟨[(5, rowK 0 ((keyL (props.take p.i)).map .str)), (0, .d (.sl (labels.map .str))), (1, .d (.sl (props.map encPr))), (18, .d (.sl (props.map encPr))), (19, .d (.int (props.map encPr).length)), (20, .d (.int p.i))], rowO 9 1 ((keyL (props.take p.i)).map .str)⟩) (fun p => props.length - p.i) ⟨0, by omega⟩ ((zle 0)) ?_
  rintro ⟨i, hi⟩
  dsimp only
  have hol : ((keyL (props.take i)).map D.str).length ≤ 1000000 := by simp [keyL]; omega
  rcases Nat.lt_or_ge i props.length with hlt | hge
  · have g1 : decide ((i : Int) < ((props.map encPr).length : Int)) = true := by rw [hl2]; simpa using hlt
    have hx0 := List.getElem?_eq_getElem hlt
    generalize props[i] = x at hx0
    have hx := map_at (f := encPr) hx0
    have hnx := keyL_next hx0
    generalize (keyL (props.take i)).map D.str = o at *
    match o, hol with
    | [], hol =>
      dsimp only [rowK, rowO]
      repeat' (first | refine zS rfl ?_ | refine qA ?_ | refine qB rfl ?_ | refine qC (by kernel_rfl) ?_ | refine qD ?_ | refine qE ?_ | refine qF ?_ | refine qG ?_ | refine qH rfl ?_ | refine qI (encPr x) rfl (guardX_ok rfl) rfl rfl rfl rfl rfl rfl (by first | omega | decide) hx ?_ | (refine qS rfl ⟨by simp, fun d hd => by (obtain rfl := List.mem_singleton.1 hd; rfl), by (show (0 + 1) * 16 ≤ 140737488355328; omega), by (show 0 + 1 ≤ 9223372036854775807; omega)⟩ ?_) | refine zT rfl ?_ | refine zU rfl ?_ | refine qL rfl rfl ?_ | refine qM rfl rfl rfl ?_ | refine qO rfl rfl rfl ?_ | refine zX rfl rfl rfl rfl ?_ | refine zW rfl rfl rfl rfl ?_ | (refine qY rfl rfl rfl rfl ?_ ?_ <;> intro _) | exact zD | exact zL)
      refine go_stop ?_
      refine ⟨⟨i + 1, by omega⟩, by dsimp only; omega, ?_⟩
      dsimp only
      rw [hnx]
      exact (zren [1])
    | a :: q, hol =>
      dsimp only [rowK, rowO]
      repeat' (first | refine zS rfl ?_ | refine qA ?_ | refine qB rfl ?_ | refine qC (by kernel_rfl) ?_ | refine qD ?_ | refine qE ?_ | refine qF ?_ | refine qG ?_ | refine qH rfl ?_ | refine qI (encPr x) rfl (guardX_ok rfl) rfl rfl rfl rfl rfl rfl (by first | omega | decide) hx ?_ | (refine qS rfl ⟨by simp, fun d hd => by (obtain rfl := List.mem_singleton.1 hd; rfl), by (show ((a :: q).length + 1) * 16 ≤ 140737488355328; omega), by (show (a :: q).length + 1 ≤ 9223372036854775807; omega)⟩ ?_) | refine zT rfl ?_ | refine zU rfl ?_ | refine qL rfl rfl ?_ | refine qM rfl rfl rfl ?_ | refine qO rfl rfl rfl ?_ | refine zX rfl rfl rfl rfl ?_ | refine zW rfl rfl rfl rfl ?_ | (refine qY rfl rfl rfl rfl ?_ ?_ <;> intro _) | exact zD | exact zL)
      refine go_stop ?_
      refine ⟨⟨i + 1, by omega⟩, by dsimp only; omega, ?_⟩
      dsimp only
      rw [hnx]
      exact (zren [2])
  · have g1 : decide ((i : Int) < ((props.map encPr).length : Int)) = false := by rw [hl2]; simp; omega
    rw [List.take_of_length_le hge]
    refine qA ?_
    refine go_rowD (ob := []) rfl rfl (by repeat (first | exact trivial | refine ⟨rfl, ?_⟩)) (by repeat (first | exact trivial | refine ⟨rfl, ?_⟩)) ?_
    cases a1 : labels.any fun s => !nameF s with
    | true =>
      rw [a1] at h1
      repeat' (first | refine zS rfl ?_ | refine qA ?_ | refine qB rfl ?_ | refine qC (by kernel_rfl) ?_ | refine qD ?_ | refine qE ?_ | refine qF ?_ | refine qG ?_ | refine qH rfl ?_ | refine qP rfl rfl rfl rfl rfl rfl b47 (h1) ?_ | refine zT rfl ?_ | refine zU rfl ?_ | refine qL rfl rfl ?_ | refine qM rfl rfl rfl ?_ | refine qO rfl rfl rfl ?_ | refine zX rfl rfl rfl rfl ?_ | refine zW rfl rfl rfl rfl ?_ | (refine qY rfl rfl rfl rfl ?_ ?_ <;> intro _) | exact zD | exact zL)
    | false =>
    cases a2 : (keyL props).any fun s => !nameF s with
    | true =>
      rw [a1] at h1
      rw [a2] at h2
      repeat' (first | refine zS rfl ?_ | refine qA ?_ | refine qB rfl ?_ | refine qC (by kernel_rfl) ?_ | refine qD ?_ | refine qE ?_ | refine qF ?_ | refine qG ?_ | refine qH rfl ?_ | refine qP rfl rfl rfl rfl rfl rfl b47 (h1) ?_ | refine qP rfl rfl rfl rfl rfl rfl b47 (h2) ?_ | refine zT rfl ?_ | refine zU rfl ?_ | refine qL rfl rfl ?_ | refine qM rfl rfl rfl ?_ | refine qO rfl rfl rfl ?_ | refine zX rfl rfl rfl rfl ?_ | refine zW rfl rfl rfl rfl ?_ | (refine qY rfl rfl rfl rfl ?_ ?_ <;> intro _) | exact zD | exact zL)
    | false =>
    cases a3 : riseF labels with
    | false =>
      rw [a1] at h1
      rw [a2] at h2
      rw [a3] at h3
      repeat' (first | refine zS rfl ?_ | refine qA ?_ | refine qB rfl ?_ | refine qC (by kernel_rfl) ?_ | refine qD ?_ | refine qE ?_ | refine qF ?_ | refine qG ?_ | refine qH rfl ?_ | refine qP rfl rfl rfl rfl rfl rfl b47 (h1) ?_ | refine qP rfl rfl rfl rfl rfl rfl b47 (h2) ?_ | refine qP rfl rfl rfl rfl rfl rfl b49 (h3) ?_ | refine zT rfl ?_ | refine zU rfl ?_ | refine qL rfl rfl ?_ | refine qM rfl rfl rfl ?_ | refine qO rfl rfl rfl ?_ | refine zX rfl rfl rfl rfl ?_ | refine zW rfl rfl rfl rfl ?_ | (refine qY rfl rfl rfl rfl ?_ ?_ <;> intro _) | exact zD | exact zL)
    | true =>
    cases a4 : riseF (keyL props) with
    | false =>
      rw [a1] at h1
      rw [a2] at h2
      rw [a3] at h3
      rw [a4] at h4
      repeat' (first | refine zS rfl ?_ | refine qA ?_ | refine qB rfl ?_ | refine qC (by kernel_rfl) ?_ | refine qD ?_ | refine qE ?_ | refine qF ?_ | refine qG ?_ | refine qH rfl ?_ | refine qP rfl rfl rfl rfl rfl rfl b47 (h1) ?_ | refine qP rfl rfl rfl rfl rfl rfl b47 (h2) ?_ | refine qP rfl rfl rfl rfl rfl rfl b49 (h3) ?_ | refine qP rfl rfl rfl rfl rfl rfl b49 (h4) ?_ | refine zT rfl ?_ | refine zU rfl ?_ | refine qL rfl rfl ?_ | refine qM rfl rfl rfl ?_ | refine qO rfl rfl rfl ?_ | refine zX rfl rfl rfl rfl ?_ | refine zW rfl rfl rfl rfl ?_ | (refine qY rfl rfl rfl rfl ?_ ?_ <;> intro _) | exact zD | exact zL)
    | true =>
      rw [a1] at h1
      rw [a2] at h2
      rw [a3] at h3
      rw [a4] at h4
      simp only [Bool.or_false, Bool.not_true, cond_false]
      repeat' (first | refine zS rfl ?_ | refine qA ?_ | refine qB rfl ?_ | refine qC (by kernel_rfl) ?_ | refine qD ?_ | refine qE ?_ | refine qF ?_ | refine qG ?_ | refine qH rfl ?_ | refine qP rfl rfl rfl rfl rfl rfl b47 (h1) ?_ | refine qP rfl rfl rfl rfl rfl rfl b47 (h2) ?_ | refine qP rfl rfl rfl rfl rfl rfl b49 (h3) ?_ | refine qP rfl rfl rfl rfl rfl rfl b49 (h4) ?_ | refine zT rfl ?_ | refine zU rfl ?_ | refine qL rfl rfl ?_ | refine qM rfl rfl rfl ?_ | refine qO rfl rfl rfl ?_ | refine zX rfl rfl rfl rfl ?_ | refine zW rfl rfl rfl rfl ?_ | (refine qY rfl rfl rfl rfl ?_ ?_ <;> intro _) | exact zD | exact zL)
      refine go_loop_ (α := SAn props fun p => !plainF p.v) (fun p => ⟨[(44, .d (.sl (props.map encPr))), (45, .d (.int (props.map encPr).length)), (46, .d (.int p.i))], []⟩) (fun p => props.length - p.i) ⟨0, by omega, rfl⟩ ((zle 0)) ?_
      rintro ⟨j, hj, ok⟩
      dsimp only
      rcases Nat.lt_or_ge j props.length with hlt | hge2
      · have g1 : decide ((j : Int) < ((props.map encPr).length : Int)) = true := by rw [hl2]; simpa using hlt
        have hx0 := List.getElem?_eq_getElem hlt
        generalize props[j] = x at hx0
        obtain ⟨xk, ⟨vk, vn, vd, vS, vl⟩⟩ := x
        have hx := map_at (f := encPr) hx0
        have h5 := Plain_ev ixOK (.mk vk vn vd vS vl)
        rw [ok, anyW_at hx0]
        cases a5 : plainF (.mk vk vn vd vS vl) with
        | false =>
          rw [a5] at h5
          repeat' (first | refine zS rfl ?_ | refine qA ?_ | refine qB rfl ?_ | refine qC (by kernel_rfl) ?_ | refine qD ?_ | refine qE ?_ | refine qF ?_ | refine qG ?_ | refine qH rfl ?_ | refine qI _ rfl (guardX_ok rfl) rfl rfl rfl rfl rfl rfl (by first | omega | decide) hx ?_ | refine qP rfl rfl rfl rfl rfl rfl b50 (h5) ?_ | refine zT rfl ?_ | refine zU rfl ?_ | refine qL rfl rfl ?_ | refine qM rfl rfl rfl ?_ | refine qO rfl rfl rfl ?_ | refine zX rfl rfl rfl rfl ?_ | refine zW rfl rfl rfl rfl ?_ | (refine qY rfl rfl rfl rfl ?_ ?_ <;> intro _) | exact zD | exact zL)
        | true =>
          rw [a5] at h5
          repeat' (first | refine zS rfl ?_ | refine qA ?_ | refine qB rfl ?_ | refine qC (by kernel_rfl) ?_ | refine qD ?_ | refine qE ?_ | refine qF ?_ | refine qG ?_ | refine qH rfl ?_ | refine qI _ rfl (guardX_ok rfl) rfl rfl rfl rfl rfl rfl (by first | omega | decide) hx ?_ | refine qP rfl rfl rfl rfl rfl rfl b50 (h5) ?_ | refine zT rfl ?_ | refine zU rfl ?_ | refine qL rfl rfl ?_ | refine qM rfl rfl rfl ?_ | refine qO rfl rfl rfl ?_ | refine zX rfl rfl rfl rfl ?_ | refine zW rfl rfl rfl rfl ?_ | (refine qY rfl rfl rfl rfl ?_ ?_ <;> intro _) | exact zD | exact zL)
          refine go_stop ?_
          exact ⟨⟨j + 1, by omega, by rw [ok, anyW_at hx0, a5]; rfl⟩, by dsimp only; omega, (zle 0)⟩
      · have g1 : decide ((j : Int) < ((props.map encPr).length : Int)) = false := by rw [hl2]; simp; omega
        rw [ok, List.drop_eq_nil_of_le hge2]
        repeat' (first | refine zS rfl ?_ | refine qA ?_ | refine qB rfl ?_ | refine qC (by kernel_rfl) ?_ | refine qD ?_ | refine qE ?_ | refine qF ?_ | refine qG ?_ | refine qH rfl ?_ | refine zT rfl ?_ | refine zU rfl ?_ | refine qL rfl rfl ?_ | refine qM rfl rfl rfl ?_ | refine qO rfl rfl rfl ?_ | refine zX rfl rfl rfl rfl ?_ | refine zW rfl rfl rfl rfl ?_ | (refine qY rfl rfl rfl rfl ?_ ?_ <;> intro _) | exact zD | exact zL)
/-- The error of a node behind another, or 0. -/
def okNd (prev : Option Int) (nn : Int) (n : Nd) : Int :=
  bif (match prev with | some p => decide (n.id ≤ p) | none => false) then 26 else
  bif decide (n.id < 1) || decide (n.id ≥ nn) then 1 else partF n.labels n.props
def nodesC (nn : Int) : Option Int → List Nd → Int
  | _, [] => 0
  | prev, n :: r => bif okNd prev nn n != 0 then okNd prev nn n else nodesC nn (some n.id) r
def okEd (prev : Option Int) (g : Gr) (e : Ed) : Int :=
  bif (match prev with | some p => decide (e.id ≤ p) | none => false) then 26 else
  bif decide (e.id < 1) || decide (e.id ≥ g.ne) then 1 else
  bif !hasI g.nodes e.src || !hasI g.nodes e.dst then 10 else
  bif !nameF e.ty then 6 else partF [] e.props
def edgesC (g : Gr) : Option Int → List Ed → Int
  | _, [] => 0
  | prev, e :: r => bif okEd prev g e != 0 then okEd prev g e else edgesC g (some e.id) r
def chkG (g : Gr) : Int :=
  bif decide (g.nodes.length > 2000) || decide (g.edges.length > 4000) then 4 else
  bif decide (g.nn < 1) || decide (g.nn > 1000001) || (decide (g.ne < 1) || decide (g.ne > 1000001)) then 1 else
  bif nodesC g.nn none g.nodes != 0 then nodesC g.nn none g.nodes else edgesC g none g.edges
def prevN (l : List Nd) : Nat → Option Int
  | 0 => none
  | j + 1 => (l[j]?).map Nd.id
def prevE (l : List Ed) : Nat → Option Int
  | 0 => none
  | j + 1 => (l[j]?).map Ed.id
structure SCk (g : Gr) (R : Int) where
  i : Nat
  hi : i ≤ g.nodes.length
  ok : R = nodesC g.nn (prevN g.nodes i) (g.nodes.drop i)
structure SCe (g : Gr) (R : Int) where
  i : Nat
  hi : i ≤ g.edges.length
  ok : R = edgesC g (prevE g.edges i) (g.edges.drop i)
theorem nodesC_at {l : List Nd} {i : Nat} {n : Nd} {nn : Int} (h : l[i]? = some n) : nodesC nn (prevN l i) (l.drop i) = bif okNd (prevN l i) nn n != 0 then okNd (prevN l i) nn n else nodesC nn (prevN l (i + 1)) (l.drop (i + 1)) := by
  rw [drop_at h, nodesC, prevN, h]; rfl
theorem edgesC_at {g : Gr} {i : Nat} {e : Ed} (h : g.edges[i]? = some e) : edgesC g (prevE g.edges i) (g.edges.drop i) = bif okEd (prevE g.edges i) g e != 0 then okEd (prevE g.edges i) g e else edgesC g (prevE g.edges (i + 1)) (g.edges.drop (i + 1)) := by
  rw [drop_at h, edgesC, prevE, h]; rfl
end Go.Proofs.YtkjebcnlmanhlaaGreatDoor

/- The program's check of graphs, walked. Conditions: none. -/
namespace Go.Proofs.YtkjebcnlmanhlaaGreatDoor
open Go Go.Abs Go.Val
attribute [local irreducible] go SGo HasBody Ev ExtEv EvO EvS PGo RGo
set_option maxRecDepth 20000 in
set_option maxHeartbeats 8000000 in
theorem gcheck_ev (g : Gr) : Ev E 9 [encGr g] (.d (.int (chkG g))) := by
  have hnn : (g.nodes.map encNd).length = g.nodes.length := by simp
  have hen : (g.edges.map encEd).length = g.edges.length := by simp
  have e1 : decide (((g.nodes.map encNd).length : Int) > 2000) = decide (g.nodes.length > 2000) := by rw [hnn, decide_eq_decide]; omega
  have e2 : decide (((g.edges.map encEd).length : Int) > 4000) = decide (g.edges.length > 4000) := by rw [hen, decide_eq_decide]; omega
  unfold chkG
  rw [← e1, ← e2]
  refine enter1 Tryz.func9 Tryz.ntmps9 rfl rfl fun w0 F0 O => ?_
  repeat' (first | refine zS rfl ?_ | refine qA ?_ | refine qB rfl ?_ | refine qC (by kernel_rfl) ?_ | refine qD ?_ | refine qE ?_ | refine qF ?_ | refine qG ?_ | refine qH rfl ?_ | refine zT rfl ?_ | refine zU rfl ?_ | refine qL rfl rfl ?_ | refine qM rfl rfl rfl ?_ | refine qO rfl rfl rfl ?_ | refine zX rfl rfl rfl rfl ?_ | refine zW rfl rfl rfl rfl ?_ | exact zD | exact zL)
  cases c1 : decide (((g.nodes.map encNd).length : Int) > 2000) with
  | true =>
    repeat' (first | refine zS rfl ?_ | refine qA ?_ | refine qB rfl ?_ | refine qC (by kernel_rfl) ?_ | refine qD ?_ | refine qE ?_ | refine qF ?_ | refine qG ?_ | refine qH rfl ?_ | refine zT rfl ?_ | refine zU rfl ?_ | refine qL rfl rfl ?_ | refine qM rfl rfl rfl ?_ | refine qO rfl rfl rfl ?_ | refine zX rfl rfl rfl rfl ?_ | refine zW rfl rfl rfl rfl ?_ | (refine qY rfl rfl rfl rfl ?_ ?_ <;> intro _) | exact zD | exact zL)
  | false =>
  repeat' (first | refine zS rfl ?_ | refine qA ?_ | refine qB rfl ?_ | refine qC (by kernel_rfl) ?_ | refine qD ?_ | refine qE ?_ | refine qF ?_ | refine qG ?_ | refine qH rfl ?_ | refine zT rfl ?_ | refine zU rfl ?_ | refine qL rfl rfl ?_ | refine qM rfl rfl rfl ?_ | refine qO rfl rfl rfl ?_ | refine zX rfl rfl rfl rfl ?_ | refine zW rfl rfl rfl rfl ?_ | exact zD | exact zL)
  cases c2 : decide (((g.edges.map encEd).length : Int) > 4000) with
  | true =>
    repeat' (first | refine zS rfl ?_ | refine qA ?_ | refine qB rfl ?_ | refine qC (by kernel_rfl) ?_ | refine qD ?_ | refine qE ?_ | refine qF ?_ | refine qG ?_ | refine qH rfl ?_ | refine zT rfl ?_ | refine zU rfl ?_ | refine qL rfl rfl ?_ | refine qM rfl rfl rfl ?_ | refine qO rfl rfl rfl ?_ | refine zX rfl rfl rfl rfl ?_ | refine zW rfl rfl rfl rfl ?_ | (refine qY rfl rfl rfl rfl ?_ ?_ <;> intro _) | exact zD | exact zL)
  | false =>
  repeat' (first | refine zS rfl ?_ | refine qA ?_ | refine qB rfl ?_ | refine qC (by kernel_rfl) ?_ | refine qD ?_ | refine qE ?_ | refine qF ?_ | refine qG ?_ | refine qH rfl ?_ | refine zT rfl ?_ | refine zU rfl ?_ | refine qL rfl rfl ?_ | refine qM rfl rfl rfl ?_ | refine qO rfl rfl rfl ?_ | refine zX rfl rfl rfl rfl ?_ | refine zW rfl rfl rfl rfl ?_ | exact zD | exact zL)
  cases c3 : decide (g.nn < 1) with
  | true =>
    repeat' (first | refine zS rfl ?_ | refine qA ?_ | refine qB rfl ?_ | refine qC (by kernel_rfl) ?_ | refine qD ?_ | refine qE ?_ | refine qF ?_ | refine qG ?_ | refine qH rfl ?_ | refine zT rfl ?_ | refine zU rfl ?_ | refine qL rfl rfl ?_ | refine qM rfl rfl rfl ?_ | refine qO rfl rfl rfl ?_ | refine zX rfl rfl rfl rfl ?_ | refine zW rfl rfl rfl rfl ?_ | (refine qY rfl rfl rfl rfl ?_ ?_ <;> intro _) | exact zD | exact zL)
  | false =>
  repeat' (first | refine zS rfl ?_ | refine qA ?_ | refine qB rfl ?_ | refine qC (by kernel_rfl) ?_ | refine qD ?_ | refine qE ?_ | refine qF ?_ | refine qG ?_ | refine qH rfl ?_ | refine zT rfl ?_ | refine zU rfl ?_ | refine qL rfl rfl ?_ | refine qM rfl rfl rfl ?_ | refine qO rfl rfl rfl ?_ | refine zX rfl rfl rfl rfl ?_ | refine zW rfl rfl rfl rfl ?_ | exact zD | exact zL)
  cases c4 : decide (g.nn > 1000001) with
  | true =>
    repeat' (first | refine zS rfl ?_ | refine qA ?_ | refine qB rfl ?_ | refine qC (by kernel_rfl) ?_ | refine qD ?_ | refine qE ?_ | refine qF ?_ | refine qG ?_ | refine qH rfl ?_ | refine zT rfl ?_ | refine zU rfl ?_ | refine qL rfl rfl ?_ | refine qM rfl rfl rfl ?_ | refine qO rfl rfl rfl ?_ | refine zX rfl rfl rfl rfl ?_ | refine zW rfl rfl rfl rfl ?_ | (refine qY rfl rfl rfl rfl ?_ ?_ <;> intro _) | exact zD | exact zL)
  | false =>
  repeat' (first | refine zS rfl ?_ | refine qA ?_ | refine qB rfl ?_ | refine qC (by kernel_rfl) ?_ | refine qD ?_ | refine qE ?_ | refine qF ?_ | refine qG ?_ | refine qH rfl ?_ | refine zT rfl ?_ | refine zU rfl ?_ | refine qL rfl rfl ?_ | refine qM rfl rfl rfl ?_ | refine qO rfl rfl rfl ?_ | refine zX rfl rfl rfl rfl ?_ | refine zW rfl rfl rfl rfl ?_ | exact zD | exact zL)
  cases c5 : decide (g.ne < 1) with
  | true =>
    repeat' (first | refine zS rfl ?_ | refine qA ?_ | refine qB rfl ?_ | refine qC (by kernel_rfl) ?_ | refine qD ?_ | refine qE ?_ | refine qF ?_ | refine qG ?_ | refine qH rfl ?_ | refine zT rfl ?_ | refine zU rfl ?_ | refine qL rfl rfl ?_ | refine qM rfl rfl rfl ?_ | refine qO rfl rfl rfl ?_ | refine zX rfl rfl rfl rfl ?_ | refine zW rfl rfl rfl rfl ?_ | (refine qY rfl rfl rfl rfl ?_ ?_ <;> intro _) | exact zD | exact zL)
  | false =>
  repeat' (first | refine zS rfl ?_ | refine qA ?_ | refine qB rfl ?_ | refine qC (by kernel_rfl) ?_ | refine qD ?_ | refine qE ?_ | refine qF ?_ | refine qG ?_ | refine qH rfl ?_ | refine zT rfl ?_ | refine zU rfl ?_ | refine qL rfl rfl ?_ | refine qM rfl rfl rfl ?_ | refine qO rfl rfl rfl ?_ | refine zX rfl rfl rfl rfl ?_ | refine zW rfl rfl rfl rfl ?_ | exact zD | exact zL)
  cases c6 : decide (g.ne > 1000001) with
  | true =>
    repeat' (first | refine zS rfl ?_ | refine qA ?_ | refine qB rfl ?_ | refine qC (by kernel_rfl) ?_ | refine qD ?_ | refine qE ?_ | refine qF ?_ | refine qG ?_ | refine qH rfl ?_ | refine zT rfl ?_ | refine zU rfl ?_ | refine qL rfl rfl ?_ | refine qM rfl rfl rfl ?_ | refine qO rfl rfl rfl ?_ | refine zX rfl rfl rfl rfl ?_ | refine zW rfl rfl rfl rfl ?_ | (refine qY rfl rfl rfl rfl ?_ ?_ <;> intro _) | exact zD | exact zL)
  | false =>
  repeat' (first | refine zS rfl ?_ | refine qA ?_ | refine qB rfl ?_ | refine qC (by kernel_rfl) ?_ | refine qD ?_ | refine qE ?_ | refine qF ?_ | refine qG ?_ | refine qH rfl ?_ | refine zT rfl ?_ | refine zU rfl ?_ | refine qL rfl rfl ?_ | refine qM rfl rfl rfl ?_ | refine qO rfl rfl rfl ?_ | refine zX rfl rfl rfl rfl ?_ | refine zW rfl rfl rfl rfl ?_ | exact zD | exact zL)
  have hn2 : g.nodes.length ≤ 2000 := by have := of_decide_eq_false c1; omega
  have he2 : g.edges.length ≤ 4000 := by have := of_decide_eq_false c2; omega
  simp only [Bool.or_false, cond_false]
  generalize hR : nodesC g.nn none g.nodes = R
  refine go_loop_ (α := SCk g R) (fun p => ⟨[(1, .ptr 0 0), (38, .d (.sl (g.nodes.map encNd))), (39, .d (.int (g.nodes.map encNd).length)), (40, .d (.int p.i))], [oGr g]⟩) (fun p => g.nodes.length - p.i) ⟨0, by omega, hR.symm⟩ ((zle 1)) ?_
  rintro ⟨i, hi, ok⟩
  dsimp only
  rcases Nat.lt_or_ge i g.nodes.length with hlt | hge
  · have g1 : decide ((i : Int) < ((g.nodes.map encNd).length : Int)) = true := by rw [hnn]; simpa using hlt
    have hx0 := List.getElem?_eq_getElem hlt
    generalize g.nodes[i] = n at hx0
    have hx := map_at (f := encNd) hx0
    have hp := parts_ev n.labels n.props
    rw [nodesC_at hx0] at ok
    cases i with
    | zero =>
      have g2 : decide (((0 : Nat) : Int) > 0) = false := rfl
      simp only [okNd, prevN, cond_false] at ok
      repeat' (first | refine zS rfl ?_ | refine qA ?_ | refine qB rfl ?_ | refine qC (by kernel_rfl) ?_ | refine qD ?_ | refine qE ?_ | refine qF ?_ | refine qG ?_ | refine qH rfl ?_ | refine qI (encNd n) rfl (guardX_ok rfl) rfl rfl rfl rfl rfl rfl (by first | omega | decide) hx ?_ | refine zT rfl ?_ | refine zU rfl ?_ | refine qL rfl rfl ?_ | refine qM rfl rfl rfl ?_ | refine qO rfl rfl rfl ?_ | refine zX rfl rfl rfl rfl ?_ | refine zW rfl rfl rfl rfl ?_ | exact zD | exact zL)
      cases c7 : decide (n.id < 1) with
      | true =>
        rw [c7] at ok
        rw [show R = 1 from ok]
        repeat' (first | refine zS rfl ?_ | refine qA ?_ | refine qB rfl ?_ | refine qC (by kernel_rfl) ?_ | refine qD ?_ | refine qE ?_ | refine qF ?_ | refine qG ?_ | refine qH rfl ?_ | refine zT rfl ?_ | refine zU rfl ?_ | refine qL rfl rfl ?_ | refine qM rfl rfl rfl ?_ | refine qO rfl rfl rfl ?_ | refine zX rfl rfl rfl rfl ?_ | refine zW rfl rfl rfl rfl ?_ | (refine qY rfl rfl rfl rfl ?_ ?_ <;> intro _) | exact zD | exact zL)
      | false =>
      repeat' (first | refine zS rfl ?_ | refine qA ?_ | refine qB rfl ?_ | refine qC (by kernel_rfl) ?_ | refine qD ?_ | refine qE ?_ | refine qF ?_ | refine qG ?_ | refine qH rfl ?_ | refine zT rfl ?_ | refine zU rfl ?_ | refine qL rfl rfl ?_ | refine qM rfl rfl rfl ?_ | refine qO rfl rfl rfl ?_ | refine zX rfl rfl rfl rfl ?_ | refine zW rfl rfl rfl rfl ?_ | exact zD | exact zL)
      cases c8 : decide (n.id ≥ g.nn) with
      | true =>
        rw [c7, c8] at ok
        rw [show R = 1 from ok]
        repeat' (first | refine zS rfl ?_ | refine qA ?_ | refine qB rfl ?_ | refine qC (by kernel_rfl) ?_ | refine qD ?_ | refine qE ?_ | refine qF ?_ | refine qG ?_ | refine qH rfl ?_ | refine zT rfl ?_ | refine zU rfl ?_ | refine qL rfl rfl ?_ | refine qM rfl rfl rfl ?_ | refine qO rfl rfl rfl ?_ | refine zX rfl rfl rfl rfl ?_ | refine zW rfl rfl rfl rfl ?_ | (refine qY rfl rfl rfl rfl ?_ ?_ <;> intro _) | exact zD | exact zL)
      | false =>
      rw [c7, c8] at ok
      simp only [Bool.or_false, cond_false] at ok
      generalize partF n.labels n.props = P at hp ok
      repeat' (first | refine zS rfl ?_ | refine qA ?_ | refine qB rfl ?_ | refine qC (by kernel_rfl) ?_ | refine qD ?_ | refine qE ?_ | refine qF ?_ | refine qG ?_ | refine qH rfl ?_ | refine qP rfl rfl rfl rfl rfl rfl b23 (hp) ?_ | refine zT rfl ?_ | refine zU rfl ?_ | refine qL rfl rfl ?_ | refine qM rfl rfl rfl ?_ | refine qO rfl rfl rfl ?_ | refine zX rfl rfl rfl rfl ?_ | refine zW rfl rfl rfl rfl ?_ | exact zD | exact zL)
      cases c9 : P != 0 with
      | true =>
        rw [c9, cond_true] at ok
        rw [ok, c9, cond_true]
        repeat' (first | refine zS rfl ?_ | refine qA ?_ | refine qB rfl ?_ | refine qC (by kernel_rfl) ?_ | refine qD ?_ | refine qE ?_ | refine qF ?_ | refine qG ?_ | refine qH rfl ?_ | refine zT rfl ?_ | refine zU rfl ?_ | refine qL rfl rfl ?_ | refine qM rfl rfl rfl ?_ | refine qO rfl rfl rfl ?_ | refine zX rfl rfl rfl rfl ?_ | refine zW rfl rfl rfl rfl ?_ | (refine qY rfl rfl rfl rfl ?_ ?_ <;> intro _) | exact zD | exact zL)
      | false =>
        rw [c9, cond_false] at ok
        repeat' (first | refine zS rfl ?_ | refine qA ?_ | refine qB rfl ?_ | refine qC (by kernel_rfl) ?_ | refine qD ?_ | refine qE ?_ | refine qF ?_ | refine qG ?_ | refine qH rfl ?_ | refine zT rfl ?_ | refine zU rfl ?_ | refine qL rfl rfl ?_ | refine qM rfl rfl rfl ?_ | refine qO rfl rfl rfl ?_ | refine zX rfl rfl rfl rfl ?_ | refine zW rfl rfl rfl rfl ?_ | (refine qY rfl rfl rfl rfl ?_ ?_ <;> intro _) | exact zD | exact zL)
        refine go_stop ?_
        exact ⟨⟨0 + 1, by omega, ok⟩, by dsimp only; omega, (zle 1)⟩
    | succ j =>
      have g2 : decide (((j + 1 : Nat) : Int) > 0) = true := decide_eq_true (by omega)
      obtain ⟨p, hy0⟩ : ∃ p, g.nodes[j]? = some p := ⟨_, List.getElem?_eq_getElem (by omega)⟩
      have hy : (g.nodes.map encNd)[(((j + 1 : Nat) : Int) - 1).toNat]? = some (encNd p) := by
        rw [show (((j + 1 : Nat) : Int) - 1) = (j : Int) by omega]; exact map_at (f := encNd) hy0
      have hpv : prevN g.nodes (j + 1) = some p.id := by rw [prevN, hy0]; rfl
      rw [hpv] at ok
      simp only [okNd] at ok
      repeat' (first | refine zS rfl ?_ | refine qA ?_ | refine qB rfl ?_ | refine qC (by kernel_rfl) ?_ | refine qD ?_ | refine qE ?_ | refine qF ?_ | refine qG ?_ | refine qH rfl ?_ | refine qI (encNd n) rfl (guardX_ok rfl) rfl rfl rfl rfl rfl rfl (by first | omega | decide) hx ?_ | refine qI (encNd p) rfl (guardX_ok rfl) rfl rfl rfl rfl rfl rfl (by first | omega | decide) hy ?_ | refine zT rfl ?_ | refine zU rfl ?_ | refine qL rfl rfl ?_ | refine qM rfl rfl rfl ?_ | refine qO rfl rfl rfl ?_ | refine zX rfl rfl rfl rfl ?_ | refine zW rfl rfl rfl rfl ?_ | exact zD | exact zL)
      cases c0 : decide (n.id ≤ p.id) with
      | true =>
        rw [c0] at ok
        rw [show R = 26 from ok]
        repeat' (first | refine zS rfl ?_ | refine qA ?_ | refine qB rfl ?_ | refine qC (by kernel_rfl) ?_ | refine qD ?_ | refine qE ?_ | refine qF ?_ | refine qG ?_ | refine qH rfl ?_ | refine zT rfl ?_ | refine zU rfl ?_ | refine qL rfl rfl ?_ | refine qM rfl rfl rfl ?_ | refine qO rfl rfl rfl ?_ | refine zX rfl rfl rfl rfl ?_ | refine zW rfl rfl rfl rfl ?_ | (refine qY rfl rfl rfl rfl ?_ ?_ <;> intro _) | exact zD | exact zL)
      | false =>
      rw [c0, cond_false] at ok
      repeat' (first | refine zS rfl ?_ | refine qA ?_ | refine qB rfl ?_ | refine qC (by kernel_rfl) ?_ | refine qD ?_ | refine qE ?_ | refine qF ?_ | refine qG ?_ | refine qH rfl ?_ | refine zT rfl ?_ | refine zU rfl ?_ | refine qL rfl rfl ?_ | refine qM rfl rfl rfl ?_ | refine qO rfl rfl rfl ?_ | refine zX rfl rfl rfl rfl ?_ | refine zW rfl rfl rfl rfl ?_ | exact zD | exact zL)
      cases c7 : decide (n.id < 1) with
      | true =>
        rw [c7] at ok
        rw [show R = 1 from ok]
        repeat' (first | refine zS rfl ?_ | refine qA ?_ | refine qB rfl ?_ | refine qC (by kernel_rfl) ?_ | refine qD ?_ | refine qE ?_ | refine qF ?_ | refine qG ?_ | refine qH rfl ?_ | refine zT rfl ?_ | refine zU rfl ?_ | refine qL rfl rfl ?_ | refine qM rfl rfl rfl ?_ | refine qO rfl rfl rfl ?_ | refine zX rfl rfl rfl rfl ?_ | refine zW rfl rfl rfl rfl ?_ | (refine qY rfl rfl rfl rfl ?_ ?_ <;> intro _) | exact zD | exact zL)
      | false =>
      repeat' (first | refine zS rfl ?_ | refine qA ?_ | refine qB rfl ?_ | refine qC (by kernel_rfl) ?_ | refine qD ?_ | refine qE ?_ | refine qF ?_ | refine qG ?_ | refine qH rfl ?_ | refine zT rfl ?_ | refine zU rfl ?_ | refine qL rfl rfl ?_ | refine qM rfl rfl rfl ?_ | refine qO rfl rfl rfl ?_ | refine zX rfl rfl rfl rfl ?_ | refine zW rfl rfl rfl rfl ?_ | exact zD | exact zL)
      cases c8 : decide (n.id ≥ g.nn) with
      | true =>
        rw [c7, c8] at ok
        rw [show R = 1 from ok]
        repeat' (first | refine zS rfl ?_ | refine qA ?_ | refine qB rfl ?_ | refine qC (by kernel_rfl) ?_ | refine qD ?_ | refine qE ?_ | refine qF ?_ | refine qG ?_ | refine qH rfl ?_ | refine zT rfl ?_ | refine zU rfl ?_ | refine qL rfl rfl ?_ | refine qM rfl rfl rfl ?_ | refine qO rfl rfl rfl ?_ | refine zX rfl rfl rfl rfl ?_ | refine zW rfl rfl rfl rfl ?_ | (refine qY rfl rfl rfl rfl ?_ ?_ <;> intro _) | exact zD | exact zL)
      | false =>
      rw [c7, c8] at ok
      simp only [Bool.or_false, cond_false] at ok
      generalize partF n.labels n.props = P at hp ok
      repeat' (first | refine zS rfl ?_ | refine qA ?_ | refine qB rfl ?_ | refine qC (by kernel_rfl) ?_ | refine qD ?_ | refine qE ?_ | refine qF ?_ | refine qG ?_ | refine qH rfl ?_ | refine qP rfl rfl rfl rfl rfl rfl b23 (hp) ?_ | refine zT rfl ?_ | refine zU rfl ?_ | refine qL rfl rfl ?_ | refine qM rfl rfl rfl ?_ | refine qO rfl rfl rfl ?_ | refine zX rfl rfl rfl rfl ?_ | refine zW rfl rfl rfl rfl ?_ | exact zD | exact zL)
      cases c9 : P != 0 with
      | true =>
        rw [c9, cond_true] at ok
        rw [ok, c9, cond_true]
        repeat' (first | refine zS rfl ?_ | refine qA ?_ | refine qB rfl ?_ | refine qC (by kernel_rfl) ?_ | refine qD ?_ | refine qE ?_ | refine qF ?_ | refine qG ?_ | refine qH rfl ?_ | refine zT rfl ?_ | refine zU rfl ?_ | refine qL rfl rfl ?_ | refine qM rfl rfl rfl ?_ | refine qO rfl rfl rfl ?_ | refine zX rfl rfl rfl rfl ?_ | refine zW rfl rfl rfl rfl ?_ | (refine qY rfl rfl rfl rfl ?_ ?_ <;> intro _) | exact zD | exact zL)
      | false =>
        rw [c9, cond_false] at ok
        repeat' (first | refine zS rfl ?_ | refine qA ?_ | refine qB rfl ?_ | refine qC (by kernel_rfl) ?_ | refine qD ?_ | refine qE ?_ | refine qF ?_ | refine qG ?_ | refine qH rfl ?_ | refine zT rfl ?_ | refine zU rfl ?_ | refine qL rfl rfl ?_ | refine qM rfl rfl rfl ?_ | refine qO rfl rfl rfl ?_ | refine zX rfl rfl rfl rfl ?_ | refine zW rfl rfl rfl rfl ?_ | (refine qY rfl rfl rfl rfl ?_ ?_ <;> intro _) | exact zD | exact zL)
        refine go_stop ?_
        exact ⟨⟨j + 1 + 1, by omega, ok⟩, by dsimp only; omega, (zle 1)⟩
  · have g1 : decide ((i : Int) < ((g.nodes.map encNd).length : Int)) = false := by rw [hnn]; simp; omega
    rw [List.drop_eq_nil_of_le hge] at ok
    rw [show R = 0 from ok]
    simp only [bne_self_eq_false, cond_false]
    generalize hR2 : edgesC g none g.edges = R2
    repeat' (first | refine zS rfl ?_ | refine qA ?_ | refine qB rfl ?_ | refine qC (by kernel_rfl) ?_ | refine qD ?_ | refine qE ?_ | refine qF ?_ | refine qG ?_ | refine qH rfl ?_ | refine zT rfl ?_ | refine zU rfl ?_ | refine qL rfl rfl ?_ | refine qM rfl rfl rfl ?_ | refine qO rfl rfl rfl ?_ | refine zX rfl rfl rfl rfl ?_ | refine zW rfl rfl rfl rfl ?_ | (refine qY rfl rfl rfl rfl ?_ ?_ <;> intro _) | exact zD | exact zL)
    refine go_loop_ (α := SCe g R2) (fun p => ⟨[(1, .ptr 0 0), (79, .d (.sl (g.edges.map encEd))), (80, .d (.int (g.edges.map encEd).length)), (81, .d (.int p.i))], [oGr g]⟩) (fun p => g.edges.length - p.i) ⟨0, by omega, hR2.symm⟩ ((zle 1)) ?_
    rintro ⟨k, hk, ok2⟩
    dsimp only
    rcases Nat.lt_or_ge k g.edges.length with hlt | hge2
    · have g1 : decide ((k : Int) < ((g.edges.map encEd).length : Int)) = true := by rw [hen]; simpa using hlt
      have hx0 := List.getElem?_eq_getElem hlt
      generalize g.edges[k] = e at hx0
      have hx := map_at (f := encEd) hx0
      have hp := parts_ev [] e.props
      have h1 := ghas_ev g.nodes e.src (by omega)
      have h2 := ghas_ev g.nodes e.dst (by omega)
      have h3 := name_ev e.ty
      rw [edgesC_at hx0] at ok2
      cases k with
      | zero =>
        have g2 : decide (((0 : Nat) : Int) > 0) = false := rfl
        simp only [okEd, prevE, cond_false] at ok2
        repeat' (first | refine zS rfl ?_ | refine qA ?_ | refine qB rfl ?_ | refine qC (by kernel_rfl) ?_ | refine qD ?_ | refine qE ?_ | refine qF ?_ | refine qG ?_ | refine qH rfl ?_ | refine qI (encEd e) rfl (guardX_ok rfl) rfl rfl rfl rfl rfl rfl (by first | omega | decide) hx ?_ | refine zT rfl ?_ | refine zU rfl ?_ | refine qL rfl rfl ?_ | refine qM rfl rfl rfl ?_ | refine qO rfl rfl rfl ?_ | refine zX rfl rfl rfl rfl ?_ | refine zW rfl rfl rfl rfl ?_ | exact zD | exact zL)
        cases c7 : decide (e.id < 1) with
        | true =>
          rw [c7] at ok2
          rw [show R2 = 1 from ok2]
          repeat' (first | refine zS rfl ?_ | refine qA ?_ | refine qB rfl ?_ | refine qC (by kernel_rfl) ?_ | refine qD ?_ | refine qE ?_ | refine qF ?_ | refine qG ?_ | refine qH rfl ?_ | refine zT rfl ?_ | refine zU rfl ?_ | refine qL rfl rfl ?_ | refine qM rfl rfl rfl ?_ | refine qO rfl rfl rfl ?_ | refine zX rfl rfl rfl rfl ?_ | refine zW rfl rfl rfl rfl ?_ | (refine qY rfl rfl rfl rfl ?_ ?_ <;> intro _) | exact zD | exact zL)
        | false =>
        repeat' (first | refine zS rfl ?_ | refine qA ?_ | refine qB rfl ?_ | refine qC (by kernel_rfl) ?_ | refine qD ?_ | refine qE ?_ | refine qF ?_ | refine qG ?_ | refine qH rfl ?_ | refine zT rfl ?_ | refine zU rfl ?_ | refine qL rfl rfl ?_ | refine qM rfl rfl rfl ?_ | refine qO rfl rfl rfl ?_ | refine zX rfl rfl rfl rfl ?_ | refine zW rfl rfl rfl rfl ?_ | exact zD | exact zL)
        cases c8 : decide (e.id ≥ g.ne) with
        | true =>
          rw [c7, c8] at ok2
          rw [show R2 = 1 from ok2]
          repeat' (first | refine zS rfl ?_ | refine qA ?_ | refine qB rfl ?_ | refine qC (by kernel_rfl) ?_ | refine qD ?_ | refine qE ?_ | refine qF ?_ | refine qG ?_ | refine qH rfl ?_ | refine zT rfl ?_ | refine zU rfl ?_ | refine qL rfl rfl ?_ | refine qM rfl rfl rfl ?_ | refine qO rfl rfl rfl ?_ | refine zX rfl rfl rfl rfl ?_ | refine zW rfl rfl rfl rfl ?_ | (refine qY rfl rfl rfl rfl ?_ ?_ <;> intro _) | exact zD | exact zL)
        | false =>
        rw [c7, c8] at ok2
        simp only [Bool.or_false, cond_false] at ok2
        repeat' (first | refine zS rfl ?_ | refine qA ?_ | refine qB rfl ?_ | refine qC (by kernel_rfl) ?_ | refine qD ?_ | refine qE ?_ | refine qF ?_ | refine qG ?_ | refine qH rfl ?_ | refine qP rfl rfl rfl rfl rfl rfl b24 (h1) ?_ | refine zT rfl ?_ | refine zU rfl ?_ | refine qL rfl rfl ?_ | refine qM rfl rfl rfl ?_ | refine qO rfl rfl rfl ?_ | refine zX rfl rfl rfl rfl ?_ | refine zW rfl rfl rfl rfl ?_ | exact zD | exact zL)
        cases d1 : hasI g.nodes e.src with
        | false =>
          rw [d1] at ok2
          rw [show R2 = 10 from ok2]
          repeat' (first | refine zS rfl ?_ | refine qA ?_ | refine qB rfl ?_ | refine qC (by kernel_rfl) ?_ | refine qD ?_ | refine qE ?_ | refine qF ?_ | refine qG ?_ | refine qH rfl ?_ | refine zT rfl ?_ | refine zU rfl ?_ | refine qL rfl rfl ?_ | refine qM rfl rfl rfl ?_ | refine qO rfl rfl rfl ?_ | refine zX rfl rfl rfl rfl ?_ | refine zW rfl rfl rfl rfl ?_ | (refine qY rfl rfl rfl rfl ?_ ?_ <;> intro _) | exact zD | exact zL)
        | true =>
        repeat' (first | refine zS rfl ?_ | refine qA ?_ | refine qB rfl ?_ | refine qC (by kernel_rfl) ?_ | refine qD ?_ | refine qE ?_ | refine qF ?_ | refine qG ?_ | refine qH rfl ?_ | refine qP rfl rfl rfl rfl rfl rfl b24 (h2) ?_ | refine zT rfl ?_ | refine zU rfl ?_ | refine qL rfl rfl ?_ | refine qM rfl rfl rfl ?_ | refine qO rfl rfl rfl ?_ | refine zX rfl rfl rfl rfl ?_ | refine zW rfl rfl rfl rfl ?_ | exact zD | exact zL)
        cases d2 : hasI g.nodes e.dst with
        | false =>
          rw [d1, d2] at ok2
          rw [show R2 = 10 from ok2]
          repeat' (first | refine zS rfl ?_ | refine qA ?_ | refine qB rfl ?_ | refine qC (by kernel_rfl) ?_ | refine qD ?_ | refine qE ?_ | refine qF ?_ | refine qG ?_ | refine qH rfl ?_ | refine zT rfl ?_ | refine zU rfl ?_ | refine qL rfl rfl ?_ | refine qM rfl rfl rfl ?_ | refine qO rfl rfl rfl ?_ | refine zX rfl rfl rfl rfl ?_ | refine zW rfl rfl rfl rfl ?_ | (refine qY rfl rfl rfl rfl ?_ ?_ <;> intro _) | exact zD | exact zL)
        | true =>
        rw [d1, d2] at ok2
        simp only [Bool.not_true, Bool.or_false, cond_false] at ok2
        repeat' (first | refine zS rfl ?_ | refine qA ?_ | refine qB rfl ?_ | refine qC (by kernel_rfl) ?_ | refine qD ?_ | refine qE ?_ | refine qF ?_ | refine qG ?_ | refine qH rfl ?_ | refine qP rfl rfl rfl rfl rfl rfl b25 (h3) ?_ | refine zT rfl ?_ | refine zU rfl ?_ | refine qL rfl rfl ?_ | refine qM rfl rfl rfl ?_ | refine qO rfl rfl rfl ?_ | refine zX rfl rfl rfl rfl ?_ | refine zW rfl rfl rfl rfl ?_ | exact zD | exact zL)
        cases d3 : nameF e.ty with
        | false =>
          rw [d3] at ok2
          rw [show R2 = 6 from ok2]
          repeat' (first | refine zS rfl ?_ | refine qA ?_ | refine qB rfl ?_ | refine qC (by kernel_rfl) ?_ | refine qD ?_ | refine qE ?_ | refine qF ?_ | refine qG ?_ | refine qH rfl ?_ | refine zT rfl ?_ | refine zU rfl ?_ | refine qL rfl rfl ?_ | refine qM rfl rfl rfl ?_ | refine qO rfl rfl rfl ?_ | refine zX rfl rfl rfl rfl ?_ | refine zW rfl rfl rfl rfl ?_ | (refine qY rfl rfl rfl rfl ?_ ?_ <;> intro _) | exact zD | exact zL)
        | true =>
        rw [d3] at ok2
        simp only [Bool.not_true, cond_false] at ok2
        generalize partF [] e.props = P at hp ok2
        repeat' (first | refine zS rfl ?_ | refine qA ?_ | refine qB rfl ?_ | refine qC (by kernel_rfl) ?_ | refine qD ?_ | refine qE ?_ | refine qF ?_ | refine qG ?_ | refine qH rfl ?_ | refine qP rfl rfl rfl rfl rfl rfl b23 (hp) ?_ | refine zT rfl ?_ | refine zU rfl ?_ | refine qL rfl rfl ?_ | refine qM rfl rfl rfl ?_ | refine qO rfl rfl rfl ?_ | refine zX rfl rfl rfl rfl ?_ | refine zW rfl rfl rfl rfl ?_ | exact zD | exact zL)
        cases c9 : P != 0 with
        | true =>
          rw [c9, cond_true] at ok2
          rw [ok2]
          repeat' (first | refine zS rfl ?_ | refine qA ?_ | refine qB rfl ?_ | refine qC (by kernel_rfl) ?_ | refine qD ?_ | refine qE ?_ | refine qF ?_ | refine qG ?_ | refine qH rfl ?_ | refine zT rfl ?_ | refine zU rfl ?_ | refine qL rfl rfl ?_ | refine qM rfl rfl rfl ?_ | refine qO rfl rfl rfl ?_ | refine zX rfl rfl rfl rfl ?_ | refine zW rfl rfl rfl rfl ?_ | (refine qY rfl rfl rfl rfl ?_ ?_ <;> intro _) | exact zD | exact zL)
        | false =>
          rw [c9, cond_false] at ok2
          repeat' (first | refine zS rfl ?_ | refine qA ?_ | refine qB rfl ?_ | refine qC (by kernel_rfl) ?_ | refine qD ?_ | refine qE ?_ | refine qF ?_ | refine qG ?_ | refine qH rfl ?_ | refine zT rfl ?_ | refine zU rfl ?_ | refine qL rfl rfl ?_ | refine qM rfl rfl rfl ?_ | refine qO rfl rfl rfl ?_ | refine zX rfl rfl rfl rfl ?_ | refine zW rfl rfl rfl rfl ?_ | (refine qY rfl rfl rfl rfl ?_ ?_ <;> intro _) | exact zD | exact zL)
          refine go_stop ?_
          exact ⟨⟨0 + 1, by omega, ok2⟩, by dsimp only; omega, (zle 1)⟩
      | succ j =>
        have g2 : decide (((j + 1 : Nat) : Int) > 0) = true := decide_eq_true (by omega)
        obtain ⟨p, hy0⟩ : ∃ p, g.edges[j]? = some p := ⟨_, List.getElem?_eq_getElem (by omega)⟩
        have hy : (g.edges.map encEd)[(((j + 1 : Nat) : Int) - 1).toNat]? = some (encEd p) := by
          rw [show (((j + 1 : Nat) : Int) - 1) = (j : Int) by omega]; exact map_at (f := encEd) hy0
        have hpv : prevE g.edges (j + 1) = some p.id := by rw [prevE, hy0]; rfl
        rw [hpv] at ok2
        simp only [okEd] at ok2
        repeat' (first | refine zS rfl ?_ | refine qA ?_ | refine qB rfl ?_ | refine qC (by kernel_rfl) ?_ | refine qD ?_ | refine qE ?_ | refine qF ?_ | refine qG ?_ | refine qH rfl ?_ | refine qI (encEd e) rfl (guardX_ok rfl) rfl rfl rfl rfl rfl rfl (by first | omega | decide) hx ?_ | refine qI (encEd p) rfl (guardX_ok rfl) rfl rfl rfl rfl rfl rfl (by first | omega | decide) hy ?_ | refine zT rfl ?_ | refine zU rfl ?_ | refine qL rfl rfl ?_ | refine qM rfl rfl rfl ?_ | refine qO rfl rfl rfl ?_ | refine zX rfl rfl rfl rfl ?_ | refine zW rfl rfl rfl rfl ?_ | exact zD | exact zL)
        cases c0 : decide (e.id ≤ p.id) with
        | true =>
          rw [c0] at ok2
          rw [show R2 = 26 from ok2]
          repeat' (first | refine zS rfl ?_ | refine qA ?_ | refine qB rfl ?_ | refine qC (by kernel_rfl) ?_ | refine qD ?_ | refine qE ?_ | refine qF ?_ | refine qG ?_ | refine qH rfl ?_ | refine zT rfl ?_ | refine zU rfl ?_ | refine qL rfl rfl ?_ | refine qM rfl rfl rfl ?_ | refine qO rfl rfl rfl ?_ | refine zX rfl rfl rfl rfl ?_ | refine zW rfl rfl rfl rfl ?_ | (refine qY rfl rfl rfl rfl ?_ ?_ <;> intro _) | exact zD | exact zL)
        | false =>
        rw [c0, cond_false] at ok2
        repeat' (first | refine zS rfl ?_ | refine qA ?_ | refine qB rfl ?_ | refine qC (by kernel_rfl) ?_ | refine qD ?_ | refine qE ?_ | refine qF ?_ | refine qG ?_ | refine qH rfl ?_ | refine zT rfl ?_ | refine zU rfl ?_ | refine qL rfl rfl ?_ | refine qM rfl rfl rfl ?_ | refine qO rfl rfl rfl ?_ | refine zX rfl rfl rfl rfl ?_ | refine zW rfl rfl rfl rfl ?_ | exact zD | exact zL)
        cases c7 : decide (e.id < 1) with
        | true =>
          rw [c7] at ok2
          rw [show R2 = 1 from ok2]
          repeat' (first | refine zS rfl ?_ | refine qA ?_ | refine qB rfl ?_ | refine qC (by kernel_rfl) ?_ | refine qD ?_ | refine qE ?_ | refine qF ?_ | refine qG ?_ | refine qH rfl ?_ | refine zT rfl ?_ | refine zU rfl ?_ | refine qL rfl rfl ?_ | refine qM rfl rfl rfl ?_ | refine qO rfl rfl rfl ?_ | refine zX rfl rfl rfl rfl ?_ | refine zW rfl rfl rfl rfl ?_ | (refine qY rfl rfl rfl rfl ?_ ?_ <;> intro _) | exact zD | exact zL)
        | false =>
        repeat' (first | refine zS rfl ?_ | refine qA ?_ | refine qB rfl ?_ | refine qC (by kernel_rfl) ?_ | refine qD ?_ | refine qE ?_ | refine qF ?_ | refine qG ?_ | refine qH rfl ?_ | refine zT rfl ?_ | refine zU rfl ?_ | refine qL rfl rfl ?_ | refine qM rfl rfl rfl ?_ | refine qO rfl rfl rfl ?_ | refine zX rfl rfl rfl rfl ?_ | refine zW rfl rfl rfl rfl ?_ | exact zD | exact zL)
        cases c8 : decide (e.id ≥ g.ne) with
        | true =>
          rw [c7, c8] at ok2
          rw [show R2 = 1 from ok2]
          repeat' (first | refine zS rfl ?_ | refine qA ?_ | refine qB rfl ?_ | refine qC (by kernel_rfl) ?_ | refine qD ?_ | refine qE ?_ | refine qF ?_ | refine qG ?_ | refine qH rfl ?_ | refine zT rfl ?_ | refine zU rfl ?_ | refine qL rfl rfl ?_ | refine qM rfl rfl rfl ?_ | refine qO rfl rfl rfl ?_ | refine zX rfl rfl rfl rfl ?_ | refine zW rfl rfl rfl rfl ?_ | (refine qY rfl rfl rfl rfl ?_ ?_ <;> intro _) | exact zD | exact zL)
        | false =>
        rw [c7, c8] at ok2
        simp only [Bool.or_false, cond_false] at ok2
        repeat' (first | refine zS rfl ?_ | refine qA ?_ | refine qB rfl ?_ | refine qC (by kernel_rfl) ?_ | refine qD ?_ | refine qE ?_ | refine qF ?_ | refine qG ?_ | refine qH rfl ?_ | refine qP rfl rfl rfl rfl rfl rfl b24 (h1) ?_ | refine zT rfl ?_ | refine zU rfl ?_ | refine qL rfl rfl ?_ | refine qM rfl rfl rfl ?_ | refine qO rfl rfl rfl ?_ | refine zX rfl rfl rfl rfl ?_ | refine zW rfl rfl rfl rfl ?_ | exact zD | exact zL)
        cases d1 : hasI g.nodes e.src with
        | false =>
          rw [d1] at ok2
          rw [show R2 = 10 from ok2]
          repeat' (first | refine zS rfl ?_ | refine qA ?_ | refine qB rfl ?_ | refine qC (by kernel_rfl) ?_ | refine qD ?_ | refine qE ?_ | refine qF ?_ | refine qG ?_ | refine qH rfl ?_ | refine zT rfl ?_ | refine zU rfl ?_ | refine qL rfl rfl ?_ | refine qM rfl rfl rfl ?_ | refine qO rfl rfl rfl ?_ | refine zX rfl rfl rfl rfl ?_ | refine zW rfl rfl rfl rfl ?_ | (refine qY rfl rfl rfl rfl ?_ ?_ <;> intro _) | exact zD | exact zL)
        | true =>
        repeat' (first | refine zS rfl ?_ | refine qA ?_ | refine qB rfl ?_ | refine qC (by kernel_rfl) ?_ | refine qD ?_ | refine qE ?_ | refine qF ?_ | refine qG ?_ | refine qH rfl ?_ | refine qP rfl rfl rfl rfl rfl rfl b24 (h2) ?_ | refine zT rfl ?_ | refine zU rfl ?_ | refine qL rfl rfl ?_ | refine qM rfl rfl rfl ?_ | refine qO rfl rfl rfl ?_ | refine zX rfl rfl rfl rfl ?_ | refine zW rfl rfl rfl rfl ?_ | exact zD | exact zL)
        cases d2 : hasI g.nodes e.dst with
        | false =>
          rw [d1, d2] at ok2
          rw [show R2 = 10 from ok2]
          repeat' (first | refine zS rfl ?_ | refine qA ?_ | refine qB rfl ?_ | refine qC (by kernel_rfl) ?_ | refine qD ?_ | refine qE ?_ | refine qF ?_ | refine qG ?_ | refine qH rfl ?_ | refine zT rfl ?_ | refine zU rfl ?_ | refine qL rfl rfl ?_ | refine qM rfl rfl rfl ?_ | refine qO rfl rfl rfl ?_ | refine zX rfl rfl rfl rfl ?_ | refine zW rfl rfl rfl rfl ?_ | (refine qY rfl rfl rfl rfl ?_ ?_ <;> intro _) | exact zD | exact zL)
        | true =>
        rw [d1, d2] at ok2
        simp only [Bool.not_true, Bool.or_false, cond_false] at ok2
        repeat' (first | refine zS rfl ?_ | refine qA ?_ | refine qB rfl ?_ | refine qC (by kernel_rfl) ?_ | refine qD ?_ | refine qE ?_ | refine qF ?_ | refine qG ?_ | refine qH rfl ?_ | refine qP rfl rfl rfl rfl rfl rfl b25 (h3) ?_ | refine zT rfl ?_ | refine zU rfl ?_ | refine qL rfl rfl ?_ | refine qM rfl rfl rfl ?_ | refine qO rfl rfl rfl ?_ | refine zX rfl rfl rfl rfl ?_ | refine zW rfl rfl rfl rfl ?_ | exact zD | exact zL)
        cases d3 : nameF e.ty with
        | false =>
          rw [d3] at ok2
          rw [show R2 = 6 from ok2]
          repeat' (first | refine zS rfl ?_ | refine qA ?_ | refine qB rfl ?_ | refine qC (by kernel_rfl) ?_ | refine qD ?_ | refine qE ?_ | refine qF ?_ | refine qG ?_ | refine qH rfl ?_ | refine zT rfl ?_ | refine zU rfl ?_ | refine qL rfl rfl ?_ | refine qM rfl rfl rfl ?_ | refine qO rfl rfl rfl ?_ | refine zX rfl rfl rfl rfl ?_ | refine zW rfl rfl rfl rfl ?_ | (refine qY rfl rfl rfl rfl ?_ ?_ <;> intro _) | exact zD | exact zL)
        | true =>
        rw [d3] at ok2
        simp only [Bool.not_true, cond_false] at ok2
        generalize partF [] e.props = P at hp ok2
        repeat' (first | refine zS rfl ?_ | refine qA ?_ | refine qB rfl ?_ | refine qC (by kernel_rfl) ?_ | refine qD ?_ | refine qE ?_ | refine qF ?_ | refine qG ?_ | refine qH rfl ?_ | refine qP rfl rfl rfl rfl rfl rfl b23 (hp) ?_ | refine zT rfl ?_ | refine zU rfl ?_ | refine qL rfl rfl ?_ | refine qM rfl rfl rfl ?_ | refine qO rfl rfl rfl ?_ | refine zX rfl rfl rfl rfl ?_ | refine zW rfl rfl rfl rfl ?_ | exact zD | exact zL)
        cases c9 : P != 0 with
        | true =>
          rw [c9, cond_true] at ok2
          rw [ok2]
          repeat' (first | refine zS rfl ?_ | refine qA ?_ | refine qB rfl ?_ | refine qC (by kernel_rfl) ?_ | refine qD ?_ | refine qE ?_ | refine qF ?_ | refine qG ?_ | refine qH rfl ?_ | refine zT rfl ?_ | refine zU rfl ?_ | refine qL rfl rfl ?_ | refine qM rfl rfl rfl ?_ | refine qO rfl rfl rfl ?_ | refine zX rfl rfl rfl rfl ?_ | refine zW rfl rfl rfl rfl ?_ | (refine qY rfl rfl rfl rfl ?_ ?_ <;> intro _) | exact zD | exact zL)
        | false =>
          rw [c9, cond_false] at ok2
          repeat' (first | refine zS rfl ?_ | refine qA ?_ | refine qB rfl ?_ | refine qC (by kernel_rfl) ?_ | refine qD ?_ | refine qE ?_ | refine qF ?_ | refine qG ?_ | refine qH rfl ?_ | refine zT rfl ?_ | refine zU rfl ?_ | refine qL rfl rfl ?_ | refine qM rfl rfl rfl ?_ | refine qO rfl rfl rfl ?_ | refine zX rfl rfl rfl rfl ?_ | refine zW rfl rfl rfl rfl ?_ | (refine qY rfl rfl rfl rfl ?_ ?_ <;> intro _) | exact zD | exact zL)
          refine go_stop ?_
          exact ⟨⟨j + 1 + 1, by omega, ok2⟩, by dsimp only; omega, (zle 1)⟩
    · have g1 : decide ((k : Int) < ((g.edges.map encEd).length : Int)) = false := by rw [hen]; simp; omega
      rw [List.drop_eq_nil_of_le hge2] at ok2
      rw [show R2 = 0 from ok2]
      repeat' (first | refine zS rfl ?_ | refine qA ?_ | refine qB rfl ?_ | refine qC (by kernel_rfl) ?_ | refine qD ?_ | refine qE ?_ | refine qF ?_ | refine qG ?_ | refine qH rfl ?_ | refine zT rfl ?_ | refine zU rfl ?_ | refine qL rfl rfl ?_ | refine qM rfl rfl rfl ?_ | refine qO rfl rfl rfl ?_ | refine zX rfl rfl rfl rfl ?_ | refine zW rfl rfl rfl rfl ?_ | (refine qY rfl rfl rfl rfl ?_ ?_ <;> intro _) | exact zD | exact zL)
end Go.Proofs.YtkjebcnlmanhlaaGreatDoor

/- The statistics of a graph. Conditions: none. -/
namespace Go.Proofs.YtkjebcnlmanhlaaGreatDoor
open Go Go.Abs Go.Val Go.RowKit
attribute [local irreducible] go SGo HasBody Ev ExtEv EvO EvS PGo RGo

/-- A slice field that is nil. -/
abbrev NZ : X := .d (.imm (.slice none 0 0))
def fZ (k : Nat) : List D → X
  | [] => NZ
  | _ :: _ => .own k
def fZO (t : TypeId) (sz : Nat) : List D → AObj
  | [] => .dead
  | x :: r => .row t sz (x :: r)
abbrev svO (cs : List X) : AObj := .var 30 (.cs cs)
abbrev ctO (L : List D) : AObj := fZO 51 2 L
abbrev inO (L : List D) : AObj := fZO 35 1 L
abbrev rsO : AObj := svO [.d (.int 0), .d (.int 0), .nilS, .nilS, .nilS, .nilS]
theorem fZ_below (k n : Nat) (L : List D) (h : Nat.blt k n = true) : (fZ k L).below n = true := by
  cases L with
  | nil => rfl
  | cons x r => simpa [fZ, X.below] using h
theorem fZO_below (t : TypeId) (sz n : Nat) (L : List D) : (fZO t sz L).below n = true := by
  cases L <;> rfl
theorem sv_below {n : Nat} {a b x y z u : X} (ha : a.below n = true) (hb : b.below n = true) (hx : x.below n = true) (hy : y.below n = true) (hz : z.below n = true) (hu : u.below n = true) : (svO [a, b, x, y, z, u]).below n = true := by
  show ([a, b, x, y, z, u].all fun x => x.below n) = true
  simp [ha, hb, hx, hy, hz, hu]
theorem same_cells {c c' : VC} (h : c.cells = c'.cells) : ∀ (i : Nat) x x', c.cells[i]? = some x → c'.cells[i]? = some x' → ∀ w F σ v, RdX w F σ x v → RdX w F σ x' v := by
  intro i x x' h1 h2 w F σ v hr
  rw [h] at h1
  rw [h1] at h2
  cases h2
  exact hr
theorem nz_sl {w : World} {F : Nat → Prop} {σ : Sg} {v : Value} (h : RdX w F σ NZ v) : RdX w F σ (.d (.sl [])) v := rd_nil h
/-- The first row among a variable's cells is given up as data, if there is one. -/
theorem Le.fix3 {C : Cx} {tm : List (Nat × X)} {o0 o1 : AObj} {a b x y z : X} (L : List D) (hT : TmB 3 tm) (h0 : o0.below 3 = true) (h1 : o1.below 3 = true) (ha : a.below 3 = true) (hb : b.below 3 = true) (hx : x.below 3 = true) (hy : y.below 3 = true) (hz : z.below 3 = true) :
    Le C ⟨tm, [o0, o1, svO [a, b, fZ 3 L, x, y, z], ctO L]⟩ ⟨tm, [o0, o1, svO [a, b, .d (.sl L), x, y, z], .dead]⟩ := by
  cases L with
  | nil =>
    refine Le.objW 2 (c' := .cs [a, b, .d (.sl []), x, y, z]) rfl rfl fun i u u' h1 h2 w F σ v hr => ?_
    match i with
    | 0 => cases h1; cases h2; exact hr
    | 1 => cases h1; cases h2; exact hr
    | 2 => cases h1; cases h2; exact nz_sl hr
    | 3 => cases h1; cases h2; exact hr
    | 4 => cases h1; cases h2; exact hr
    | 5 => cases h1; cases h2; exact hr
    | i + 6 => cases h1
  | cons d r =>
    intro a' w hr
    have hf : frz 3 ⟨tm, [o0, o1, svO [a, b, fZ 3 (d :: r), x, y, z], ctO (d :: r)]⟩ = some ⟨frzT 3 (d :: r) tm, ([o0, o1, svO [a, b, fZ 3 (d :: r), x, y, z], ctO (d :: r)].map (frzO 3 (d :: r))).set 3 .dead⟩ := rfl
    obtain ⟨F, σ, h1', h2, h3, hi, h4, h5, hs⟩ := frz_le 3 hf a' w hr
    have hob : ([o0, o1, svO [a, b, fZ 3 (d :: r), x, y, z], ctO (d :: r)].map (frzO 3 (d :: r))).set 3 .dead = [o0, o1, svO [a, b, .d (.sl (d :: r)), x, y, z], .dead] := by
      show [frzO 3 (d :: r) o0, frzO 3 (d :: r) o1, svO [frzX 3 (d :: r) a, frzX 3 (d :: r) b, .d (.sl (d :: r)), frzX 3 (d :: r) x, frzX 3 (d :: r) y, frzX 3 (d :: r) z], .dead] = _
      rw [frzO_below h0, frzO_below h1, frzX_below ha, frzX_below hb, frzX_below hx, frzX_below hy, frzX_below hz]
    refine ⟨F, σ, h1', h2, h3, by rw [← hob]; exact hi, h4, h5, fun u => ?_⟩
    have := hs u
    rw [lk_frz, frzX_below (hT.lk u)] at this
    exact this

def lbN (s : ByteArray) : List Nd → Int
  | [] => 0
  | n :: r => (bif hasF n.labels s then 1 else 0) + lbN s r
theorem lbN_take {s : ByteArray} : ∀ {l : List Nd} {i : Nat} {n : Nd}, l[i]? = some n → lbN s (l.take (i + 1)) = lbN s (l.take i) + (bif hasF n.labels s then 1 else 0)
  | a :: l, 0, n, h => by simp at h; subst h; simp [lbN]
  | a :: l, i + 1, n, h => by
    have := lbN_take (s := s) (l := l) (i := i) (by simpa using h)
    simp only [List.take_succ_cons, lbN, this]; omega
theorem lbN_rng (s : ByteArray) : ∀ (l : List Nd), 0 ≤ lbN s l ∧ lbN s l ≤ l.length
  | [] => by simp [lbN]
  | n :: r => by
    have := lbN_rng s r
    simp only [lbN, List.length_cons]
    cases hasF n.labels s <;> simp <;> omega
theorem cntE_take {t : ByteArray} : ∀ {l : List Ed} {i : Nat} {e : Ed}, l[i]? = some e → cntE t (l.take (i + 1)) = cntE t (l.take i) + (bif tyB t e then 1 else 0)
  | a :: l, 0, e, h => by simp at h; subst h; simp [cntE]
  | a :: l, i + 1, e, h => by
    have := cntE_take (t := t) (l := l) (i := i) (by simpa using h)
    simp only [List.take_succ_cons, cntE, this]; omega
def sqF (g : Gr) (t : ByteArray) (dir : Int) : List Int := match degL g t dir g.nodes with | [] => [] | x :: r => pdF (x :: r)
def lbC (g : Gr) : List ByteArray → List CT := List.map fun s => ⟨s, lbN s g.nodes⟩
def tyC (g : Gr) : List ByteArray → List CT := List.map fun s => ⟨s, cntE s g.edges⟩
def sqC (g : Gr) (dir : Int) : List ByteArray → List (List Int) := List.map fun s => sqF g s dir
def stG (g : Gr) : ST := ⟨g.nodes.length, g.edges.length, lbC g (srtC (labL g.nodes)), tyC g (srtC (tyL g.edges)), sqC g 1 (srtC (tyL g.edges)), sqC g 2 (srtC (tyL g.edges))⟩
def stZ : D := .agg [.int 0, .int 0, .sl [], .sl [], .sl [], .sl []]
end Go.Proofs.YtkjebcnlmanhlaaGreatDoor

/- The statistics of a graph, walked. Conditions: a checked graph. -/
namespace Go.Proofs.YtkjebcnlmanhlaaGreatDoor
open Go Go.Abs Go.Val Go.RowKit
attribute [local irreducible] go SGo HasBody Ev ExtEv EvO EvS PGo RGo

theorem of0_ev (g : Gr) (r : Int) (hr : (r != 0) = true) (hC : Ev E 9 [encGr g] (.d (.int r))) : Ev E 4 [encGr g] (.tup [stZ, .int r]) := by
  refine enter1 Tryz.func4 Tryz.ntmps4 rfl rfl fun w0 F0 O => ?_
  repeat' (first | refine zS rfl ?_ | refine qA ?_ | refine qB rfl ?_ | refine qC (by kernel_rfl) ?_ | refine qD ?_ | refine qE ?_ | refine qF ?_ | refine qG ?_ | refine qH rfl ?_ | refine qP rfl rfl rfl rfl rfl rfl b9 (hC) ?_ | refine zT rfl ?_ | refine zU rfl ?_ | refine qL rfl rfl ?_ | refine qM rfl rfl rfl ?_ | refine qO rfl rfl rfl ?_ | refine zX rfl rfl rfl rfl ?_ | refine zW rfl rfl rfl rfl ?_ | (refine qY rfl rfl rfl rfl ?_ ?_ <;> intro _) | exact zD | exact zL)
structure OfL (L : List ByteArray) where
  i : Nat
  hi : i ≤ L.length
structure OfN (l : List Nd) (s : ByteArray) where
  j : Nat
  n : Int
  hj : j ≤ l.length
  ok : n = lbN s (l.take j)
structure OfE (l : List Ed) (s : ByteArray) where
  j : Nat
  n : Int
  hj : j ≤ l.length
  ok : n = cntE s (l.take j)
theorem lbC_next {g : Gr} {L : List ByteArray} {i : Nat} {s : ByteArray} (h : L[i]? = some s) : (lbC g (L.take (i + 1))).map encCT = (lbC g (L.take i)).map encCT ++ [encCT ⟨s, lbN s g.nodes⟩] := by
  unfold lbC
  rw [List.take_add_one, h]
  simp
theorem tyC_next {g : Gr} {L : List ByteArray} {i : Nat} {s : ByteArray} (h : L[i]? = some s) : (tyC g (L.take (i + 1))).map encCT = (tyC g (L.take i)).map encCT ++ [encCT ⟨s, cntE s g.edges⟩] := by
  unfold tyC
  rw [List.take_add_one, h]
  simp
theorem sqC_next {g : Gr} {d : Int} {L : List ByteArray} {i : Nat} {s : ByteArray} (h : L[i]? = some s) : (sqC g d (L.take (i + 1))).map intsD = (sqC g d (L.take i)).map intsD ++ [intsD (sqF g s d)] := by
  unfold sqC
  rw [List.take_add_one, h]
  simp
theorem nz3 {a b x : X} : ∀ (i : Nat) u u', (VC.cs [a, b, x, NZ, NZ, NZ]).cells[i]? = some u → (VC.cs [a, b, x, .d (.sl []), .d (.sl []), .d (.sl [])]).cells[i]? = some u' → ∀ w F σ v, RdX w F σ u v → RdX w F σ u' v := by
  intro i u u' h1 h2 w F σ v hr
  match i with
  | 0 => cases h1; cases h2; exact hr
  | 1 => cases h1; cases h2; exact hr
  | 2 => cases h1; cases h2; exact hr
  | 3 => cases h1; cases h2; exact nz_sl hr
  | 4 => cases h1; cases h2; exact nz_sl hr
  | 5 => cases h1; cases h2; exact nz_sl hr
  | i + 6 => cases h1
theorem lbC_len (g : Gr) (L : List ByteArray) : ((lbC g L).map encCT).length = L.length := by simp [lbC]
theorem tyC_len (g : Gr) (L : List ByteArray) : ((tyC g L).map encCT).length = L.length := by simp [tyC]
theorem sqC_len (g : Gr) (d : Int) (L : List ByteArray) : ((sqC g d L).map intsD).length = L.length := by simp [sqC]
set_option maxRecDepth 20000 in
set_option maxHeartbeats 8000000 in
theorem of_ev (g : Gr) (hC : Ev E 9 [encGr g] (.d (.int 0))) (hn : g.nodes.length ≤ 2000) (he : g.edges.length ≤ 4000) (h8 : ∀ n ∈ g.nodes, n.labels.length ≤ 8) (hLL : (srtC (labL g.nodes)).length ≤ 16000) (hTL : (srtC (tyL g.edges)).length ≤ 4000) : Ev E 4 [encGr g] (.tup [encST (stG g), .int 0]) := by
  have hnn : (g.nodes.map encNd).length = g.nodes.length := by simp
  have hen : (g.edges.map encEd).length = g.edges.length := by simp
  have hL := labels_ev g hn h8
  have hT := types_ev g he
  have hS := fun t d => seq_ev pdF (fun x r h => sortI_evS (x :: r) (by omega)) (sortI0_evS _) g t d hn he
  unfold stG
  rw [show ((g.nodes.length : Nat) : Int) = ((g.nodes.map encNd).length : Int) by rw [hnn], show ((g.edges.length : Nat) : Int) = ((g.edges.map encEd).length : Int) by rw [hen]]
  generalize hLe : srtC (labL g.nodes) = L at *
  generalize hTe : srtC (tyL g.edges) = T at *
  have hLn : (L.map D.str).length = L.length := by simp
  have hTn : (T.map D.str).length = T.length := by simp
  refine enter1 Tryz.func4 Tryz.ntmps4 rfl rfl fun w0 F0 O => ?_
  repeat' (first | refine go_buildN rfl rfl rfl rfl rfl rfl rfl rfl rfl ?_ | refine zS rfl ?_ | refine qA ?_ | refine qB rfl ?_ | refine qC (by kernel_rfl) ?_ | refine qD ?_ | refine qE ?_ | refine qF ?_ | refine qG ?_ | refine qH rfl ?_ | refine qP rfl rfl rfl rfl rfl rfl b9 (hC) ?_ | refine qP rfl rfl rfl rfl rfl rfl b10 (hL) ?_ | refine zT rfl ?_ | refine zU rfl ?_ | refine qL rfl rfl ?_ | refine qM rfl rfl rfl ?_ | refine qO rfl rfl rfl ?_ | refine zX rfl rfl rfl rfl ?_ | refine zW rfl rfl rfl rfl ?_ | (refine qY rfl rfl rfl rfl ?_ ?_ <;> intro _) | exact zD | exact zL)
  refine go_dead ?_
  refine go_weaken (Le.objW 2 (c' := .cs [.d (.int (g.nodes.map encNd).length), .d (.int (g.edges.map encEd).length), NZ, NZ, NZ, NZ]) rfl rfl (same_cells rfl)) ?_
  refine go_loop_ (α := OfL L) (fun p => ⟨[(1, .ptr 0 0), (2, .ptr 1 0), (5, .ptr 2 0), (30, .d (.sl (L.map .str))), (31, .d (.int (L.map D.str).length)), (32, .d (.int p.i))], [oGr g, rsO, svO [.d (.int (g.nodes.map encNd).length), .d (.int (g.edges.map encEd).length), fZ 3 ((lbC g (L.take p.i)).map encCT), NZ, NZ, NZ], ctO ((lbC g (L.take p.i)).map encCT)]⟩) (fun p => L.length - p.i) ⟨0, by omega⟩ ((zle 4)) ?_
  rintro ⟨i, hi⟩
  dsimp only
  rcases Nat.lt_or_ge i L.length with hlt | hge
  · have g1 : decide ((i : Int) < ((L.map D.str).length : Int)) = true := by rw [hLn]; simpa using hlt
    have hx0 := List.getElem?_eq_getElem hlt
    generalize L[i] = s at hx0
    have hx := map_at (f := D.str) hx0
    have hnx := lbC_next (g := g) hx0
    have hol := lbC_len g (L.take i)
    rw [List.length_take] at hol
    generalize (lbC g (L.take i)).map encCT = o at *
    repeat' (first | refine zS rfl ?_ | refine qA ?_ | refine qB rfl ?_ | refine qC (by kernel_rfl) ?_ | refine qD ?_ | refine qE ?_ | refine qF ?_ | refine qG ?_ | refine qH rfl ?_ | refine qI (.str s) rfl (guardX_ok rfl) rfl rfl rfl rfl rfl rfl (by first | omega | decide) hx ?_ | refine zT rfl ?_ | refine zU rfl ?_ | refine qL rfl rfl ?_ | refine qM rfl rfl rfl ?_ | refine qO rfl rfl rfl ?_ | refine zX rfl rfl rfl rfl ?_ | refine zW rfl rfl rfl rfl ?_ | (refine qY rfl rfl rfl rfl ?_ ?_ <;> intro _) | exact zD | exact zL)
    refine go_loop_ (α := OfN g.nodes s) (fun p => ⟨[(1, .ptr 0 0), (2, .ptr 1 0), (5, .ptr 2 0), (7, .d (.str s)), (8, .d (.int p.n)), (30, .d (.sl (L.map .str))), (31, .d (.int (L.map D.str).length)), (32, .d (.int i)), (37, .d (.sl (g.nodes.map encNd))), (38, .d (.int (g.nodes.map encNd).length)), (39, .d (.int p.j))], [oGr g, rsO, svO [.d (.int (g.nodes.map encNd).length), .d (.int (g.edges.map encEd).length), fZ 3 o, NZ, NZ, NZ], ctO o]⟩) (fun p => g.nodes.length - p.j) ⟨0, 0, by omega, rfl⟩ (Le.of' 4 rfl rfl (by repeat (first | exact trivial | refine ⟨⟨rfl, rfl⟩, ?_⟩)) ⟨rfl, rfl, sv_below rfl rfl (fZ_below 3 4 _ rfl) rfl rfl rfl, fZO_below _ _ _ _, trivial⟩) ?_
    rintro ⟨j, n, hj, ok⟩
    dsimp only at ok ⊢
    have hrg := lbN_rng s (g.nodes.take j)
    rw [← ok, List.length_take] at hrg
    rcases Nat.lt_or_ge j g.nodes.length with hlt2 | hge2
    · have g2 : decide ((j : Int) < ((g.nodes.map encNd).length : Int)) = true := by rw [hnn]; simpa using hlt2
      have hy0 := List.getElem?_eq_getElem hlt2
      generalize g.nodes[j] = m at hy0
      have hy := map_at (f := encNd) hy0
      have h1 := hasLabel_ev m s
      have hnj := lbN_take (s := s) hy0
      rw [← ok] at hnj
      cases hb : hasF m.labels s with
      | true =>
        rw [hb] at h1 hnj
        repeat' (first | refine zS rfl ?_ | refine qA ?_ | refine qB rfl ?_ | refine qC (by kernel_rfl) ?_ | refine qD ?_ | refine qE ?_ | refine qF ?_ | refine qG ?_ | refine qH rfl ?_ | refine qI (encNd m) rfl (guardX_ok rfl) rfl rfl rfl rfl rfl rfl (by first | omega | decide) hy ?_ | refine qP rfl rfl rfl rfl rfl rfl b11 (h1) ?_ | refine zT rfl ?_ | refine zU rfl ?_ | refine qL rfl rfl ?_ | refine qM rfl rfl rfl ?_ | refine qO rfl rfl rfl ?_ | refine zX rfl rfl rfl rfl ?_ | refine zW rfl rfl rfl rfl ?_ | (refine qY rfl rfl rfl rfl ?_ ?_ <;> intro _) | exact zD | exact zL)
        refine go_stop ?_
        exact ⟨⟨j + 1, n + 1, by omega, hnj.symm⟩, by dsimp only; omega, (Le.of' 4 rfl rfl (by repeat (first | exact trivial | refine ⟨⟨rfl, rfl⟩, ?_⟩)) ⟨rfl, rfl, sv_below rfl rfl (fZ_below 3 4 _ rfl) rfl rfl rfl, fZO_below _ _ _ _, trivial⟩)⟩
      | false =>
        rw [hb, cond_false, Int.add_zero] at hnj
        rw [hb] at h1
        repeat' (first | refine zS rfl ?_ | refine qA ?_ | refine qB rfl ?_ | refine qC (by kernel_rfl) ?_ | refine qD ?_ | refine qE ?_ | refine qF ?_ | refine qG ?_ | refine qH rfl ?_ | refine qI (encNd m) rfl (guardX_ok rfl) rfl rfl rfl rfl rfl rfl (by first | omega | decide) hy ?_ | refine qP rfl rfl rfl rfl rfl rfl b11 (h1) ?_ | refine zT rfl ?_ | refine zU rfl ?_ | refine qL rfl rfl ?_ | refine qM rfl rfl rfl ?_ | refine qO rfl rfl rfl ?_ | refine zX rfl rfl rfl rfl ?_ | refine zW rfl rfl rfl rfl ?_ | (refine qY rfl rfl rfl rfl ?_ ?_ <;> intro _) | exact zD | exact zL)
        refine go_stop ?_
        exact ⟨⟨j + 1, n, by omega, hnj.symm⟩, by dsimp only; omega, (Le.of' 4 rfl rfl (by repeat (first | exact trivial | refine ⟨⟨rfl, rfl⟩, ?_⟩)) ⟨rfl, rfl, sv_below rfl rfl (fZ_below 3 4 _ rfl) rfl rfl rfl, fZO_below _ _ _ _, trivial⟩)⟩
    · have g2 : decide ((j : Int) < ((g.nodes.map encNd).length : Int)) = false := by rw [hnn]; simp; omega
      rw [List.take_of_length_le hge2] at ok
      subst ok
      match o, hol with
      | [], hol =>
        dsimp only [fZ, fZO]
        repeat' (first | refine zS rfl ?_ | refine qA ?_ | refine qB rfl ?_ | refine qC (by kernel_rfl) ?_ | refine qD ?_ | refine qE ?_ | refine qF ?_ | refine qG ?_ | refine qH rfl ?_ | (refine qS rfl ⟨by simp, fun d hd => by (obtain rfl := List.mem_singleton.1 hd; rfl), by (show (0 + 1) * 24 ≤ 140737488355328; omega), by (show 0 + 1 ≤ 9223372036854775807; omega)⟩ ?_) | refine zT rfl ?_ | refine zU rfl ?_ | refine qL rfl rfl ?_ | refine qM rfl rfl rfl ?_ | refine qO rfl rfl rfl ?_ | refine zX rfl rfl rfl rfl ?_ | refine zW rfl rfl rfl rfl ?_ | (refine qY rfl rfl rfl rfl ?_ ?_ <;> intro _) | exact zD | exact zL)
        refine go_stop ?_
        refine ⟨⟨i + 1, by omega⟩, by dsimp only; omega, ?_⟩
        dsimp only
        rw [hnx]
        exact (zren [0, 1, 2, 4])
      | a :: q, hol =>
        dsimp only [fZ, fZO]
        repeat' (first | refine zS rfl ?_ | refine qA ?_ | refine qB rfl ?_ | refine qC (by kernel_rfl) ?_ | refine qD ?_ | refine qE ?_ | refine qF ?_ | refine qG ?_ | refine qH rfl ?_ | (refine qS rfl ⟨by simp, fun d hd => by (obtain rfl := List.mem_singleton.1 hd; rfl), by (show ((a :: q).length + 1) * 24 ≤ 140737488355328; omega), by (show (a :: q).length + 1 ≤ 9223372036854775807; omega)⟩ ?_) | refine zT rfl ?_ | refine zU rfl ?_ | refine qL rfl rfl ?_ | refine qM rfl rfl rfl ?_ | refine qO rfl rfl rfl ?_ | refine zX rfl rfl rfl rfl ?_ | refine zW rfl rfl rfl rfl ?_ | (refine qY rfl rfl rfl rfl ?_ ?_ <;> intro _) | exact zD | exact zL)
        refine go_stop ?_
        refine ⟨⟨i + 1, by omega⟩, by dsimp only; omega, ?_⟩
        dsimp only
        rw [hnx]
        exact (zren [0, 1, 2, 4])
  · have g1 : decide ((i : Int) < ((L.map D.str).length : Int)) = false := by rw [hLn]; simp; omega
    rw [List.take_of_length_le hge]
    refine qA ?_
    refine go_weaken (Le.fix3 ((lbC g L).map encCT) (by repeat (first | exact trivial | refine ⟨rfl, ?_⟩)) rfl rfl rfl rfl rfl rfl rfl) ?_
    refine go_dead ?_
    refine go_dead ?_
    repeat' (first | refine zS rfl ?_ | refine qA ?_ | refine qB rfl ?_ | refine qC (by kernel_rfl) ?_ | refine qD ?_ | refine qE ?_ | refine qF ?_ | refine qG ?_ | refine qH rfl ?_ | refine qP rfl rfl rfl rfl rfl rfl b12 (hT) ?_ | refine zT rfl ?_ | refine zU rfl ?_ | refine qL rfl rfl ?_ | refine qM rfl rfl rfl ?_ | refine qO rfl rfl rfl ?_ | refine zX rfl rfl rfl rfl ?_ | refine zW rfl rfl rfl rfl ?_ | (refine qY rfl rfl rfl rfl ?_ ?_ <;> intro _) | exact zD | exact zL)
    refine go_loop_ (α := OfL T) (fun p => ⟨[(1, .ptr 0 0), (2, .ptr 1 0), (5, .ptr 2 0), (59, .d (.sl (T.map .str))), (60, .d (.int (T.map D.str).length)), (61, .d (.int p.i))], [oGr g, rsO, svO [.d (.int (g.nodes.map encNd).length), .d (.int (g.edges.map encEd).length), .d (.sl ((lbC g L).map encCT)), fZ 3 ((tyC g (T.take p.i)).map encCT), fZ 4 ((sqC g 1 (T.take p.i)).map intsD), fZ 5 ((sqC g 2 (T.take p.i)).map intsD)], ctO ((tyC g (T.take p.i)).map encCT), inO ((sqC g 1 (T.take p.i)).map intsD), inO ((sqC g 2 (T.take p.i)).map intsD)]⟩) (fun p => T.length - p.i) ⟨0, by omega⟩ ((zle 6)) ?_
    rintro ⟨i, hi⟩
    dsimp only
    rcases Nat.lt_or_ge i T.length with hlt | hge
    · have g1 : decide ((i : Int) < ((T.map D.str).length : Int)) = true := by rw [hTn]; simpa using hlt
      have hx0 := List.getElem?_eq_getElem hlt
      generalize T[i] = s at hx0
      have hx := map_at (f := D.str) hx0
      have hn1 := tyC_next (g := g) hx0
      have hn2 := sqC_next (g := g) (d := 1) hx0
      have hn3 := sqC_next (g := g) (d := 2) hx0
      have h1 : Ev E 13 [encGr g, .str s, .int 1] (.d (intsD (sqF g s 1))) := hS s 1
      have h2 : Ev E 13 [encGr g, .str s, .int 2] (.d (intsD (sqF g s 2))) := hS s 2
      have hl1 := tyC_len g (T.take i)
      have hl2 := sqC_len g 1 (T.take i)
      have hl3 := sqC_len g 2 (T.take i)
      rw [List.length_take] at hl1 hl2 hl3
      generalize (tyC g (T.take i)).map encCT = o1 at *
      generalize (sqC g 1 (T.take i)).map intsD = o2 at *
      generalize (sqC g 2 (T.take i)).map intsD = o3 at *
      generalize (lbC g L).map encCT = LB at *
      repeat' (first | refine zS rfl ?_ | refine qA ?_ | refine qB rfl ?_ | refine qC (by kernel_rfl) ?_ | refine qD ?_ | refine qE ?_ | refine qF ?_ | refine qG ?_ | refine qH rfl ?_ | refine qI (.str s) rfl (guardX_ok rfl) rfl rfl rfl rfl rfl rfl (by first | omega | decide) hx ?_ | refine zT rfl ?_ | refine zU rfl ?_ | refine qL rfl rfl ?_ | refine qM rfl rfl rfl ?_ | refine qO rfl rfl rfl ?_ | refine zX rfl rfl rfl rfl ?_ | refine zW rfl rfl rfl rfl ?_ | (refine qY rfl rfl rfl rfl ?_ ?_ <;> intro _) | exact zD | exact zL)
      refine go_loop_ (α := OfE g.edges s) (fun p => ⟨[(1, .ptr 0 0), (2, .ptr 1 0), (5, .ptr 2 0), (12, .d (.str s)), (13, .d (.int p.n)), (59, .d (.sl (T.map .str))), (60, .d (.int (T.map D.str).length)), (61, .d (.int i)), (66, .d (.sl (g.edges.map encEd))), (67, .d (.int (g.edges.map encEd).length)), (68, .d (.int p.j))], [oGr g, rsO, svO [.d (.int (g.nodes.map encNd).length), .d (.int (g.edges.map encEd).length), .d (.sl LB), fZ 3 o1, fZ 4 o2, fZ 5 o3], ctO o1, inO o2, inO o3]⟩) (fun p => g.edges.length - p.j) ⟨0, 0, by omega, rfl⟩ (Le.of' 6 rfl rfl (by repeat (first | exact trivial | refine ⟨⟨rfl, rfl⟩, ?_⟩)) ⟨rfl, rfl, sv_below rfl rfl rfl (fZ_below 3 6 _ rfl) (fZ_below 4 6 _ rfl) (fZ_below 5 6 _ rfl), fZO_below _ _ _ _, fZO_below _ _ _ _, fZO_below _ _ _ _, trivial⟩) ?_
      rintro ⟨j, n, hj, ok⟩
      dsimp only at ok ⊢
      have hrg := cntE_rng s (g.edges.take j)
      rw [← ok, List.length_take] at hrg
      rcases Nat.lt_or_ge j g.edges.length with hlt2 | hge2
      · have g2 : decide ((j : Int) < ((g.edges.map encEd).length : Int)) = true := by rw [hen]; simpa using hlt2
        have hy0 := List.getElem?_eq_getElem hlt2
        generalize g.edges[j] = m at hy0
        have hy := map_at (f := encEd) hy0
        have hnj := cntE_take (t := s) hy0
        rw [← ok] at hnj
        unfold tyB at hnj
        cases hb : m.ty.toList == s.toList with
        | true =>
          rw [hb] at hnj
          repeat' (first | refine zS rfl ?_ | refine qA ?_ | refine qB rfl ?_ | refine qC (by kernel_rfl) ?_ | refine qD ?_ | refine qE ?_ | refine qF ?_ | refine qG ?_ | refine qH rfl ?_ | refine qI (encEd m) rfl (guardX_ok rfl) rfl rfl rfl rfl rfl rfl (by first | omega | decide) hy ?_ | refine zT rfl ?_ | refine zU rfl ?_ | refine qL rfl rfl ?_ | refine qM rfl rfl rfl ?_ | refine qO rfl rfl rfl ?_ | refine zX rfl rfl rfl rfl ?_ | refine zW rfl rfl rfl rfl ?_ | (refine qY rfl rfl rfl rfl ?_ ?_ <;> intro _) | exact zD | exact zL)
          refine go_stop ?_
          exact ⟨⟨j + 1, n + 1, by omega, hnj.symm⟩, by dsimp only; omega, (Le.of' 6 rfl rfl (by repeat (first | exact trivial | refine ⟨⟨rfl, rfl⟩, ?_⟩)) ⟨rfl, rfl, sv_below rfl rfl rfl (fZ_below 3 6 _ rfl) (fZ_below 4 6 _ rfl) (fZ_below 5 6 _ rfl), fZO_below _ _ _ _, fZO_below _ _ _ _, fZO_below _ _ _ _, trivial⟩)⟩
        | false =>
          rw [hb, cond_false, Int.add_zero] at hnj
          repeat' (first | refine zS rfl ?_ | refine qA ?_ | refine qB rfl ?_ | refine qC (by kernel_rfl) ?_ | refine qD ?_ | refine qE ?_ | refine qF ?_ | refine qG ?_ | refine qH rfl ?_ | refine qI (encEd m) rfl (guardX_ok rfl) rfl rfl rfl rfl rfl rfl (by first | omega | decide) hy ?_ | refine zT rfl ?_ | refine zU rfl ?_ | refine qL rfl rfl ?_ | refine qM rfl rfl rfl ?_ | refine qO rfl rfl rfl ?_ | refine zX rfl rfl rfl rfl ?_ | refine zW rfl rfl rfl rfl ?_ | (refine qY rfl rfl rfl rfl ?_ ?_ <;> intro _) | exact zD | exact zL)
          refine go_stop ?_
          exact ⟨⟨j + 1, n, by omega, hnj.symm⟩, by dsimp only; omega, (Le.of' 6 rfl rfl (by repeat (first | exact trivial | refine ⟨⟨rfl, rfl⟩, ?_⟩)) ⟨rfl, rfl, sv_below rfl rfl rfl (fZ_below 3 6 _ rfl) (fZ_below 4 6 _ rfl) (fZ_below 5 6 _ rfl), fZO_below _ _ _ _, fZO_below _ _ _ _, fZO_below _ _ _ _, trivial⟩)⟩
      · have g2 : decide ((j : Int) < ((g.edges.map encEd).length : Int)) = false := by rw [hen]; simp; omega
        rw [List.take_of_length_le hge2] at ok
        subst ok
        match o1, o2, o3, hl1, hl2, hl3 with
        | [], [], [], hl1, hl2, hl3 =>
          dsimp only [fZ, fZO]
          repeat' (first | refine qR0 (id := 28) [6,8] (by kernel_rfl) (by kernel_rfl) (by repeat (first | exact trivial | refine ⟨⟨rfl, rfl⟩, ?_⟩ | refine ⟨trivial, ?_⟩)) ?_ | refine rgF (id := 28) (i := 0) 6 (by kernel_rfl) rfl ?_ | refine rgStore (id := 28) (i := 6) rfl rfl rfl rfl rfl rfl rfl rfl rfl rfl rfl (by repeat (first | exact trivial | refine ⟨⟨rfl, rfl⟩, ?_⟩ | refine ⟨trivial, ?_⟩)) ?_ | refine rgAlloc (id := 28) (i := 6) rfl rfl rfl rfl rfl rfl rfl (by repeat (first | exact trivial | refine ⟨⟨rfl, rfl⟩, ?_⟩ | refine ⟨trivial, ?_⟩)) ?_ | refine rgBox (id := 28) (i := 6) rfl rfl rfl rfl rfl rfl rfl (by repeat (first | exact trivial | refine ⟨⟨rfl, rfl⟩, ?_⟩ | refine ⟨trivial, ?_⟩)) ?_ | refine rgBoxP (id := 28) (i := 6) rfl rfl rfl rfl rfl rfl rfl (by repeat (first | exact trivial | refine ⟨⟨rfl, rfl⟩, ?_⟩ | refine ⟨trivial, ?_⟩)) ?_ | refine rgStoreP _ (id := 28) (i := 6) rfl rfl rfl rfl rfl rfl rfl (by assumption) rfl rfl rfl (by repeat (first | exact trivial | refine ⟨⟨rfl, rfl⟩, ?_⟩ | refine ⟨trivial, ?_⟩)) ?_ | (refine rgS (id := 28) (i := 6) rfl rfl rfl rfl ?_ (by repeat (first | exact trivial | refine ⟨⟨rfl, rfl⟩, ?_⟩ | refine ⟨trivial, ?_⟩)) ?_; (first | exact True.intro | rfl | assumption | omega | (simp only [inR]; omega) | ((show _ ≤ (9223372036854775807 : Nat)); (try simp only [ByteArray.size_append]); omega) | exact tmod_ok (by omega) (by omega) | exact tdiv_ok (by omega) (by omega) | exact ⟨rfl, by decide, by decide⟩)) | refine rgF (id := 28) (i := 7) 1 (by kernel_rfl) rfl ?_ | refine rgStore (id := 28) (i := 8) rfl rfl rfl rfl rfl rfl rfl rfl rfl rfl rfl (by repeat (first | exact trivial | refine ⟨⟨rfl, rfl⟩, ?_⟩ | refine ⟨trivial, ?_⟩)) ?_ | refine rgAlloc (id := 28) (i := 8) rfl rfl rfl rfl rfl rfl rfl (by repeat (first | exact trivial | refine ⟨⟨rfl, rfl⟩, ?_⟩ | refine ⟨trivial, ?_⟩)) ?_ | refine rgBox (id := 28) (i := 8) rfl rfl rfl rfl rfl rfl rfl (by repeat (first | exact trivial | refine ⟨⟨rfl, rfl⟩, ?_⟩ | refine ⟨trivial, ?_⟩)) ?_ | refine rgBoxP (id := 28) (i := 8) rfl rfl rfl rfl rfl rfl rfl (by repeat (first | exact trivial | refine ⟨⟨rfl, rfl⟩, ?_⟩ | refine ⟨trivial, ?_⟩)) ?_ | refine rgStoreP _ (id := 28) (i := 8) rfl rfl rfl rfl rfl rfl rfl (by assumption) rfl rfl rfl (by repeat (first | exact trivial | refine ⟨⟨rfl, rfl⟩, ?_⟩ | refine ⟨trivial, ?_⟩)) ?_ | (refine rgS (id := 28) (i := 8) rfl rfl rfl rfl ?_ (by repeat (first | exact trivial | refine ⟨⟨rfl, rfl⟩, ?_⟩ | refine ⟨trivial, ?_⟩)) ?_; (first | exact True.intro | rfl | assumption | omega | (simp only [inR]; omega) | ((show _ ≤ (9223372036854775807 : Nat)); (try simp only [ByteArray.size_append]); omega) | exact tmod_ok (by omega) (by omega) | exact tdiv_ok (by omega) (by omega) | exact ⟨rfl, by decide, by decide⟩)) | refine rgN ?_ | (show TmB _ _ ∧ RGo _ _ _ _ _ _ _ _ _; refine ⟨(by repeat (first | exact trivial | refine ⟨rfl, ?_⟩)), ?_⟩) | refine qR0 (id := 29) [6,8] (by kernel_rfl) (by kernel_rfl) (by repeat (first | exact trivial | refine ⟨⟨rfl, rfl⟩, ?_⟩ | refine ⟨trivial, ?_⟩)) ?_ | refine rgF (id := 29) (i := 0) 6 (by kernel_rfl) rfl ?_ | refine rgStore (id := 29) (i := 6) rfl rfl rfl rfl rfl rfl rfl rfl rfl rfl rfl (by repeat (first | exact trivial | refine ⟨⟨rfl, rfl⟩, ?_⟩ | refine ⟨trivial, ?_⟩)) ?_ | refine rgAlloc (id := 29) (i := 6) rfl rfl rfl rfl rfl rfl rfl (by repeat (first | exact trivial | refine ⟨⟨rfl, rfl⟩, ?_⟩ | refine ⟨trivial, ?_⟩)) ?_ | refine rgBox (id := 29) (i := 6) rfl rfl rfl rfl rfl rfl rfl (by repeat (first | exact trivial | refine ⟨⟨rfl, rfl⟩, ?_⟩ | refine ⟨trivial, ?_⟩)) ?_ | refine rgBoxP (id := 29) (i := 6) rfl rfl rfl rfl rfl rfl rfl (by repeat (first | exact trivial | refine ⟨⟨rfl, rfl⟩, ?_⟩ | refine ⟨trivial, ?_⟩)) ?_ | refine rgStoreP _ (id := 29) (i := 6) rfl rfl rfl rfl rfl rfl rfl (by assumption) rfl rfl rfl (by repeat (first | exact trivial | refine ⟨⟨rfl, rfl⟩, ?_⟩ | refine ⟨trivial, ?_⟩)) ?_ | (refine rgS (id := 29) (i := 6) rfl rfl rfl rfl ?_ (by repeat (first | exact trivial | refine ⟨⟨rfl, rfl⟩, ?_⟩ | refine ⟨trivial, ?_⟩)) ?_; (first | exact True.intro | rfl | assumption | omega | (simp only [inR]; omega) | ((show _ ≤ (9223372036854775807 : Nat)); (try simp only [ByteArray.size_append]); omega) | exact tmod_ok (by omega) (by omega) | exact tdiv_ok (by omega) (by omega) | exact ⟨rfl, by decide, by decide⟩)) | refine rgF (id := 29) (i := 7) 1 (by kernel_rfl) rfl ?_ | refine rgStore (id := 29) (i := 8) rfl rfl rfl rfl rfl rfl rfl rfl rfl rfl rfl (by repeat (first | exact trivial | refine ⟨⟨rfl, rfl⟩, ?_⟩ | refine ⟨trivial, ?_⟩)) ?_ | refine rgAlloc (id := 29) (i := 8) rfl rfl rfl rfl rfl rfl rfl (by repeat (first | exact trivial | refine ⟨⟨rfl, rfl⟩, ?_⟩ | refine ⟨trivial, ?_⟩)) ?_ | refine rgBox (id := 29) (i := 8) rfl rfl rfl rfl rfl rfl rfl (by repeat (first | exact trivial | refine ⟨⟨rfl, rfl⟩, ?_⟩ | refine ⟨trivial, ?_⟩)) ?_ | refine rgBoxP (id := 29) (i := 8) rfl rfl rfl rfl rfl rfl rfl (by repeat (first | exact trivial | refine ⟨⟨rfl, rfl⟩, ?_⟩ | refine ⟨trivial, ?_⟩)) ?_ | refine rgStoreP _ (id := 29) (i := 8) rfl rfl rfl rfl rfl rfl rfl (by assumption) rfl rfl rfl (by repeat (first | exact trivial | refine ⟨⟨rfl, rfl⟩, ?_⟩ | refine ⟨trivial, ?_⟩)) ?_ | (refine rgS (id := 29) (i := 8) rfl rfl rfl rfl ?_ (by repeat (first | exact trivial | refine ⟨⟨rfl, rfl⟩, ?_⟩ | refine ⟨trivial, ?_⟩)) ?_; (first | exact True.intro | rfl | assumption | omega | (simp only [inR]; omega) | ((show _ ≤ (9223372036854775807 : Nat)); (try simp only [ByteArray.size_append]); omega) | exact tmod_ok (by omega) (by omega) | exact tdiv_ok (by omega) (by omega) | exact ⟨rfl, by decide, by decide⟩)) | refine rgN ?_ | (show TmB _ _ ∧ RGo _ _ _ _ _ _ _ _ _; refine ⟨(by repeat (first | exact trivial | refine ⟨rfl, ?_⟩)), ?_⟩) | refine zS rfl ?_ | refine qA ?_ | refine qB rfl ?_ | refine qC (by kernel_rfl) ?_ | refine qD ?_ | refine qE ?_ | refine qF ?_ | refine qG ?_ | refine qH rfl ?_ | (refine qS rfl ⟨by simp, fun d hd => by (obtain rfl := List.mem_singleton.1 hd; rfl), by (show (0 + 1) * 24 ≤ 140737488355328; omega), by (show 0 + 1 ≤ 9223372036854775807; omega)⟩ ?_) | refine qP rfl rfl rfl rfl rfl rfl b13 (h1) ?_ | refine qP rfl rfl rfl rfl rfl rfl b13 (h2) ?_ | refine rgS (id := 28) (i := 6) rfl rfl rfl rfl (⟨by simp, fun d hd => by (obtain rfl := List.mem_singleton.1 hd; rfl), by (show (0 + 1) * 24 ≤ 140737488355328; omega), by (show 0 + 1 ≤ 9223372036854775807; omega)⟩) (by repeat (first | exact trivial | refine ⟨⟨rfl, rfl⟩, ?_⟩ | refine ⟨trivial, ?_⟩)) ?_ | refine rgS (id := 29) (i := 6) rfl rfl rfl rfl (⟨by simp, fun d hd => by (obtain rfl := List.mem_singleton.1 hd; rfl), by (show (0 + 1) * 24 ≤ 140737488355328; omega), by (show 0 + 1 ≤ 9223372036854775807; omega)⟩) (by repeat (first | exact trivial | refine ⟨⟨rfl, rfl⟩, ?_⟩ | refine ⟨trivial, ?_⟩)) ?_ | refine zT rfl ?_ | refine zU rfl ?_ | refine qL rfl rfl ?_ | refine qM rfl rfl rfl ?_ | refine qO rfl rfl rfl ?_ | refine zX rfl rfl rfl rfl ?_ | refine zW rfl rfl rfl rfl ?_ | (refine qY rfl rfl rfl rfl ?_ ?_ <;> intro _) | exact zD | exact zL)
          refine go_stop ?_
          refine ⟨⟨i + 1, by omega⟩, by dsimp only; omega, ?_⟩
          dsimp only
          rw [hn1, hn2, hn3]
          exact (zren [0, 1, 2, 6, 7, 8])
        | a :: q, b :: r, c :: u, hl1, hl2, hl3 =>
          dsimp only [fZ, fZO]
          repeat' (first | refine qR0 (id := 28) [6,8] (by kernel_rfl) (by kernel_rfl) (by repeat (first | exact trivial | refine ⟨⟨rfl, rfl⟩, ?_⟩ | refine ⟨trivial, ?_⟩)) ?_ | refine rgF (id := 28) (i := 0) 6 (by kernel_rfl) rfl ?_ | refine rgStore (id := 28) (i := 6) rfl rfl rfl rfl rfl rfl rfl rfl rfl rfl rfl (by repeat (first | exact trivial | refine ⟨⟨rfl, rfl⟩, ?_⟩ | refine ⟨trivial, ?_⟩)) ?_ | refine rgAlloc (id := 28) (i := 6) rfl rfl rfl rfl rfl rfl rfl (by repeat (first | exact trivial | refine ⟨⟨rfl, rfl⟩, ?_⟩ | refine ⟨trivial, ?_⟩)) ?_ | refine rgBox (id := 28) (i := 6) rfl rfl rfl rfl rfl rfl rfl (by repeat (first | exact trivial | refine ⟨⟨rfl, rfl⟩, ?_⟩ | refine ⟨trivial, ?_⟩)) ?_ | refine rgBoxP (id := 28) (i := 6) rfl rfl rfl rfl rfl rfl rfl (by repeat (first | exact trivial | refine ⟨⟨rfl, rfl⟩, ?_⟩ | refine ⟨trivial, ?_⟩)) ?_ | refine rgStoreP _ (id := 28) (i := 6) rfl rfl rfl rfl rfl rfl rfl (by assumption) rfl rfl rfl (by repeat (first | exact trivial | refine ⟨⟨rfl, rfl⟩, ?_⟩ | refine ⟨trivial, ?_⟩)) ?_ | (refine rgS (id := 28) (i := 6) rfl rfl rfl rfl ?_ (by repeat (first | exact trivial | refine ⟨⟨rfl, rfl⟩, ?_⟩ | refine ⟨trivial, ?_⟩)) ?_; (first | exact True.intro | rfl | assumption | omega | (simp only [inR]; omega) | ((show _ ≤ (9223372036854775807 : Nat)); (try simp only [ByteArray.size_append]); omega) | exact tmod_ok (by omega) (by omega) | exact tdiv_ok (by omega) (by omega) | exact ⟨rfl, by decide, by decide⟩)) | refine rgF (id := 28) (i := 7) 1 (by kernel_rfl) rfl ?_ | refine rgStore (id := 28) (i := 8) rfl rfl rfl rfl rfl rfl rfl rfl rfl rfl rfl (by repeat (first | exact trivial | refine ⟨⟨rfl, rfl⟩, ?_⟩ | refine ⟨trivial, ?_⟩)) ?_ | refine rgAlloc (id := 28) (i := 8) rfl rfl rfl rfl rfl rfl rfl (by repeat (first | exact trivial | refine ⟨⟨rfl, rfl⟩, ?_⟩ | refine ⟨trivial, ?_⟩)) ?_ | refine rgBox (id := 28) (i := 8) rfl rfl rfl rfl rfl rfl rfl (by repeat (first | exact trivial | refine ⟨⟨rfl, rfl⟩, ?_⟩ | refine ⟨trivial, ?_⟩)) ?_ | refine rgBoxP (id := 28) (i := 8) rfl rfl rfl rfl rfl rfl rfl (by repeat (first | exact trivial | refine ⟨⟨rfl, rfl⟩, ?_⟩ | refine ⟨trivial, ?_⟩)) ?_ | refine rgStoreP _ (id := 28) (i := 8) rfl rfl rfl rfl rfl rfl rfl (by assumption) rfl rfl rfl (by repeat (first | exact trivial | refine ⟨⟨rfl, rfl⟩, ?_⟩ | refine ⟨trivial, ?_⟩)) ?_ | (refine rgS (id := 28) (i := 8) rfl rfl rfl rfl ?_ (by repeat (first | exact trivial | refine ⟨⟨rfl, rfl⟩, ?_⟩ | refine ⟨trivial, ?_⟩)) ?_; (first | exact True.intro | rfl | assumption | omega | (simp only [inR]; omega) | ((show _ ≤ (9223372036854775807 : Nat)); (try simp only [ByteArray.size_append]); omega) | exact tmod_ok (by omega) (by omega) | exact tdiv_ok (by omega) (by omega) | exact ⟨rfl, by decide, by decide⟩)) | refine rgN ?_ | (show TmB _ _ ∧ RGo _ _ _ _ _ _ _ _ _; refine ⟨(by repeat (first | exact trivial | refine ⟨rfl, ?_⟩)), ?_⟩) | refine qR0 (id := 29) [6,8] (by kernel_rfl) (by kernel_rfl) (by repeat (first | exact trivial | refine ⟨⟨rfl, rfl⟩, ?_⟩ | refine ⟨trivial, ?_⟩)) ?_ | refine rgF (id := 29) (i := 0) 6 (by kernel_rfl) rfl ?_ | refine rgStore (id := 29) (i := 6) rfl rfl rfl rfl rfl rfl rfl rfl rfl rfl rfl (by repeat (first | exact trivial | refine ⟨⟨rfl, rfl⟩, ?_⟩ | refine ⟨trivial, ?_⟩)) ?_ | refine rgAlloc (id := 29) (i := 6) rfl rfl rfl rfl rfl rfl rfl (by repeat (first | exact trivial | refine ⟨⟨rfl, rfl⟩, ?_⟩ | refine ⟨trivial, ?_⟩)) ?_ | refine rgBox (id := 29) (i := 6) rfl rfl rfl rfl rfl rfl rfl (by repeat (first | exact trivial | refine ⟨⟨rfl, rfl⟩, ?_⟩ | refine ⟨trivial, ?_⟩)) ?_ | refine rgBoxP (id := 29) (i := 6) rfl rfl rfl rfl rfl rfl rfl (by repeat (first | exact trivial | refine ⟨⟨rfl, rfl⟩, ?_⟩ | refine ⟨trivial, ?_⟩)) ?_ | refine rgStoreP _ (id := 29) (i := 6) rfl rfl rfl rfl rfl rfl rfl (by assumption) rfl rfl rfl (by repeat (first | exact trivial | refine ⟨⟨rfl, rfl⟩, ?_⟩ | refine ⟨trivial, ?_⟩)) ?_ | (refine rgS (id := 29) (i := 6) rfl rfl rfl rfl ?_ (by repeat (first | exact trivial | refine ⟨⟨rfl, rfl⟩, ?_⟩ | refine ⟨trivial, ?_⟩)) ?_; (first | exact True.intro | rfl | assumption | omega | (simp only [inR]; omega) | ((show _ ≤ (9223372036854775807 : Nat)); (try simp only [ByteArray.size_append]); omega) | exact tmod_ok (by omega) (by omega) | exact tdiv_ok (by omega) (by omega) | exact ⟨rfl, by decide, by decide⟩)) | refine rgF (id := 29) (i := 7) 1 (by kernel_rfl) rfl ?_ | refine rgStore (id := 29) (i := 8) rfl rfl rfl rfl rfl rfl rfl rfl rfl rfl rfl (by repeat (first | exact trivial | refine ⟨⟨rfl, rfl⟩, ?_⟩ | refine ⟨trivial, ?_⟩)) ?_ | refine rgAlloc (id := 29) (i := 8) rfl rfl rfl rfl rfl rfl rfl (by repeat (first | exact trivial | refine ⟨⟨rfl, rfl⟩, ?_⟩ | refine ⟨trivial, ?_⟩)) ?_ | refine rgBox (id := 29) (i := 8) rfl rfl rfl rfl rfl rfl rfl (by repeat (first | exact trivial | refine ⟨⟨rfl, rfl⟩, ?_⟩ | refine ⟨trivial, ?_⟩)) ?_ | refine rgBoxP (id := 29) (i := 8) rfl rfl rfl rfl rfl rfl rfl (by repeat (first | exact trivial | refine ⟨⟨rfl, rfl⟩, ?_⟩ | refine ⟨trivial, ?_⟩)) ?_ | refine rgStoreP _ (id := 29) (i := 8) rfl rfl rfl rfl rfl rfl rfl (by assumption) rfl rfl rfl (by repeat (first | exact trivial | refine ⟨⟨rfl, rfl⟩, ?_⟩ | refine ⟨trivial, ?_⟩)) ?_ | (refine rgS (id := 29) (i := 8) rfl rfl rfl rfl ?_ (by repeat (first | exact trivial | refine ⟨⟨rfl, rfl⟩, ?_⟩ | refine ⟨trivial, ?_⟩)) ?_; (first | exact True.intro | rfl | assumption | omega | (simp only [inR]; omega) | ((show _ ≤ (9223372036854775807 : Nat)); (try simp only [ByteArray.size_append]); omega) | exact tmod_ok (by omega) (by omega) | exact tdiv_ok (by omega) (by omega) | exact ⟨rfl, by decide, by decide⟩)) | refine rgN ?_ | (show TmB _ _ ∧ RGo _ _ _ _ _ _ _ _ _; refine ⟨(by repeat (first | exact trivial | refine ⟨rfl, ?_⟩)), ?_⟩) | refine zS rfl ?_ | refine qA ?_ | refine qB rfl ?_ | refine qC (by kernel_rfl) ?_ | refine qD ?_ | refine qE ?_ | refine qF ?_ | refine qG ?_ | refine qH rfl ?_ | (refine qS rfl ⟨by simp, fun d hd => by (obtain rfl := List.mem_singleton.1 hd; rfl), by (show ((a :: q).length + 1) * 24 ≤ 140737488355328; omega), by (show (a :: q).length + 1 ≤ 9223372036854775807; omega)⟩ ?_) | refine qP rfl rfl rfl rfl rfl rfl b13 (h1) ?_ | refine qP rfl rfl rfl rfl rfl rfl b13 (h2) ?_ | refine rgS (id := 28) (i := 6) rfl rfl rfl rfl (⟨by simp, fun d hd => by (obtain rfl := List.mem_singleton.1 hd; rfl), by (show ((b :: r).length + 1) * 24 ≤ 140737488355328; omega), by (show (b :: r).length + 1 ≤ 9223372036854775807; omega)⟩) (by repeat (first | exact trivial | refine ⟨⟨rfl, rfl⟩, ?_⟩ | refine ⟨trivial, ?_⟩)) ?_ | refine rgS (id := 29) (i := 6) rfl rfl rfl rfl (⟨by simp, fun d hd => by (obtain rfl := List.mem_singleton.1 hd; rfl), by (show ((c :: u).length + 1) * 24 ≤ 140737488355328; omega), by (show (c :: u).length + 1 ≤ 9223372036854775807; omega)⟩) (by repeat (first | exact trivial | refine ⟨⟨rfl, rfl⟩, ?_⟩ | refine ⟨trivial, ?_⟩)) ?_ | refine zT rfl ?_ | refine zU rfl ?_ | refine qL rfl rfl ?_ | refine qM rfl rfl rfl ?_ | refine qO rfl rfl rfl ?_ | refine zX rfl rfl rfl rfl ?_ | refine zW rfl rfl rfl rfl ?_ | (refine qY rfl rfl rfl rfl ?_ ?_ <;> intro _) | exact zD | exact zL)
          refine go_stop ?_
          refine ⟨⟨i + 1, by omega⟩, by dsimp only; omega, ?_⟩
          dsimp only
          rw [hn1, hn2, hn3]
          exact (zren [0, 1, 2, 6, 7, 8])
        | [], b :: r, _, hl1, hl2, hl3 => simp at hl1 hl2; omega
        | [], [], c :: u, hl1, hl2, hl3 => simp at hl1 hl3; omega
        | a :: q, [], _, hl1, hl2, hl3 => simp at hl1 hl2; omega
        | a :: q, b :: r, [], hl1, hl2, hl3 => simp at hl1 hl3; omega
    · have g1 : decide ((i : Int) < ((T.map D.str).length : Int)) = false := by rw [hTn]; simp; omega
      rw [List.take_of_length_le hge]
      clear hT hL hS hLe hTe
      refine qA ?_
      match T with
      | [] =>
        refine go_weaken (Le.objW 2 (c' := .cs [.d (.int (g.nodes.map encNd).length), .d (.int (g.edges.map encEd).length), .d (.sl ((lbC g L).map encCT)), .d (.sl []), .d (.sl []), .d (.sl [])]) rfl rfl nz3) ?_
        repeat' (first | refine zS rfl ?_ | refine qA ?_ | refine qB rfl ?_ | refine qC (by kernel_rfl) ?_ | refine qD ?_ | refine qE ?_ | refine qF ?_ | refine qG ?_ | refine qH rfl ?_ | refine zT rfl ?_ | refine zU rfl ?_ | refine qL rfl rfl ?_ | refine qM rfl rfl rfl ?_ | refine qO rfl rfl rfl ?_ | refine zX rfl rfl rfl rfl ?_ | refine zW rfl rfl rfl rfl ?_ | (refine qY rfl rfl rfl rfl ?_ ?_ <;> intro _) | exact zD | exact zL)
      | t :: r =>
        dsimp only [tyC, sqC, List.map, fZ, fZO]
        refine go_frz 3 rfl ?_
        refine go_frz 4 rfl ?_
        refine go_frz 5 rfl ?_
        repeat' (first | refine zS rfl ?_ | refine qA ?_ | refine qB rfl ?_ | refine qC (by kernel_rfl) ?_ | refine qD ?_ | refine qE ?_ | refine qF ?_ | refine qG ?_ | refine qH rfl ?_ | refine zT rfl ?_ | refine zU rfl ?_ | refine qL rfl rfl ?_ | refine qM rfl rfl rfl ?_ | refine qO rfl rfl rfl ?_ | refine zX rfl rfl rfl rfl ?_ | refine zW rfl rfl rfl rfl ?_ | (refine qY rfl rfl rfl rfl ?_ ?_ <;> intro _) | exact zD | exact zL)
end Go.Proofs.YtkjebcnlmanhlaaGreatDoor
