/- The search through the assignments of a conjunctive query, variable by variable: what it finds, in rising order, are just the tuples that satisfy all relations; The specification's check of graphs; The specification's check of graphs, of its nodes and edges; it is the program's; The specification's check of graphs as a whole: the program's; Types and labels held, an atom that holds for a node, by both texts; what the test of small graphs grants; The row of an assignment of ids to an atom's variables, in plain Lean; the program's tuple; The specification's row of an edge, as the program's: ids . Conditions: each part's own, as it says. -/
import Derived.Test.YtenpjlghikohmaaGreatDoorGC
import Derived.Test.YtenpjlghikohmaaGreatDoorWA
import Derived.Test.YtenpjlghikohmaaGreatDoorZA
import Derived.Test.YtenpjlghikohmaaGreatDoorGG
import Derived.Test.YtenpjlghikohmaaGreatDoorMB
import Derived.Test.YtenpjlghikohmaaGreatDoorLA
import Derived.Test.YtenpjlghikohmaaGreatDoorLB
set_option linter.unusedVariables false
set_option linter.unusedSimpArgs false
namespace Go.Proofs.YtenpjlghikohmaaGreatDoor
set_option maxRecDepth 4000
theorem maxQ_of {l : List Int} (h : l ≠ []) : ∃ m ∈ l, ∀ x ∈ l, x ≤ m := by
 induction l with
 | nil => exact absurd rfl h
 | cons a r ih =>
  cases r with
  | nil => exact ⟨a, by simp, fun x hx => by simp at hx; omega⟩
  | cons b r =>
   obtain ⟨m, hm, hx⟩ := ih (by simp)
   rcases Int.le_total a m with h1 | h1
   ·refine ⟨m, List.mem_cons_of_mem _ hm, fun x h2 => ?_⟩
    rcases List.mem_cons.1 h2 with e | e
    ·omega
    ·exact hx x e
   ·refine ⟨a, by simp, fun x h2 => ?_⟩
    rcases List.mem_cons.1 h2 with e | e
    ·omega
    ·have := hx x e; omega
open Go Go.Abs Go.Val Go.Proofs.Tryz
attribute [local irreducible] Ev EvO EvS ExtEv HasBody PGo RGo SGo go
theorem rises_ev (l : List ByteArray) : Ev E 322 [.sl (l.map .str)] (.d (.bool (riseF l))) := Ev.fit fun hfit => by
 have hmax := (fit_map (hfit (.sl (l.map .str)) (by simp))).1
 have hle : (l.map D.str).length = l.length := by simp
 by_cases h0 : l = []
 ·subst h0
  refine ye1 func322 ntmps322 fun _ _ _=>?_
  repeat' (first | refine yz ?_ | refine yx ?_ | (refine yy ?_ ?_ <;> intro _) | exact zD | exact zL)
  refine go_loop_ (α := Unit) (fun p => ⟨[(0, .d (.sl [])), (3, .d (.int 1))], []⟩) (fun p => 0) () (zle 0) ?_
  rintro -
  have g1 : decide ((1 : Int) < (([] : List D).length : Int)) = false := rfl
  repeat' (first | refine yz ?_ | refine yx ?_ | (refine yy ?_ ?_ <;> intro _) | exact zD | exact zL)
 have hp := List.length_pos_iff.2 h0
 refine ye1 func322 ntmps322 fun _ _ _=>?_
 repeat' (first | refine yz ?_ | refine yx ?_ | (refine yy ?_ ?_ <;> intro _) | exact zD | exact zL)
 refine go_loop_ (α := SRs l) (fun p => ⟨[(0, .d (.sl (l.map .str))), (3, .d (.int ((p.i + 1 : Nat) : Int)))], []⟩) (fun p => l.length - p.i) ⟨0, by omega, rfl⟩ (zle 0) ?_
 rintro ⟨i, hi, ok⟩
 dsimp only
 rcases Nat.lt_or_ge (i + 1) l.length with hlt | hge
 ·have g1 : decide (((i + 1 : Nat) : Int) < ((l.map D.str).length : Int)) = true := by rw [hle]; simp; omega
  have ha0 := List.getElem?_eq_getElem (show i < l.length by omega)
  have hb0 := List.getElem?_eq_getElem hlt
  generalize l[i] = a at ha0
  generalize l[i + 1] = b at hb0
  have hb := map_at (f := D.str) hb0
  have ha : (l.map D.str)[(((i + 1 : Nat) : Int) - 1).toNat]? = some (.str a) := by
   rw [show (((i + 1 : Nat) : Int) - 1) = (i : Int) by omega]; exact map_at (f := D.str) ha0
  have g2 := leq_not a b
  rw [ok, rise_at ha0 hb0]
  cases hc : Op.bytesLess a.toList b.toList with
  | true =>
   rw [hc] at g2
   repeat' (first | refine yz ?_ | refine yi (.str b) hb ?_ | refine yi (.str a) ha ?_ | refine yx ?_ | (refine yy ?_ ?_ <;> intro _) | exact zD | exact zL)
   refine go_stop ?_
   exact ⟨⟨i + 1, hlt, by rw [ok, rise_at ha0 hb0, hc]; rfl⟩, by dsimp only; omega, (zle 0)⟩
  | false =>
   rw [hc] at g2
   repeat' (first | refine yz ?_ | refine yi (.str b) hb ?_ | refine yi (.str a) ha ?_ | refine yx ?_ | (refine yy ?_ ?_ <;> intro _) | exact zD | exact zL)
 ·have g1 : decide (((i + 1 : Nat) : Int) < ((l.map D.str).length : Int)) = false := by rw [hle]; simp; omega
  rw [ok, rise_end (by omega)]
  repeat' (first | refine yz ?_ | refine yx ?_ | (refine yy ?_ ?_ <;> intro _) | exact zD | exact zL)
theorem rnames_ev (l : List ByteArray) : Ev E 321 [.sl (l.map .str)] (.d (.bool (!l.any fun s => !nameF s))) := Ev.fit fun hfit => by
 have hmax := (fit_map (hfit (.sl (l.map .str)) (by simp))).1
 have hle : (l.map D.str).length = l.length := by simp
 refine ye1 func321 ntmps321 fun _ _ _=>?_
 repeat' (first | refine yz ?_ | refine yx ?_ | (refine yy ?_ ?_ <;> intro _) | exact zD | exact zL)
 refine go_loop_ (α := SAn l fun s => !nameF s) (fun p => ⟨[(0, .d (.sl (l.map .str))), (3, .d (.int p.i))], []⟩) (fun p => l.length - p.i) ⟨0, by omega, rfl⟩ (zle 0) ?_
 rintro ⟨i, hi, ok⟩
 dsimp only
 rcases Nat.lt_or_ge i l.length with hlt | hge
 ·have g1 : decide ((i : Int) < ((l.map D.str).length : Int)) = true := by rw [hle]; simpa using hlt
  have hx0 := List.getElem?_eq_getElem hlt
  generalize l[i] = x at hx0
  have hx := map_at (f := D.str) hx0
  have h := rname_ev x
  rw [ok, anyW_at hx0]
  cases hc : nameF x with
  | true =>
   rw [hc] at h
   repeat' (first | refine yz ?_ | refine yi (.str x) hx ?_ | refine yp b162 h ?_ | refine yx ?_ | (refine yy ?_ ?_ <;> intro _) | exact zD | exact zL)
   refine go_stop ?_
   exact ⟨⟨i + 1, by omega, by rw [ok, anyW_at hx0, hc]; rfl⟩, by dsimp only; omega, (zle 0)⟩
  | false =>
   rw [hc] at h
   repeat' (first | refine yz ?_ | refine yi (.str x) hx ?_ | refine yp b162 h ?_ | refine yx ?_ | (refine yy ?_ ?_ <;> intro _) | exact zD | exact zL)
 ·have g1 : decide ((i : Int) < ((l.map D.str).length : Int)) = false := by rw [hle]; simp; omega
  rw [ok, List.drop_eq_nil_of_le hge]
  repeat' (first | refine yz ?_ | refine yx ?_ | (refine yy ?_ ?_ <;> intro _) | exact zD | exact zL)
theorem rkeys_ev (l : List Pr) (hpl : l.length ≤ 16) : Ev E 320 [.sl (l.map encPr)] (.d (.sl ((keyL l).map .str))) := by
 have hl2 : (l.map encPr).length = l.length := by simp
 refine ye1 func320 ntmps320 fun _ _ _=>?_
 repeat' (first | refine yz ?_ | refine yx ?_ | (refine yy ?_ ?_ <;> intro _) | exact zD | exact zL)
 refine go_loop_ (α := SKl l) (fun p => ⟨[(3, rowK 0 ((keyL (l.take p.i)).map .str)), (0, .d (.sl (l.map encPr))), (4, .d (.int p.i))], rowO 9 1 ((keyL (l.take p.i)).map .str)⟩) (fun p => l.length - p.i) ⟨0, by omega⟩ (zle 0) ?_
 rintro ⟨i, hi⟩
 dsimp only
 have hol : ((keyL (l.take i)).map D.str).length ≤ 1000000 := by simp [keyL]; omega
 rcases Nat.lt_or_ge i l.length with hlt | hge
 ·have g1 : decide ((i : Int) < ((l.map encPr).length : Int)) = true := by rw [hl2]; simpa using hlt
  have hx0 := List.getElem?_eq_getElem hlt
  generalize l[i] = x at hx0
  have hx := map_at (f := encPr) hx0
  have hnx := keyL_next hx0
  generalize (keyL (l.take i)).map D.str = o at *
  match o, hol with
  | [], hol =>
   dsimp only [rowK, rowO]
   repeat' (first | refine yz ?_ | refine yi (encPr x) hx ?_ | (refine qS rfl ⟨by simp, fun d hd => by (obtain rfl := List.mem_singleton.1 hd; rfl), by (show (0 + 1) * 16 ≤ 140737488355328; omega), by (show 0 + 1 ≤ 9223372036854775807; omega)⟩ ?_) | refine yx ?_ | (refine yy ?_ ?_ <;> intro _) | exact zD | exact zL)
   refine go_stop ?_
   refine ⟨⟨i + 1, by omega⟩, by dsimp only; omega, ?_⟩
   dsimp only
   rw [hnx]
   exact (zren [0])
  | a :: q, hol =>
   dsimp only [rowK, rowO]
   repeat' (first | refine yz ?_ | refine yi (encPr x) hx ?_ | (refine qS rfl ⟨by simp, fun d hd => by (obtain rfl := List.mem_singleton.1 hd; rfl), by (show ((a :: q).length + 1) * 16 ≤ 140737488355328; omega), by (show (a :: q).length + 1 ≤ 9223372036854775807; omega)⟩ ?_) | refine yx ?_ | (refine yy ?_ ?_ <;> intro _) | exact zD | exact zL)
   refine go_stop ?_
   refine ⟨⟨i + 1, by omega⟩, by dsimp only; omega, ?_⟩
   dsimp only
   rw [hnx]
   exact (zren [1])
 ·have g1 : decide ((i : Int) < ((l.map encPr).length : Int)) = false := by rw [hl2]; simp; omega
  rw [List.take_of_length_le hge]
  refine go_rowD (ob := []) rfl rfl (by repeat (first | exact trivial | refine ⟨rfl, ?_⟩)) (by repeat (first | exact trivial | refine ⟨rfl, ?_⟩)) ?_
  repeat' (first | refine yz ?_ | refine yx ?_ | (refine yy ?_ ?_ <;> intro _) | exact zD | exact zL)
set_option maxHeartbeats 2000000 in
theorem rparts_ev (labels : List ByteArray) (props : List Pr) : Ev E 250 [.sl (labels.map .str), .sl (props.map encPr)] (.d (.int (partF labels props))) := by
 have hl1 : (labels.map D.str).length = labels.length := by simp
 have hl2 : (props.map encPr).length = props.length := by simp
 have e1 : decide (((labels.map D.str).length : Int) > 8) = decide (labels.length > 8) := by rw [hl1, decide_eq_decide]; omega
 have e2 : decide (((props.map encPr).length : Int) > 16) = decide (props.length > 16) := by rw [hl2, decide_eq_decide]; omega
 have h1 := rnames_ev labels
 have h2 := rnames_ev (keyL props)
 have h3 := rises_ev labels
 have h4 := rises_ev (keyL props)
 unfold partF
 rw [← e1, ← e2]
 cases c1 : decide (((labels.map D.str).length : Int) > 8) with
 | true =>
  refine ye2 func250 ntmps250 fun _ _ _=>?_
  repeat' (first | refine yz ?_ | refine yx ?_ | (refine yy ?_ ?_ <;> intro _) | exact zD | exact zL)
 | false =>
 cases c2 : decide (((props.map encPr).length : Int) > 16) with
 | true =>
  refine ye2 func250 ntmps250 fun _ _ _=>?_
  repeat' (first | refine yz ?_ | refine yx ?_ | (refine yy ?_ ?_ <;> intro _) | exact zD | exact zL)
 | false =>
 have hpl : props.length ≤ 16 := by have := of_decide_eq_false c2; omega
 have h5 := rkeys_ev props hpl
 simp only [Bool.or_false, cond_false]
 cases a1 : labels.any fun s => !nameF s with
 | true =>
  rw [a1] at h1
  refine ye2 func250 ntmps250 fun _ _ _=>?_
  repeat' (first | refine yz ?_ | refine yp b320 h5 ?_ | refine yp b321 h1 ?_ | refine yx ?_ | (refine yy ?_ ?_ <;> intro _) | exact zD | exact zL)
 | false =>
 cases a2 : (keyL props).any fun s => !nameF s with
 | true =>
  rw [a1] at h1
  rw [a2] at h2
  refine ye2 func250 ntmps250 fun _ _ _=>?_
  repeat' (first | refine yz ?_ | refine yp b320 h5 ?_ | refine yp b321 h1 ?_ | refine yp b321 h2 ?_ | refine yx ?_ | (refine yy ?_ ?_ <;> intro _) | exact zD | exact zL)
 | false =>
 cases a3 : riseF labels with
 | false =>
  rw [a1] at h1
  rw [a2] at h2
  rw [a3] at h3
  refine ye2 func250 ntmps250 fun _ _ _=>?_
  repeat' (first | refine yz ?_ | refine yp b320 h5 ?_ | refine yp b321 h1 ?_ | refine yp b321 h2 ?_ | refine yp b322 h3 ?_ | refine yx ?_ | (refine yy ?_ ?_ <;> intro _) | exact zD | exact zL)
 | true =>
 cases a4 : riseF (keyL props) with
 | false =>
  rw [a1] at h1
  rw [a2] at h2
  rw [a3] at h3
  rw [a4] at h4
  refine ye2 func250 ntmps250 fun _ _ _=>?_
  repeat' (first | refine yz ?_ | refine yp b320 h5 ?_ | refine yp b321 h1 ?_ | refine yp b321 h2 ?_ | refine yp b322 h3 ?_ | refine yp b322 h4 ?_ | refine yx ?_ | (refine yy ?_ ?_ <;> intro _) | exact zD | exact zL)
 | true =>
  rw [a1] at h1
  rw [a2] at h2
  rw [a3] at h3
  rw [a4] at h4
  simp only [Bool.or_false, Bool.not_true, cond_false]
  refine ye2 func250 ntmps250 fun _ _ _=>?_
  repeat' (first | refine yz ?_ | refine yp b320 h5 ?_ | refine yp b321 h1 ?_ | refine yp b321 h2 ?_ | refine yp b322 h3 ?_ | refine yp b322 h4 ?_ | refine yx ?_ | (refine yy ?_ ?_ <;> intro _) | exact zD | exact zL)
  refine go_loop_ (α := SAn props fun p => !plainF p.v) (fun p => ⟨[(1, .d (.sl (props.map encPr))), (6, .d (.int p.i))], []⟩) (fun p => props.length - p.i) ⟨0, by omega, rfl⟩ (zle 0) ?_
  rintro ⟨j, hj, ok⟩
  dsimp only
  rcases Nat.lt_or_ge j props.length with hlt | hge2
  ·have g1 : decide ((j : Int) < ((props.map encPr).length : Int)) = true := by rw [hl2]; simpa using hlt
   have hx0 := List.getElem?_eq_getElem hlt
   generalize props[j] = x at hx0
   obtain ⟨xk, ⟨vk, vn, vd, vS, vl⟩⟩ := x
   have hx := map_at (f := encPr) hx0
   have h6 := RPlain_ev (.mk vk vn vd vS vl)
   rw [ok, anyW_at hx0]
   cases a5 : plainF (.mk vk vn vd vS vl) with
   | false =>
    rw [a5] at h6
    repeat' (first | refine yz ?_ | refine yi _ hx ?_ | refine yp b161 h6 ?_ | refine yx ?_ | (refine yy ?_ ?_ <;> intro _) | exact zD | exact zL)
   | true =>
    rw [a5] at h6
    repeat' (first | refine yz ?_ | refine yi _ hx ?_ | refine yp b161 h6 ?_ | refine yx ?_ | (refine yy ?_ ?_ <;> intro _) | exact zD | exact zL)
    refine go_stop ?_
    exact ⟨⟨j + 1, by omega, by rw [ok, anyW_at hx0, a5]; rfl⟩, by dsimp only; omega, (zle 0)⟩
  ·have g1 : decide ((j : Int) < ((props.map encPr).length : Int)) = false := by rw [hl2]; simp; omega
   rw [ok, List.drop_eq_nil_of_le hge2]
   repeat' (first | refine yz ?_ | refine yx ?_ | (refine yy ?_ ?_ <;> intro _) | exact zD | exact zL)
theorem rnode_ev (g : Gr) (i : Nat) (n : Nd) (hn : g.nodes[i]? = some n) : Ev E 156 [encGr g, .int i] (.d (.int (okNd (prevN g.nodes i) g.nn n))) := Ev.fit fun hfit => by
 obtain ⟨f1, -⟩ := fit_gr (g := g) (hfit _ (by simp))
 obtain ⟨hmax, -⟩ := fit_map f1
 have hle : (g.nodes.map encNd).length = g.nodes.length := by simp
 have hlt : i < g.nodes.length := (List.getElem?_eq_some_iff.1 hn).1
 have hx := map_at (f := encNd) hn
 have h5 := rparts_ev n.labels n.props
 cases i with
 | zero =>
  have g0 : decide (((0 : Nat) : Int) > 0) = false := rfl
  show Ev E 156 [encGr g, .int (0 : Nat)] (.d (.int (bif decide (n.id < 1) || decide (n.id ≥ g.nn) then 1 else partF n.labels n.props)))
  cases c1 : decide (n.id < 1) with
  | true =>
   refine ye2 func156 ntmps156 fun _ _ _=>?_
   repeat' (first | refine yz ?_ | refine yi (encNd n) hx ?_ | refine yp b250 h5 ?_ | refine yx ?_ | (refine yy ?_ ?_ <;> intro _) | exact zD | exact zL)
  | false =>
  cases c2 : decide (n.id ≥ g.nn) with
  | true =>
   refine ye2 func156 ntmps156 fun _ _ _=>?_
   repeat' (first | refine yz ?_ | refine yi (encNd n) hx ?_ | refine yp b250 h5 ?_ | refine yx ?_ | (refine yy ?_ ?_ <;> intro _) | exact zD | exact zL)
  | false =>
   refine ye2 func156 ntmps156 fun _ _ _=>?_
   repeat' (first | refine yz ?_ | refine yi (encNd n) hx ?_ | refine yp b250 h5 ?_ | refine yx ?_ | (refine yy ?_ ?_ <;> intro _) | exact zD | exact zL)
 | succ j =>
  have hp0 := List.getElem?_eq_getElem (show j < g.nodes.length by omega)
  generalize g.nodes[j] = p at hp0
  have hp : (g.nodes.map encNd)[(((j + 1 : Nat) : Int) - 1).toNat]? = some (encNd p) := by
   rw [show (((j + 1 : Nat) : Int) - 1) = (j : Int) by omega]; exact map_at (f := encNd) hp0
  have g0 : decide (((j + 1 : Nat) : Int) > 0) = true := by simp
  have e : prevN g.nodes (j + 1) = some p.id := by show (g.nodes[j]?).map Nd.id = _; rw [hp0]; rfl
  rw [e]
  show Ev E 156 [encGr g, .int (j + 1 : Nat)] (.d (.int (bif decide (n.id ≤ p.id) then 26 else bif decide (n.id < 1) || decide (n.id ≥ g.nn) then 1 else partF n.labels n.props)))
  cases c0 : decide (n.id ≤ p.id) with
  | true =>
   refine ye2 func156 ntmps156 fun _ _ _=>?_
   repeat' (first | refine yz ?_ | refine yi (encNd n) hx ?_ | refine yi (encNd p) hp ?_ | refine yp b250 h5 ?_ | refine yx ?_ | (refine yy ?_ ?_ <;> intro _) | exact zD | exact zL)
  | false =>
  cases c1 : decide (n.id < 1) with
  | true =>
   refine ye2 func156 ntmps156 fun _ _ _=>?_
   repeat' (first | refine yz ?_ | refine yi (encNd n) hx ?_ | refine yi (encNd p) hp ?_ | refine yp b250 h5 ?_ | refine yx ?_ | (refine yy ?_ ?_ <;> intro _) | exact zD | exact zL)
  | false =>
  cases c2 : decide (n.id ≥ g.nn) with
  | true =>
   refine ye2 func156 ntmps156 fun _ _ _=>?_
   repeat' (first | refine yz ?_ | refine yi (encNd n) hx ?_ | refine yi (encNd p) hp ?_ | refine yp b250 h5 ?_ | refine yx ?_ | (refine yy ?_ ?_ <;> intro _) | exact zD | exact zL)
  | false =>
   refine ye2 func156 ntmps156 fun _ _ _=>?_
   repeat' (first | refine yz ?_ | refine yi (encNd n) hx ?_ | refine yi (encNd p) hp ?_ | refine yp b250 h5 ?_ | refine yx ?_ | (refine yy ?_ ?_ <;> intro _) | exact zD | exact zL)
def okEr (prev : Option Int) (g : Gr) (e : Ed) : Int :=
 bif (match prev with | some p => decide (e.id ≤ p) | none => false) then 26 else
 bif decide (e.id < 1) || decide (e.id ≥ g.ne) then 1 else
 bif !(findN g.nodes e.src).isSome || !(findN g.nodes e.dst).isSome then 10 else
 bif !nameF e.ty then 6 else partF [] e.props
theorem redge_ev (g : Gr) (i : Nat) (n : Ed) (hn : g.edges[i]? = some n) : Ev E 157 [encGr g, .int i] (.d (.int (okEr (prevE g.edges i) g n))) := Ev.fit fun hfit => by
 obtain ⟨-, f1⟩ := fit_gr (g := g) (hfit _ (by simp))
 obtain ⟨hmax, -⟩ := fit_map f1
 have hle : (g.edges.map encEd).length = g.edges.length := by simp
 have hlt : i < g.edges.length := (List.getElem?_eq_some_iff.1 hn).1
 have hx := map_at (f := encEd) hn
 have h1 := rnode_of g n.src
 have h2 := rnode_of g n.dst
 have h3 := rname_ev n.ty
 have h5 := rparts_ev [] n.props
 rw [show (.sl (([] : List ByteArray).map D.str) : D) = .sl [] from rfl] at h5
 obtain ⟨y, hy⟩ : ∃ y, okEr (prevE g.edges i) g n = y := ⟨_, rfl⟩
 rw [hy]
 unfold okEr at hy
 cases i with
 | zero =>
  have g0 : decide (((0 : Nat) : Int) > 0) = false := rfl
  have hy : (bif decide (n.id < 1) || decide (n.id ≥ g.ne) then (1 : Int) else bif !(findN g.nodes n.src).isSome || !(findN g.nodes n.dst).isSome then 10 else bif !nameF n.ty then 6 else partF [] n.props) = y := hy
  cases c1 : decide (n.id < 1) with
  | true =>
   rw [c1] at hy; subst hy
   refine ye2 func157 ntmps157 fun _ _ _=>?_
   repeat' (first | refine yz ?_ | refine yi (encEd n) hx ?_ | refine yx ?_ | (refine yy ?_ ?_ <;> intro _) | exact zD | exact zL)
  | false =>
  cases c2 : decide (n.id ≥ g.ne) with
  | true =>
   rw [c1, c2] at hy; subst hy
   refine ye2 func157 ntmps157 fun _ _ _=>?_
   repeat' (first | refine yz ?_ | refine yi (encEd n) hx ?_ | refine yx ?_ | (refine yy ?_ ?_ <;> intro _) | exact zD | exact zL)
  | false =>
  cases c3 : (findN g.nodes n.src).isSome with
  | false =>
   rw [c3] at h1
   rw [c1, c2, c3] at hy; subst hy
   refine ye2 func157 ntmps157 fun _ _ _=>?_
   repeat' (first | refine yz ?_ | refine yi (encEd n) hx ?_ | refine yp b251 h1 ?_ | refine yp b251 h2 ?_ | refine yx ?_ | (refine yy ?_ ?_ <;> intro _) | exact zD | exact zL)
  | true =>
  cases c4 : (findN g.nodes n.dst).isSome with
  | false =>
   rw [c3] at h1
   rw [c4] at h2
   rw [c1, c2, c3, c4] at hy; subst hy
   refine ye2 func157 ntmps157 fun _ _ _=>?_
   repeat' (first | refine yz ?_ | refine yi (encEd n) hx ?_ | refine yp b251 h1 ?_ | refine yp b251 h2 ?_ | refine yx ?_ | (refine yy ?_ ?_ <;> intro _) | exact zD | exact zL)
  | true =>
  rw [c3] at h1
  rw [c4] at h2
  cases c5 : nameF n.ty with
  | false =>
   rw [c5] at h3
   rw [c1, c2, c3, c4, c5] at hy; subst hy
   refine ye2 func157 ntmps157 fun _ _ _=>?_
   repeat' (first | refine yz ?_ | refine yi (encEd n) hx ?_ | refine yp b251 h1 ?_ | refine yp b251 h2 ?_ | refine yp b162 h3 ?_ | refine yx ?_ | (refine yy ?_ ?_ <;> intro _) | exact zD | exact zL)
  | true =>
   rw [c5] at h3
   rw [c1, c2, c3, c4, c5] at hy
   have hy : partF [] n.props = y := hy
   rw [hy] at h5
   refine ye2 func157 ntmps157 fun _ _ _=>?_
   repeat' (first | refine yz ?_ | refine yi (encEd n) hx ?_ | refine yp b251 h1 ?_ | refine yp b251 h2 ?_ | refine yp b162 h3 ?_ | refine yp b250 h5 ?_ | refine yx ?_ | (refine yy ?_ ?_ <;> intro _) | exact zD | exact zL)
 | succ j =>
  have hp0 := List.getElem?_eq_getElem (show j < g.edges.length by omega)
  generalize g.edges[j] = p at hp0
  have hp : (g.edges.map encEd)[(((j + 1 : Nat) : Int) - 1).toNat]? = some (encEd p) := by
   rw [show (((j + 1 : Nat) : Int) - 1) = (j : Int) by omega]; exact map_at (f := encEd) hp0
  have g0 : decide (((j + 1 : Nat) : Int) > 0) = true := by simp
  have e : prevE g.edges (j + 1) = some p.id := by show (g.edges[j]?).map Ed.id = _; rw [hp0]; rfl
  rw [e] at hy
  have hy : (bif decide (n.id ≤ p.id) then (26 : Int) else bif decide (n.id < 1) || decide (n.id ≥ g.ne) then (1 : Int) else bif !(findN g.nodes n.src).isSome || !(findN g.nodes n.dst).isSome then 10 else bif !nameF n.ty then 6 else partF [] n.props) = y := hy
  cases c0 : decide (n.id ≤ p.id) with
  | true =>
   rw [c0] at hy; subst hy
   refine ye2 func157 ntmps157 fun _ _ _=>?_
   repeat' (first | refine yz ?_ | refine yi (encEd n) hx ?_ | refine yi (encEd p) hp ?_ | refine yx ?_ | (refine yy ?_ ?_ <;> intro _) | exact zD | exact zL)
  | false =>
  rw [c0] at hy
  cases c1 : decide (n.id < 1) with
  | true =>
   rw [c1] at hy; subst hy
   refine ye2 func157 ntmps157 fun _ _ _=>?_
   repeat' (first | refine yz ?_ | refine yi (encEd n) hx ?_ | refine yi (encEd p) hp ?_ | refine yx ?_ | (refine yy ?_ ?_ <;> intro _) | exact zD | exact zL)
  | false =>
  cases c2 : decide (n.id ≥ g.ne) with
  | true =>
   rw [c1, c2] at hy; subst hy
   refine ye2 func157 ntmps157 fun _ _ _=>?_
   repeat' (first | refine yz ?_ | refine yi (encEd n) hx ?_ | refine yi (encEd p) hp ?_ | refine yx ?_ | (refine yy ?_ ?_ <;> intro _) | exact zD | exact zL)
  | false =>
  cases c3 : (findN g.nodes n.src).isSome with
  | false =>
   rw [c3] at h1
   rw [c1, c2, c3] at hy; subst hy
   refine ye2 func157 ntmps157 fun _ _ _=>?_
   repeat' (first | refine yz ?_ | refine yi (encEd n) hx ?_ | refine yi (encEd p) hp ?_ | refine yp b251 h1 ?_ | refine yp b251 h2 ?_ | refine yx ?_ | (refine yy ?_ ?_ <;> intro _) | exact zD | exact zL)
  | true =>
  cases c4 : (findN g.nodes n.dst).isSome with
  | false =>
   rw [c3] at h1
   rw [c4] at h2
   rw [c1, c2, c3, c4] at hy; subst hy
   refine ye2 func157 ntmps157 fun _ _ _=>?_
   repeat' (first | refine yz ?_ | refine yi (encEd n) hx ?_ | refine yi (encEd p) hp ?_ | refine yp b251 h1 ?_ | refine yp b251 h2 ?_ | refine yx ?_ | (refine yy ?_ ?_ <;> intro _) | exact zD | exact zL)
  | true =>
  rw [c3] at h1
  rw [c4] at h2
  cases c5 : nameF n.ty with
  | false =>
   rw [c5] at h3
   rw [c1, c2, c3, c4, c5] at hy; subst hy
   refine ye2 func157 ntmps157 fun _ _ _=>?_
   repeat' (first | refine yz ?_ | refine yi (encEd n) hx ?_ | refine yi (encEd p) hp ?_ | refine yp b251 h1 ?_ | refine yp b251 h2 ?_ | refine yp b162 h3 ?_ | refine yx ?_ | (refine yy ?_ ?_ <;> intro _) | exact zD | exact zL)
  | true =>
   rw [c5] at h3
   rw [c1, c2, c3, c4, c5] at hy
   have hy : partF [] n.props = y := hy
   rw [hy] at h5
   refine ye2 func157 ntmps157 fun _ _ _=>?_
   repeat' (first | refine yz ?_ | refine yi (encEd n) hx ?_ | refine yi (encEd p) hp ?_ | refine yp b251 h1 ?_ | refine yp b251 h2 ?_ | refine yp b162 h3 ?_ | refine yp b250 h5 ?_ | refine yx ?_ | (refine yy ?_ ?_ <;> intro _) | exact zD | exact zL)
theorem cmpI_lt (x y : Int) : (decide (Lib.compareInt x y < 0)) = decide (x < y) := by
 unfold Lib.compareInt
 by_cases h1 : x < y
 ·simp [h1]
 ·by_cases h2 : x > y <;> simp [h1, h2]
theorem cmpI_eq (x y : Int) : (Lib.compareInt x y == 0) = (x == y) := by
 unfold Lib.compareInt
 by_cases h1 : x < y
 ·rw [if_pos h1]
  have : (x == y) = false := by simp; omega
  rw [this]; rfl
 ·rw [if_neg h1]
  by_cases h2 : x > y
  ·rw [if_pos h2]
   have : (x == y) = false := by simp; omega
   rw [this]; rfl
  ·rw [if_neg h2]
   have : (x == y) = true := by simp; omega
   rw [this]; rfl
theorem okNd_s {p : Option Int} {nn : Int} {n : Nd} (h : okNd p nn n = 0) : (∀ q, p = some q → q < n.id) ∧ 1 ≤ n.id := by
 have rest : (bif decide (n.id < 1) || decide (n.id ≥ nn) then (1 : Int) else partF n.labels n.props) = 0 → 1 ≤ n.id := fun h => by
  cases hd : decide (n.id < 1) with
  | true => rw [hd] at h; simp at h
  | false => have := of_decide_eq_false hd; omega
 cases p with
 | none => exact ⟨fun q hq => (by cases hq), rest h⟩
 | some p =>
  have h' : (bif decide (n.id ≤ p) then (26 : Int) else bif decide (n.id < 1) || decide (n.id ≥ nn) then 1 else partF n.labels n.props) = 0 := h
  cases hc : decide (n.id ≤ p) with
  | true => rw [hc] at h'; simp at h'
  | false =>
   rw [hc, cond_false] at h'
   have := of_decide_eq_false hc
   exact ⟨fun q hq => (by cases hq; omega), rest h'⟩
theorem nodesC_s {nn : Int} : ∀ {l : List Nd} {p : Option Int}, nodesC nn p l = 0 → (l.map Nd.id).Pairwise (· < ·) ∧ (∀ q, p = some q → ∀ n ∈ l, q < n.id) ∧ ∀ n ∈ l, 1 ≤ n.id
 | [], p, _ => by simp
 | n :: r, p, h => by
  rw [nodesC] at h
  cases hc : okNd p nn n != 0 with
  | true =>
   rw [hc, cond_true] at h
   rw [h] at hc
   simp at hc
  | false =>
   rw [hc, cond_false] at h
   have h0 : okNd p nn n = 0 := by simpa using hc
   obtain ⟨k1, k2⟩ := okNd_s h0
   obtain ⟨i1, i2, i3⟩ := nodesC_s (l := r) (p := some n.id) h
   refine ⟨?_, fun q hq m hm => ?_, fun m hm => ?_⟩
   ·rw [List.map_cons, List.pairwise_cons]
    refine ⟨fun x hx => ?_, i1⟩
    obtain ⟨m, hm, rfl⟩ := List.mem_map.1 hx
    exact i2 _ rfl m hm
   ·rcases List.mem_cons.1 hm with e | e
    ·rw [e]; exact k1 q hq
    ·have := i2 _ rfl m e
     have := k1 q hq
     omega
   ·rcases List.mem_cons.1 hm with e | e
    ·rw [e]; exact k2
    ·exact i3 m e
theorem hasI_find {l : List Nd} (hs : (l.map Nd.id).Pairwise (· < ·)) (n : Int) : hasI l n = (findN l n).isSome := by
 have mono : ∀ i j, i < j → (hj : j < l.length) → idAt l i < idAt l j := fun i j hij hj => by
  have := List.pairwise_iff_getElem.1 hs i j (by simp; omega) (by simpa using hj) hij
  unfold idAt
  rw [List.getElem?_eq_getElem hj, List.getElem?_eq_getElem (show i < l.length by omega)]
  simpa using this
 obtain ⟨-, b2, b3, b4⟩ := bsF_ok (bsP l n) 0 l.length (by omega)
 rw [show bsF (bsP l n) 0 l.length = bsR l n from rfl] at b2 b3 b4
 unfold hasI
 rw [cmpI_eq]
 apply Bool.eq_iff_iff.2
 rw [Bool.and_eq_true, decide_eq_true_eq, beq_iff_eq]
 unfold findN
 rw [List.find?_isSome]
 constructor
 ·rintro ⟨h1, h2⟩
  have hlt : bsR l n < l.length := by omega
  refine ⟨l[bsR l n], List.getElem_mem hlt, ?_⟩
  unfold idAt at h2
  rw [List.getElem?_eq_getElem hlt] at h2
  simpa using h2
 ·rintro ⟨x, hx, hxn⟩
  obtain ⟨k, hk, rfl⟩ := List.getElem_of_mem hx
  have hid : idAt l k = n := by
   unfold idAt
   rw [List.getElem?_eq_getElem hk]
   simpa using hxn
  have hle : bsR l n ≤ k := by
   rcases b3 with e | e
   ·omega
   ·rcases Nat.lt_or_ge k (bsR l n) with h | h
    ·exfalso
     unfold bsP at e
     rw [cmpI_lt] at e
     have e := of_decide_eq_true e
     rcases Nat.lt_or_ge k (bsR l n - 1) with h2 | h2
     ·have := mono k (bsR l n - 1) h2 (by omega)
      omega
     ·rw [show bsR l n - 1 = k by omega] at e
      omega
    ·exact h
  refine ⟨by omega, ?_⟩
  rcases b4 with e | e
  ·omega
  ·unfold bsP at e
   rw [cmpI_lt] at e
   have e := of_decide_eq_false e
   rcases Nat.lt_or_ge (bsR l n) k with h | h
   ·have := mono _ _ h hk
    omega
   ·rw [show bsR l n = k by omega] at e ⊢
    omega
def edgesR (g : Gr) : Option Int → List Ed → Int
 | _, [] => 0
 | prev, e :: r => bif okEr prev g e != 0 then okEr prev g e else edgesR g (some e.id) r
theorem edgesR_C {g : Gr} (hs : (g.nodes.map Nd.id).Pairwise (· < ·)) : ∀ (l : List Ed) (p : Option Int), edgesR g p l = edgesC g p l
 | [], _ => rfl
 | e :: r, p => by
  rw [edgesR, edgesC, edgesR_C hs r]
  unfold okEr okEd
  rw [hasI_find hs, hasI_find hs]
  cases p <;> rfl
theorem edgesR_at {g : Gr} {i : Nat} {e : Ed} (h : g.edges[i]? = some e) : edgesR g (prevE g.edges i) (g.edges.drop i) = bif okEr (prevE g.edges i) g e != 0 then okEr (prevE g.edges i) g e else edgesR g (prevE g.edges (i + 1)) (g.edges.drop (i + 1)) := by
 rw [drop_at h, edgesR, prevE, h]; rfl
structure SCr (g : Gr) (R : Int) where
 i : Nat
 hi : i ≤ g.edges.length
 ok : R = edgesR g (prevE g.edges i) (g.edges.drop i)
set_option maxHeartbeats 4000000 in
theorem rgcheck_ev (g : Gr) : Ev E 67 [encGr g] (.d (.int (chkG g))) := Ev.fit fun hfit => by
 obtain ⟨f1, f2⟩ := fit_gr (g := g) (hfit _ (by simp))
 obtain ⟨m1, -⟩ := fit_map f1
 obtain ⟨m2, -⟩ := fit_map f2
 have hl1 : (g.nodes.map encNd).length = g.nodes.length := by simp
 have hl2 : (g.edges.map encEd).length = g.edges.length := by simp
 have e1 : decide (((g.nodes.map encNd).length : Int) > 2000) = decide (g.nodes.length > 2000) := by rw [hl1, decide_eq_decide]; omega
 have e2 : decide (((g.edges.map encEd).length : Int) > 4000) = decide (g.edges.length > 4000) := by rw [hl2, decide_eq_decide]; omega
 obtain ⟨y, hy⟩ : ∃ y, chkG g = y := ⟨_, rfl⟩
 rw [hy]
 unfold chkG at hy
 rw [← e1, ← e2] at hy
 cases c1 : decide (((g.nodes.map encNd).length : Int) > 2000) with
 | true =>
  rw [c1] at hy; subst hy
  refine ye1 func67 ntmps67 fun _ _ _=>?_
  repeat' (first | refine yz ?_ | refine yx ?_ | (refine yy ?_ ?_ <;> intro _) | exact zD | exact zL)
 | false =>
 cases c2 : decide (((g.edges.map encEd).length : Int) > 4000) with
 | true =>
  rw [c1, c2] at hy; subst hy
  refine ye1 func67 ntmps67 fun _ _ _=>?_
  repeat' (first | refine yz ?_ | refine yx ?_ | (refine yy ?_ ?_ <;> intro _) | exact zD | exact zL)
 | false =>
 rw [c1, c2] at hy
 cases c3 : decide (g.nn < 1) with
 | true =>
  rw [c3] at hy; subst hy
  refine ye1 func67 ntmps67 fun _ _ _=>?_
  repeat' (first | refine yz ?_ | refine yx ?_ | (refine yy ?_ ?_ <;> intro _) | exact zD | exact zL)
 | false =>
 cases c4 : decide (g.nn > 1000001) with
 | true =>
  rw [c3, c4] at hy; subst hy
  refine ye1 func67 ntmps67 fun _ _ _=>?_
  repeat' (first | refine yz ?_ | refine yx ?_ | (refine yy ?_ ?_ <;> intro _) | exact zD | exact zL)
 | false =>
 cases c5 : decide (g.ne < 1) with
 | true =>
  rw [c3, c4, c5] at hy; subst hy
  refine ye1 func67 ntmps67 fun _ _ _=>?_
  repeat' (first | refine yz ?_ | refine yx ?_ | (refine yy ?_ ?_ <;> intro _) | exact zD | exact zL)
 | false =>
 cases c6 : decide (g.ne > 1000001) with
 | true =>
  rw [c3, c4, c5, c6] at hy; subst hy
  refine ye1 func67 ntmps67 fun _ _ _=>?_
  repeat' (first | refine yz ?_ | refine yx ?_ | (refine yy ?_ ?_ <;> intro _) | exact zD | exact zL)
 | false =>
 rw [c3, c4, c5, c6] at hy
 simp only [Bool.or_false, cond_false] at hy
 have hN : nodesC g.nn none g.nodes ≠ 0 → y = nodesC g.nn none g.nodes := fun h => by
  have : (nodesC g.nn none g.nodes != 0) = true := by simpa using h
  rw [this, cond_true] at hy
  exact hy.symm
 have hE : nodesC g.nn none g.nodes = 0 → y = edgesR g none g.edges := fun h => by
  have : (nodesC g.nn none g.nodes != 0) = false := by simpa using h
  rw [this, cond_false] at hy
  rw [edgesR_C (nodesC_s h).1]
  exact hy.symm
 clear hy
 generalize hR : nodesC g.nn none g.nodes = R at hN hE
 refine ye1 func67 ntmps67 fun _ _ _=>?_
 repeat' (first | refine yz ?_ | refine yx ?_ | (refine yy ?_ ?_ <;> intro _) | exact zD | exact zL)
 refine go_loop_ (α := SCk g R) (fun p => ⟨[(1, .ptr 0 0), (3, .d (.int p.i))], [.var 38 (.w (.d (encGr g)))]⟩) (fun p => g.nodes.length - p.i) ⟨0, by omega, hR.symm⟩ (zle 1) ?_
 rintro ⟨i, hi, ok⟩
 dsimp only
 rcases Nat.lt_or_ge i g.nodes.length with hlt | hge
 ·have g1 : decide ((i : Int) < ((g.nodes.map encNd).length : Int)) = true := by rw [hl1]; simpa using hlt
  have hx0 := List.getElem?_eq_getElem hlt
  generalize g.nodes[i] = x at hx0
  have h := rnode_ev g i x hx0
  rw [nodesC_at hx0] at ok
  generalize okNd (prevN g.nodes i) g.nn x = z at *
  cases hc : z != 0 with
  | true =>
   rw [hc, cond_true] at ok
   have : y = z := by rw [← ok]; exact hN (by rw [ok]; simpa using hc)
   rw [this]
   repeat' (first | refine yz ?_ | refine yp b156 h ?_ | refine yx ?_ | (refine yy ?_ ?_ <;> intro _) | exact zD | exact zL)
  | false =>
   rw [hc, cond_false] at ok
   repeat' (first | refine yz ?_ | refine yp b156 h ?_ | refine yx ?_ | (refine yy ?_ ?_ <;> intro _) | exact zD | exact zL)
   refine go_stop ?_
   exact ⟨⟨i + 1, by omega, ok⟩, by dsimp only; omega, (zle 1)⟩
 ·have g1 : decide ((i : Int) < ((g.nodes.map encNd).length : Int)) = false := by rw [hl1]; simp; omega
  rw [List.drop_eq_nil_of_le hge] at ok
  have hy := hE ok
  clear hN hE
  repeat' (first | refine yz ?_ | refine yx ?_ | (refine yy ?_ ?_ <;> intro _) | exact zD | exact zL)
  refine go_loop_ (α := SCr g y) (fun p => ⟨[(1, .ptr 0 0), (5, .d (.int p.i))], [.var 38 (.w (.d (encGr g)))]⟩) (fun p => g.edges.length - p.i) ⟨0, by omega, hy⟩ (zle 1) ?_
  rintro ⟨i, hi, ok⟩
  dsimp only
  rcases Nat.lt_or_ge i g.edges.length with hlt | hge
  ·have g1 : decide ((i : Int) < ((g.edges.map encEd).length : Int)) = true := by rw [hl2]; simpa using hlt
   have hx0 := List.getElem?_eq_getElem hlt
   generalize g.edges[i] = x at hx0
   have h := redge_ev g i x hx0
   rw [edgesR_at hx0] at ok
   generalize okEr (prevE g.edges i) g x = z at *
   cases hc : z != 0 with
   | true =>
    rw [hc, cond_true] at ok
    rw [ok]
    repeat' (first | refine yz ?_ | refine yp b157 h ?_ | refine yx ?_ | (refine yy ?_ ?_ <;> intro _) | exact zD | exact zL)
   | false =>
    rw [hc, cond_false] at ok
    repeat' (first | refine yz ?_ | refine yp b157 h ?_ | refine yx ?_ | (refine yy ?_ ?_ <;> intro _) | exact zD | exact zL)
    refine go_stop ?_
    exact ⟨⟨i + 1, by omega, ok⟩, by dsimp only; omega, (zle 1)⟩
  ·have g1 : decide ((i : Int) < ((g.edges.map encEd).length : Int)) = false := by rw [hl2]; simp; omega
   rw [List.drop_eq_nil_of_le hge] at ok
   rw [show y = 0 from ok]
   repeat' (first | refine yz ?_ | refine yx ?_ | (refine yy ?_ ?_ <;> intro _) | exact zD | exact zL)
end Go.Proofs.YtenpjlghikohmaaGreatDoor
namespace Go.Proofs.YtenpjlghikohmaaGreatDoor
set_option maxRecDepth 4000
open Go Go.Abs Go.Val Go.RowKit Go.Proofs.Tryz
attribute [local irreducible] go SGo HasBody Ev ExtEv EvO EvS RGo
theorem iterL_pos {α : Type} {f : α → Int → Int} {l : List α} {left : Int} (h : 0 ≤ iterL f l left) : 0 ≤ left := by
 rcases Int.lt_or_le left 0 with hn | hn
 ·rw [iterL_neg f l left hn] at h; exact h
 ·exact hn
theorem prs_sm {l : List Pr} {left : Int} (hl : left ≤ 2000) (h : 0 ≤ iterL prS l left) : narP l ∧ ∀ p ∈ l, cost p.v ≤ 1048576 := by
 have hc : ∀ p ∈ l, cost p.v ≤ 2000 := fun p hp => by
  obtain ⟨k, k1, k2, k3⟩ := iterL_ok prS (fun x left _ => by have := prS_lt x left; omega) l left h p hp
  unfold prS at k3
  have h1 := weighF_cost 12 p.v _ k3
  have h2 := (tdiv_bnd (a := (p.key.size : Int)) (b := 50) (by omega)).1 (by omega)
  omega
 have hlen := iterL_len prS (fun x left _ => prS_lt x left) l left h
 exact ⟨⟨by omega, fun p hp => nar_cost p.v (by have := hc p hp; omega)⟩, fun p hp => by have := hc p hp; omega⟩
theorem smG_ok {g : Gr} {a b : Int} (h : smG g a b = true) : ((∀ n ∈ g.nodes, narN n) ∧ ∀ e ∈ g.edges, narP e.props) ∧ (∀ n ∈ g.nodes, ∀ p ∈ n.props, cost p.v ≤ 1048576) ∧ ∀ e ∈ g.edges, ∀ p ∈ e.props, cost p.v ≤ 1048576 := by
 unfold smG at h
 rw [Bool.and_eq_true] at h
 have h0 : 0 ≤ iterL edS g.edges (iterL ndS g.nodes 2000) := of_decide_eq_true h.2
 have h1 := iterL_pos h0
 have hR : iterL ndS g.nodes 2000 ≤ 2000 := iterL_le ndS (fun n left _ => ndS_le n left) _ _
 have hn : ∀ n ∈ g.nodes, narN n ∧ ∀ p ∈ n.props, cost p.v ≤ 1048576 := fun n hm => by
  obtain ⟨k, k1, k2, k3⟩ := iterL_ok ndS (fun n left _ => ndS_le n left) g.nodes 2000 h1 n hm
  unfold ndS at k3
  have k4 := iterL_pos k3
  have k5 := iterL_pos k4
  obtain ⟨p1, p2⟩ := prs_sm (by omega) k4
  exact ⟨⟨by omega, p1⟩, p2⟩
 have he : ∀ e ∈ g.edges, narP e.props ∧ ∀ p ∈ e.props, cost p.v ≤ 1048576 := fun e hm => by
  obtain ⟨k, k1, k2, k3⟩ := iterL_ok edS (fun e left _ => edS_le e left) g.edges _ h0 e hm
  unfold edS at k3
  have h2 := (tdiv_bnd (a := (e.ty.size : Int)) (b := 50) (by omega)).1 (by omega)
  exact prs_sm (by omega) k3
 exact ⟨⟨fun n hm => (hn n hm).1, fun e hm => (he e hm).1⟩, fun n hm => (hn n hm).2, fun e hm => (he e hm).2⟩
def htF (e : Ed) (ty : List ByteArray) : Bool := ty.isEmpty || hasF ty e.ty
theorem hasType_ev (e : Ed) (ty : List ByteArray) : Ev E 61 [encEd e, .sl (ty.map .str)] (.d (.bool (htF e ty))) := by
 have h := scontains_ev ty e.ty
 match ty with
 | [] =>
  show Ev E 61 [encEd e, .sl []] (.d (.bool true))
  refine ye2 func61 ntmps61 fun _ _ _=>?_
  repeat' (first | refine yz ?_ | refine yx ?_ | (refine yy ?_ ?_ <;> intro _) | exact zD | exact zL)
 | t :: r =>
  have g1 : ((((t :: r).map D.str).length : Int) == 0) = false := by simp; omega
  show Ev E 61 [encEd e, .sl ((t :: r).map .str)] (.d (.bool (hasF (t :: r) e.ty)))
  generalize hasF (t :: r) e.ty = z at *
  refine ye2 func61 ntmps61 fun _ _ _=>?_
  repeat' (first | refine yz ?_ | refine yp b124 h ?_ | refine yx ?_ | (refine yy ?_ ?_ <;> intro _) | exact zD | exact zL)
theorem rhasType_ev (e : Ed) (ty : List ByteArray) : Ev E 71 [encEd e, .sl (ty.map .str)] (.d (.bool (htF e ty))) := by
 have h := rhasStr_ev ty e.ty
 match ty with
 | [] =>
  show Ev E 71 [encEd e, .sl []] (.d (.bool true))
  refine ye2 func71 ntmps71 fun _ _ _=>?_
  repeat' (first | refine yz ?_ | refine yx ?_ | (refine yy ?_ ?_ <;> intro _) | exact zD | exact zL)
 | t :: r =>
  have g1 : ((((t :: r).map D.str).length : Int) == 0) = false := by simp; omega
  show Ev E 71 [encEd e, .sl ((t :: r).map .str)] (.d (.bool (hasF (t :: r) e.ty)))
  generalize hasF (t :: r) e.ty = z at *
  refine ye2 func71 ntmps71 fun _ _ _=>?_
  repeat' (first | refine yz ?_ | refine yp b163 h ?_ | refine yx ?_ | (refine yy ?_ ?_ <;> intro _) | exact zD | exact zL)
def holdF (n : Nd) (a : AT) : Bool := bif a.k == 1 then hasF n.labels a.nm else bif a.k == 2 then eqF (findP n.props a.nm) a.v == 2 else true
theorem holds_ev (n : Nd) (a : AT) (hn : narP n.props) : Ev E 62 [encNd n, encAT a] (.d (.bool (holdF n a))) := by
 obtain ⟨k, avs, nm, ty, ⟨vk, vn, vd, vS, vl⟩⟩ := a
 have h1 := hasLabel_ev n nm
 have h2 := gprop_ev n.props nm hn
 have h3 := Equal_ev (findP n.props nm) (.mk vk vn vd vS vl)
 unfold holdF
 dsimp only
 generalize hasF n.labels nm = z at *
 generalize findP n.props nm = u at *
 obtain ⟨uk, un, ud, uS, ul⟩ := u
 generalize eqF (.mk uk un ud uS ul) (.mk vk vn vd vS vl) = y at *
 cases c1 : k == 1 with
 | true =>
  refine ye2 func62 ntmps62 fun _ _ _=>?_
  repeat' (first | refine yz ?_ | refine yp b43 h1 ?_ | refine yx ?_ | (refine yy ?_ ?_ <;> intro _) | exact zD | exact zL)
 | false =>
 cases c2 : k == 2 with
 | true =>
  refine ye2 func62 ntmps62 fun _ _ _=>?_
  repeat' (first | refine yz ?_ | refine yp b153 h2 ?_ | refine yp b152 h3 ?_ | refine yx ?_ | (refine yy ?_ ?_ <;> intro _) | exact zD | exact zL)
 | false =>
  refine ye2 func62 ntmps62 fun _ _ _=>?_
  repeat' (first | refine yz ?_ | refine yx ?_ | (refine yy ?_ ?_ <;> intro _) | exact zD | exact zL)
theorem rholds_ev (n : Nd) (a : AT) : Ev E 72 [encNd n, encAT a] (.d (.bool (holdF n a))) := by
 obtain ⟨k, avs, nm, ty, ⟨vk, vn, vd, vS, vl⟩⟩ := a
 have h1 := rhasLabel_ev n nm
 have h2 := rprop_ev n.props nm
 have h3 := rEqual_ev (findP n.props nm) (.mk vk vn vd vS vl)
 unfold holdF
 dsimp only
 generalize hasF n.labels nm = z at *
 generalize findP n.props nm = u at *
 obtain ⟨uk, un, ud, uS, ul⟩ := u
 generalize eqF (.mk uk un ud uS ul) (.mk vk vn vd vS vl) = y at *
 cases c1 : k == 1 with
 | true =>
  refine ye2 func72 ntmps72 fun _ _ _=>?_
  repeat' (first | refine yz ?_ | refine yp b164 h1 ?_ | refine yx ?_ | (refine yy ?_ ?_ <;> intro _) | exact zD | exact zL)
 | false =>
 cases c2 : k == 2 with
 | true =>
  refine ye2 func72 ntmps72 fun _ _ _=>?_
  repeat' (first | refine yz ?_ | refine yp b166 h2 ?_ | refine yp b165 h3 ?_ | refine yx ?_ | (refine yy ?_ ?_ <;> intro _) | exact zD | exact zL)
 | false =>
  refine ye2 func72 ntmps72 fun _ _ _=>?_
  repeat' (first | refine yz ?_ | refine yx ?_ | (refine yy ?_ ?_ <;> intro _) | exact zD | exact zL)
attribute [local irreducible] PGo
def fiTu (l : List Int) (x : Int) : Nat := (l.findIdx? fun y => x == y).getD 0
theorem fiTu_ok {l : List Int} {x : Int} (h : x ∈ l) : l.findIdx? (fun y => x == y) = some (fiTu l x) ∧ l[fiTu l x]? = some x := by
 unfold fiTu
 cases hf : l.findIdx? fun y => x == y with
 | none =>
  exfalso
  rw [List.findIdx?_eq_none_iff] at hf
  have := hf x h
  simp at this
 | some k =>
  rw [List.findIdx?_eq_some_iff_getElem] at hf
  obtain ⟨h1, h2, -⟩ := hf
  refine ⟨rfl, ?_⟩
  rw [Option.getD_some, List.getElem?_eq_getElem h1]
  have : x = l[k] := by simpa using h2
  rw [this]
def valTu (vs ids : List Int) (v : Int) : Int := ids.getD (fiTu vs v) 0
def okTu (vs ids : List Int) : Bool := (List.range vs.length).all fun i => valTu vs ids (vs.getD i 0) == ids.getD i 0
def tupTu (vs ids : List Int) : List Int := (vrsF vs).map (valTu vs ids)
def rowTu (vs ids : List Int) (i : Nat) : List Int := (vrsF vs).map fun v => if v ∈ vs.take i then valTu vs ids v else 0
theorem set_nodup {L : List Int} (hn : L.Nodup) {k : Nat} {x : Int} (hk : L[k]? = some x) (f : Int → Int) (y : Int) : (L.map f).set k y = L.map fun v => if v = x then y else f v := by
 refine List.ext_getElem? fun i => ?_
 rw [List.getElem?_set, List.getElem?_map, List.length_map]
 have hkl := (List.getElem?_eq_some_iff.1 hk).1
 by_cases e : k = i
 ·subst e
  rw [if_pos rfl, if_pos hkl, List.getElem?_map, hk]
  simp
 ·rw [if_neg e, List.getElem?_map]
  cases hi : L[i]? with
  | none => rfl
  | some z =>
   have : z ≠ x := fun hz => e (by
    subst hz
    obtain ⟨a1, a2⟩ := List.getElem?_eq_some_iff.1 hk
    obtain ⟨b1, b2⟩ := List.getElem?_eq_some_iff.1 hi
    exact (List.getElem_inj hn).1 (a2.trans b2.symm))
   simp [this]
theorem rowTu_next {vs ids : List Int} {i k : Nat} {x q : Int} (hn : (vrsF vs).Nodup) (hx : vs[i]? = some x) (hk : (vrsF vs)[k]? = some x) (hq : valTu vs ids x = q) : (iL (rowTu vs ids i)).set k (.int q) = iL (rowTu vs ids (i + 1)) := by
 unfold iL
 rw [← List.map_set]
 refine congrArg (List.map D.int) ?_
 unfold rowTu
 rw [set_nodup hn hk]
 refine List.map_congr_left fun v _ => ?_
 rw [List.take_add_one, hx]
 by_cases e : v = x
 ·subst e
  simp [hq]
 ·simp [e]
theorem rowTu_0 (vs ids : List Int) : iL (rowTu vs ids 0) = List.replicate (vrsF vs).length (.int 0) := by
 unfold iL rowTu
 rw [List.map_map]
 refine List.eq_replicate_iff.2 ⟨by simp, fun b hb => ?_⟩
 obtain ⟨a, -, rfl⟩ := List.mem_map.1 hb
 simp
theorem rowTu_all {vs ids : List Int} {i : Nat} (h : vs.length ≤ i) (hm : ∀ v ∈ vrsF vs, v ∈ vs) : rowTu vs ids i = tupTu vs ids := by
 unfold rowTu tupTu
 refine List.map_congr_left fun v hv => ?_
 rw [List.take_of_length_le h, if_pos (hm v hv)]
structure STu (vs ids : List Int) where
 i : Nat
 hi : i ≤ vs.length
 ok : ∀ j, j < i → (valTu vs ids (vs.getD j 0) == ids.getD j 0) = true
def tupDu (vs ids : List Int) : D := .sl (iL (bif okTu vs ids then tupTu vs ids else []))
theorem vrs_nodup (l : List Int) : (vrsF l).Nodup := (vrs_rz l).imp fun h => by omega
set_option maxHeartbeats 4000000 in
theorem tuple_ev (a : AT) (ids : List Int) (hl : ids.length = a.vs.length) (hn : a.vs.length ≤ 8) : Ev E 60 [encAT a, .sl (iL ids)] (.tup [tupDu a.vs ids, .bool (okTu a.vs ids)]) := by
 have h0 := avars_ev a (by omega)
 obtain ⟨k, vs, nm, ty, ⟨vk, vn, vd, vS, vl⟩⟩ := a
 dsimp only at *
 have hvl := vrs_len vs
 have hli : (iL vs).length = vs.length := iL_len vs
 have hlj : (iL ids).length = ids.length := iL_len ids
 have hlv : ((vrsF vs).map D.int).length = (vrsF vs).length := by simp
 have hr0 := rowTu_0 vs ids
 rw [show ((vrsF vs).map D.int) = iL (vrsF vs) from rfl] at *
 generalize hV : iL (vrsF vs) = V at *
 refine ye2 func60 ntmps60 fun _ _ _=>?_
 repeat' (first | refine yz ?_ | refine yp b53 h0 ?_ | (refine qS rfl ⟨rfl, by (show 8 * V.length ≤ 281474976710656; omega), by omega⟩ ?_) | refine yx ?_ | (refine yy ?_ ?_ <;> intro _) | exact zD | exact zL)
 refine go_loop_ (α := STu vs ids) (fun p => ⟨[(1, .d (.sl (iL ids))), (2, .ptr 0 0), (6, .d (.sl V)), (7, .own 1), (18, .d (.sl (iL vs))), (19, .d (.int (iL vs).length)), (20, .d (.int p.i))], [.var 58 (.w (.d (encAT ⟨k, vs, nm, ty, .mk vk vn vd vS vl⟩))), .row 3 1 (iL (rowTu vs ids p.i))]⟩) (fun p => vs.length - p.i) ⟨0, by omega, fun j hj => by omega⟩ (by dsimp only; rw [hr0, ← hlv]; exact (zle 2)) ?_
 rintro ⟨i, hi, ok⟩
 dsimp only
 rcases Nat.lt_or_ge i vs.length with hlt | hge
 ·have g1 : decide ((i : Int) < ((iL vs).length : Int)) = true := by rw [hli]; simpa using hlt
  have hx0 := List.getElem?_eq_getElem hlt
  have hxm : vs[i] ∈ vs := List.getElem_mem hlt
  generalize vs[i] = x at hx0 hxm
  obtain ⟨e1, e2⟩ := fiTu_ok hxm
  obtain ⟨e3, e4⟩ := fiTu_ok ((vrs_mem vs x).2 hxm)
  have h1 := indexI_ev (vrsF vs) x
  have h2 := indexI_ev vs x
  rw [e3, hV] at h1
  rw [e1] at h2
  have hf := (List.getElem?_eq_some_iff.1 e2).1
  have hk := (List.getElem?_eq_some_iff.1 e4).1
  have hqv : valTu vs ids x = ids.getD (fiTu vs x) 0 := rfl
  generalize fiTu (vrsF vs) x = m at *
  generalize fiTu vs x = f at *
  have h1 : Ev E 151 [.sl V, .int x] (.d (.int (m : Int))) := h1
  have h2 : Ev E 151 [.sl (iL vs), .int x] (.d (.int (f : Int))) := h2
  have hx : (iL vs)[((i : Nat) : Int).toNat]? = some (.int x) := map_at (f := D.int) hx0
  have hp0 := List.getElem?_eq_getElem (show f < ids.length by omega)
  have hq0 := List.getElem?_eq_getElem (show i < ids.length by omega)
  rw [List.getD_eq_getElem?_getD, hp0, Option.getD_some] at hqv
  have hqi : ids.getD i 0 = ids[i] := by rw [List.getD_eq_getElem?_getD, hq0, Option.getD_some]
  have hvi : vs.getD i 0 = x := by rw [List.getD_eq_getElem?_getD, hx0, Option.getD_some]
  generalize ids[f] = p at hp0 hqv
  generalize ids[i] = q at hq0 hqi
  have hp : (iL ids)[((f : Nat) : Int).toNat]? = some (.int p) := map_at (f := D.int) hp0
  have hq : (iL ids)[((i : Nat) : Int).toNat]? = some (.int q) := map_at (f := D.int) hq0
  have hrl : (rowTu vs ids i).length = (vrsF vs).length := by simp [rowTu]
  have hrl2 : (iL (rowTu vs ids i)).length = (vrsF vs).length := by rw [iL_len, hrl]
  have ho0 := List.getElem?_eq_getElem (show m < (rowTu vs ids i).length by omega)
  generalize (rowTu vs ids i)[m] = o at ho0
  have ho : (iL (rowTu vs ids i))[((m : Nat) : Int).toNat]? = some (.int o) := map_at (f := D.int) ho0
  have g2 : (0 : Int) ≤ (m : Int) ∧ (m : Int) < ((iL (rowTu vs ids i)).length : Int) := by rw [hrl2]; omega
  cases hc : p != q with
  | true =>
   have hno : okTu vs ids = false := by
    unfold okTu
    rw [List.all_eq_false]
    refine ⟨i, List.mem_range.2 hlt, ?_⟩
    rw [hvi, hqv, hqi]
    simpa using hc
   have e : tupDu vs ids = .sl [] := by unfold tupDu; rw [hno]; rfl
   rw [hno, e]
   repeat' (first | refine yz ?_ | refine yi (.int x) hx ?_ | refine qP (d := 27) rfl rfl rfl rfl rfl rfl b151 (h1) ?_ | refine qP (d := 31) rfl rfl rfl rfl rfl rfl b151 (h2) ?_ | refine yi (.int p) hp ?_ | refine yi (.int q) hq ?_ | refine yx ?_ | (refine yy ?_ ?_ <;> intro _) | exact zD | exact zL)
  | false =>
   have hnx := rowTu_next (ids := ids) (vrs_nodup vs) hx0 e4 hqv
   have hpq : p = q := by simpa using hc
   repeat' (first | refine yz ?_ | refine yi (.int x) hx ?_ | refine qP (d := 27) rfl rfl rfl rfl rfl rfl b151 (h1) ?_ | refine qP (d := 31) rfl rfl rfl rfl rfl rfl b151 (h2) ?_ | refine yi (.int p) hp ?_ | refine yi (.int q) hq ?_ | refine qZ (.int o) rfl rfl rfl rfl rfl rfl ho rfl rfl rfl ?_ | refine yx ?_ | (refine yy ?_ ?_ <;> intro _) | exact zD | exact zL)
   refine go_stop ?_
   refine ⟨⟨i + 1, by omega, fun j hj => ?_⟩, by dsimp only; omega, ?_⟩
   ·rcases Nat.lt_or_ge j i with h | h
    ·exact ok j h
    ·rw [show j = i by omega, hvi, hqv, hqi, hpq]
     exact beq_self_eq_true _
   ·dsimp only
    rw [← hnx, hpq]
    exact (zle 2)
 ·have g1 : decide ((i : Int) < ((iL vs).length : Int)) = false := by rw [hli]; simp; omega
  have hok : okTu vs ids = true := by
   unfold okTu
   rw [List.all_eq_true]
   intro j hj
   exact ok j (by have := List.mem_range.1 hj; omega)
  have e : tupDu vs ids = .sl (iL (tupTu vs ids)) := by unfold tupDu; rw [hok]; rfl
  rw [hok, e, rowTu_all hge fun v hv => (vrs_mem vs v).1 hv]
  refine go_frz 1 rfl ?_
  repeat' (first | refine yz ?_ | refine yx ?_ | (refine yy ?_ ?_ <;> intro _) | exact zD | exact zL)
def inX (y : Int) : List (Int × Int) → Int → Option Int
 | [], x => some x
 | (v, d) :: r, x => bif v == y then (bif x != 0 && x != d then none else inX y r d) else inX y r x
theorem valTu3 (a b c p q r y : Int) : valTu [a, b, c] [p, q, r] y = if y = a then p else if y = b then q else if y = c then r else p := by
 unfold valTu fiTu
 by_cases h1 : y = a
 ·subst h1; simp [List.findIdx?_cons]
 ·by_cases h2 : y = b
  ·subst h2; simp [List.findIdx?_cons, h1]
  ·by_cases h3 : y = c
   ·subst h3; simp [List.findIdx?_cons, h1, h2]
   ·simp [List.findIdx?_cons, h1, h2, h3]
theorem okTu3 (a b c p q r : Int) : okTu [a, b, c] [p, q, r] = ((if b = a then p else q) == q && ((if c = a then p else if c = b then q else r) == r)) := by
 unfold okTu
 rw [show List.range [a, b, c].length = [0, 1, 2] from rfl]
 simp only [List.all_cons, List.all_nil, Bool.and_true]
 rw [show [a, b, c].getD 0 0 = a from rfl, show [a, b, c].getD 1 0 = b from rfl, show [a, b, c].getD 2 0 = c from rfl, show [p, q, r].getD 0 0 = p from rfl, show [p, q, r].getD 1 0 = q from rfl, show [p, q, r].getD 2 0 = r from rfl, valTu3, valTu3, valTu3]
 simp
theorem inTu3 (a b c p q r y : Int) (hp : 1 ≤ p) (hq : 1 ≤ q) (hr : 1 ≤ r) (hy : y ∈ [a, b, c]) (ho : okTu [a, b, c] [p, q, r] = true) : inX y [(a, p), (b, q), (c, r)] 0 = some (valTu [a, b, c] [p, q, r] y) := by
 rw [okTu3] at ho
 rw [valTu3]
 have p0 : ¬ p = 0 := by omega
 have q0 : ¬ q = 0 := by omega
 have r0 : ¬ r = 0 := by omega
 by_cases ab : b = a
 ·subst ab
  by_cases ac : c = b
  ·subst ac
   simp at ho
   obtain ⟨h1, h2⟩ := ho
   subst h1 h2
   simp at hy
   subst hy
   simp_all [inX, Bool.cond_eq_ite]
  ·simp [ac] at ho
   subst ho
   have ca : ¬ b = c := fun h => ac h.symm
   simp at hy
   rcases hy with hy | hy
   ·subst hy; simp_all [inX, Bool.cond_eq_ite]
   ·subst hy; simp_all [inX, Bool.cond_eq_ite]
 ·have ba : ¬ a = b := fun h => ab h.symm
  by_cases ac : c = a
  ·subst ac
   simp [ab] at ho
   subst ho
   simp at hy
   rcases hy with hy | hy | hy
   ·subst hy; simp_all [inX, Bool.cond_eq_ite]
   ·subst hy; simp_all [inX, Bool.cond_eq_ite]
   ·subst hy; simp_all [inX, Bool.cond_eq_ite]
  ·have ca : ¬ a = c := fun h => ac h.symm
   by_cases bc : c = b
   ·subst bc
    simp [ab] at ho
    subst ho
    simp at hy
    rcases hy with hy | hy
    ·subst hy; simp_all [inX, Bool.cond_eq_ite]
    ·subst hy; simp_all [inX, Bool.cond_eq_ite]
   ·have cb : ¬ b = c := fun h => bc h.symm
    simp at hy
    rcases hy with hy | hy | hy
    ·subst hy; simp_all [inX, Bool.cond_eq_ite]
    ·subst hy; simp_all [inX, Bool.cond_eq_ite]
    ·subst hy; simp_all [inX, Bool.cond_eq_ite]
theorem inTu3_none (a b c p q r : Int) (hp : 1 ≤ p) (hq : 1 ≤ q) (hr : 1 ≤ r) (ho : okTu [a, b, c] [p, q, r] = false) : ∃ y ∈ [a, b, c], inX y [(a, p), (b, q), (c, r)] 0 = none := by
 rw [okTu3] at ho
 have p0 : ¬ p = 0 := by omega
 have q0 : ¬ q = 0 := by omega
 by_cases h1 : b = a ∧ p ≠ q
 ·obtain ⟨e, h⟩ := h1
  subst e
  exact ⟨b, by simp, by simp_all [inX, Bool.cond_eq_ite]⟩
 ·have h2 : ((if b = a then p else q) == q) = true := by
   by_cases e : b = a
   ·simp [e]; exact Decidable.not_not.1 fun hn => h1 ⟨e, hn⟩
   ·simp [e]
  rw [h2, Bool.true_and] at ho
  refine ⟨c, by simp, ?_⟩
  by_cases e : c = a
  ·subst e
   simp at ho
   by_cases e2 : b = c
   ·subst e2
    have hpq : p = q := Decidable.not_not.1 fun hn => h1 ⟨rfl, hn⟩
    subst hpq
    simp_all [inX, Bool.cond_eq_ite]
   ·simp_all [inX, Bool.cond_eq_ite]
  ·have ea : ¬ a = c := fun h => e h.symm
   by_cases e2 : c = b
   ·subst e2
    simp [e] at ho
    simp_all [inX, Bool.cond_eq_ite]
   ·simp [e, e2] at ho
structure SRtu (vs ids : List Int) where
 i : Nat
 o : List Int
 hi : i ≤ (vrsF vs).length
 ho : o.length = i
 ok : okTu vs ids = true → o = ((vrsF vs).take i).map (valTu vs ids)
 bad : okTu vs ids = false → ∃ y ∈ (vrsF vs).drop i, inX y (vs.zip ids) 0 = none
structure SInu (y : Int) (zs : List (Int × Int)) where
 k : Nat
 x : Int
 hk : k ≤ 3
 ok : inX y zs 0 = inX y (zs.drop k) x
set_option maxHeartbeats 8000000 in
theorem rtuple_ev (a : AT) (e : Ed) (hn : a.vs.length = 3) (h1 : 1 ≤ e.src) (h2 : 1 ≤ e.id) (h3 : 1 ≤ e.dst) : Ev E 70 [encAT a, encEd e] (.tup [tupDu a.vs [e.src, e.id, e.dst], .bool (okTu a.vs [e.src, e.id, e.dst])]) := by
 have h0 := rvars_ev a (by omega)
 obtain ⟨k, vs, nm, ty, ⟨vk, vn, vd, vS, vl⟩⟩ := a
 obtain ⟨p2, p1, p3, ety, eps⟩ := e
 dsimp only at *
 match vs, hn with
 | [a, b, c], _ =>
 have hA := fun y hy => inTu3 a b c p1 p2 p3 y h1 h2 h3 hy
 have hB := inTu3_none a b c p1 p2 p3 h1 h2 h3
 have hvm := vrs_mem [a, b, c]
 have hvl := vrs_len [a, b, c]
 have hlv : ((vrsF [a, b, c]).map D.int).length = (vrsF [a, b, c]).length := by simp
 generalize hids : [p1, p2, p3] = ids at *
 generalize hvs : [a, b, c] = vs at *
 have hz : vs.zip ids = [(a, p1), (b, p2), (c, p3)] := by rw [← hvs, ← hids]; rfl
 rw [← hz] at hA hB
 have hgv : ∀ (j : Nat) (x : Int × Int), (vs.zip ids)[j]? = some x → vs[j]? = some x.1 ∧ ids[j]? = some x.2 := fun j x h => by
  rw [List.getElem?_zip_eq_some] at h
  exact h
 have hz3 : (vs.zip ids).length = 3 := by rw [hz]; rfl
 have hidl : (iL ids).length = 3 := by rw [iL_len, ← hids]; rfl
 have hvsl : (iL vs).length = 3 := by rw [iL_len, ← hvs]; rfl
 refine ye2 func70 ntmps70 fun _ _ _=>?_
 repeat' (first | refine yz ?_ | refine yp b73 h0 ?_ | refine yx ?_ | (refine yy ?_ ?_ <;> intro _) | exact zD | exact zL)
 rw [show ([.int p1, .int p2, .int p3] : List D) = iL ids by rw [← hids]; rfl]
 refine go_loop_ (α := SRtu vs ids) (fun p => ⟨[(8, rowK 2 (iL p.o)), (3, .ptr 1 0), (2, .ptr 0 0), (6, .d (.sl (iL ids))), (7, .d (.sl ((vrsF vs).map D.int))), (9, .d (.int p.i))], [.var 58 (.w (.d (encAT ⟨k, vs, nm, ty, .mk vk vn vd vS vl⟩))), .var 109 (.w (.d (encEd ⟨p2, p1, p3, ety, eps⟩)))] ++ rowO 3 1 (iL p.o)⟩) (fun p => (vrsF vs).length - p.i) ⟨0, [], by omega, rfl, fun _ => rfl, fun h => by
  obtain ⟨y, hy, hn⟩ := hB h
  exact ⟨y, (hvm y).2 hy, hn⟩⟩ (zle 2) ?_
 rintro ⟨i, o, hi, ho, ok, bad⟩
 dsimp only
 rcases Nat.lt_or_ge i (vrsF vs).length with hlt | hge
 ·have g1 : decide ((i : Int) < (((vrsF vs).map D.int).length : Int)) = true := by rw [hlv]; simpa using hlt
  have hy0 := List.getElem?_eq_getElem hlt
  have hym : (vrsF vs)[i] ∈ vs := (hvm _).1 (List.getElem_mem hlt)
  generalize (vrsF vs)[i] = y at hy0 hym
  have hy : ((vrsF vs).map D.int)[((i : Nat) : Int).toNat]? = some (.int y) := map_at (f := D.int) hy0
  have hA := hA y hym
  rw [drop_at hy0] at bad
  match o, ho, ok with
  | [], ho, ok =>
   dsimp only [rowK, rowO, iL, List.map]
   repeat' (first | refine yz ?_ | refine yx ?_ | (refine yy ?_ ?_ <;> intro _) | exact zD | exact zL)
   refine go_loop_ (α := SInu y (vs.zip ids)) (fun q => ⟨[(8, .nilS), (3, .ptr 1 0), (2, .ptr 0 0), (6, .d (.sl (iL ids))), (7, .d (.sl ((vrsF vs).map D.int))), (9, .d (.int i)), (10, .d (.int q.x)), (11, .d (.int q.k))], [.var 58 (.w (.d (encAT ⟨k, vs, nm, ty, .mk vk vn vd vS vl⟩))), .var 109 (.w (.d (encEd ⟨p2, p1, p3, ety, eps⟩)))]⟩) (fun q => 3 - q.k) ⟨0, 0, by omega, rfl⟩ (zle 2) ?_
   rintro ⟨m, x, hm, okm⟩
   dsimp only
   rcases Nat.lt_or_ge m 3 with hlm | hgm
   ·have g2 : decide ((m : Int) < 3) = true := by simp; omega
    have hz0 := List.getElem?_eq_getElem (show m < (vs.zip ids).length by omega)
    generalize (vs.zip ids)[m] = z at hz0
    obtain ⟨v, d⟩ := z
    obtain ⟨q1, q2⟩ := hgv m _ hz0
    dsimp only at q1 q2
    have hv : (iL vs)[((m : Nat) : Int).toNat]? = some (.int v) := map_at (f := D.int) q1
    have hd : (iL ids)[((m : Nat) : Int).toNat]? = some (.int d) := map_at (f := D.int) q2
    rw [drop_at hz0, inX] at okm
    cases c1 : v == y with
    | true =>
     rw [c1, cond_true] at okm
     cases c2 : x != 0 with
     | true =>
      cases c3 : x != d with
      | true =>
       rw [c2, c3] at okm
       have hno : okTu vs ids = false := by
        cases hh : okTu vs ids with
        | false => rfl
        | true => have := hA hh; rw [okm] at this; cases this
       have e : tupDu vs ids = .sl [] := by unfold tupDu; rw [hno]; rfl
       rw [hno, e]
       repeat' (first | refine yz ?_ | refine yi (.int v) hv ?_ | refine yi (.int y) hy ?_ | refine yi (.int d) hd ?_ | refine yx ?_ | (refine yy ?_ ?_ <;> intro _) | exact zD | exact zL)
      | false =>
       rw [c2, c3] at okm
       repeat' (first | refine yz ?_ | refine yi (.int v) hv ?_ | refine yi (.int y) hy ?_ | refine yi (.int d) hd ?_ | refine yx ?_ | (refine yy ?_ ?_ <;> intro _) | exact zD | exact zL)
       refine go_stop ?_
       exact ⟨⟨m + 1, d, by omega, okm⟩, by dsimp only; omega, (zle 2)⟩
     | false =>
      rw [c2] at okm
      repeat' (first | refine yz ?_ | refine yi (.int v) hv ?_ | refine yi (.int y) hy ?_ | refine yi (.int d) hd ?_ | refine yx ?_ | (refine yy ?_ ?_ <;> intro _) | exact zD | exact zL)
      refine go_stop ?_
      exact ⟨⟨m + 1, d, by omega, okm⟩, by dsimp only; omega, (zle 2)⟩
    | false =>
     rw [c1, cond_false] at okm
     repeat' (first | refine yz ?_ | refine yi (.int v) hv ?_ | refine yi (.int y) hy ?_ | refine yi (.int d) hd ?_ | refine yx ?_ | (refine yy ?_ ?_ <;> intro _) | exact zD | exact zL)
     refine go_stop ?_
     exact ⟨⟨m + 1, x, by omega, okm⟩, by dsimp only; omega, (zle 2)⟩
   ·have g2 : decide ((m : Int) < 3) = false := by simp; omega
    rw [List.drop_eq_nil_of_le (show (vs.zip ids).length ≤ m by omega), inX] at okm
    repeat' (first | refine yz ?_ | (refine qS rfl ⟨by simp, fun d hd => by (obtain rfl := List.mem_singleton.1 hd; rfl), by (show (0 + 1) * 8 ≤ 140737488355328; omega), by (show 0 + 1 ≤ 9223372036854775807; omega)⟩ ?_) | refine yx ?_ | (refine yy ?_ ?_ <;> intro _) | exact zD | exact zL)
    refine go_stop ?_
    refine ⟨⟨i + 1, [] ++ [x], by omega, by simp at ho ⊢; omega, fun h => ?_, fun h => ?_⟩, by dsimp only; omega, ?_⟩
    ·have h4 := hA h
     rw [okm] at h4
     cases h4
     rw [List.take_add_one, hy0, List.map_append, ← ok h]
     rfl
    ·obtain ⟨u, hu, hn⟩ := bad h
     rcases List.mem_cons.1 hu with e | e
     ·subst e; rw [okm] at hn; cases hn
     ·exact ⟨u, e, hn⟩
    ·dsimp only
     exact (zren [0, 1, 2])
  | o0 :: or, ho, ok =>
   rw [show iL (o0 :: or) = .int o0 :: iL or from rfl]
   have hol : (iL or).length ≤ 3 := by rw [iL_len]; simp at ho; omega
   dsimp only [rowK, rowO]
   repeat' (first | refine yz ?_ | refine yx ?_ | (refine yy ?_ ?_ <;> intro _) | exact zD | exact zL)
   refine go_loop_ (α := SInu y (vs.zip ids)) (fun q => ⟨[(8, .own 2), (3, .ptr 1 0), (2, .ptr 0 0), (6, .d (.sl (iL ids))), (7, .d (.sl ((vrsF vs).map D.int))), (9, .d (.int i)), (10, .d (.int q.x)), (11, .d (.int q.k))], [.var 58 (.w (.d (encAT ⟨k, vs, nm, ty, .mk vk vn vd vS vl⟩))), .var 109 (.w (.d (encEd ⟨p2, p1, p3, ety, eps⟩))), .row 3 1 (.int o0 :: iL or)]⟩) (fun q => 3 - q.k) ⟨0, 0, by omega, rfl⟩ (zle 3) ?_
   rintro ⟨m, x, hm, okm⟩
   dsimp only
   rcases Nat.lt_or_ge m 3 with hlm | hgm
   ·have g2 : decide ((m : Int) < 3) = true := by simp; omega
    have hz0 := List.getElem?_eq_getElem (show m < (vs.zip ids).length by omega)
    generalize (vs.zip ids)[m] = z at hz0
    obtain ⟨v, d⟩ := z
    obtain ⟨q1, q2⟩ := hgv m _ hz0
    dsimp only at q1 q2
    have hv : (iL vs)[((m : Nat) : Int).toNat]? = some (.int v) := map_at (f := D.int) q1
    have hd : (iL ids)[((m : Nat) : Int).toNat]? = some (.int d) := map_at (f := D.int) q2
    rw [drop_at hz0, inX] at okm
    cases c1 : v == y with
    | true =>
     rw [c1, cond_true] at okm
     cases c2 : x != 0 with
     | true =>
      cases c3 : x != d with
      | true =>
       rw [c2, c3] at okm
       have hno : okTu vs ids = false := by
        cases hh : okTu vs ids with
        | false => rfl
        | true => have := hA hh; rw [okm] at this; cases this
       have e : tupDu vs ids = .sl [] := by unfold tupDu; rw [hno]; rfl
       rw [hno, e]
       repeat' (first | refine yz ?_ | refine yi (.int v) hv ?_ | refine yi (.int y) hy ?_ | refine yi (.int d) hd ?_ | refine yx ?_ | (refine yy ?_ ?_ <;> intro _) | exact zD | exact zL)
      | false =>
       rw [c2, c3] at okm
       repeat' (first | refine yz ?_ | refine yi (.int v) hv ?_ | refine yi (.int y) hy ?_ | refine yi (.int d) hd ?_ | refine yx ?_ | (refine yy ?_ ?_ <;> intro _) | exact zD | exact zL)
       refine go_stop ?_
       exact ⟨⟨m + 1, d, by omega, okm⟩, by dsimp only; omega, (zle 3)⟩
     | false =>
      rw [c2] at okm
      repeat' (first | refine yz ?_ | refine yi (.int v) hv ?_ | refine yi (.int y) hy ?_ | refine yi (.int d) hd ?_ | refine yx ?_ | (refine yy ?_ ?_ <;> intro _) | exact zD | exact zL)
      refine go_stop ?_
      exact ⟨⟨m + 1, d, by omega, okm⟩, by dsimp only; omega, (zle 3)⟩
    | false =>
     rw [c1, cond_false] at okm
     repeat' (first | refine yz ?_ | refine yi (.int v) hv ?_ | refine yi (.int y) hy ?_ | refine yi (.int d) hd ?_ | refine yx ?_ | (refine yy ?_ ?_ <;> intro _) | exact zD | exact zL)
     refine go_stop ?_
     exact ⟨⟨m + 1, x, by omega, okm⟩, by dsimp only; omega, (zle 3)⟩
   ·have g2 : decide ((m : Int) < 3) = false := by simp; omega
    rw [List.drop_eq_nil_of_le (show (vs.zip ids).length ≤ m by omega), inX] at okm
    repeat' (first | refine yz ?_ | (refine qS rfl ⟨by simp, fun d hd => by (obtain rfl := List.mem_singleton.1 hd; rfl), by (show ((.int o0 :: iL or : List D).length + 1) * 8 ≤ 140737488355328; (simp only [List.length_cons]; omega)), by (show (.int o0 :: iL or : List D).length + 1 ≤ 9223372036854775807; (simp only [List.length_cons]; omega))⟩ ?_) | refine yx ?_ | (refine yy ?_ ?_ <;> intro _) | exact zD | exact zL)
    refine go_stop ?_
    refine ⟨⟨i + 1, (o0 :: or) ++ [x], by omega, by simp at ho ⊢; omega, fun h => ?_, fun h => ?_⟩, by dsimp only; omega, ?_⟩
    ·have h4 := hA h
     rw [okm] at h4
     cases h4
     rw [List.take_add_one, hy0, List.map_append, ← ok h]
     rfl
    ·obtain ⟨u, hu, hn⟩ := bad h
     rcases List.mem_cons.1 hu with e | e
     ·subst e; rw [okm] at hn; cases hn
     ·exact ⟨u, e, hn⟩
    ·dsimp only
     rw [show iL (o0 :: or ++ [x]) = .int o0 :: iL or ++ [.int x] from iL_app (o0 :: or) [x]]
     exact (zren [0, 1, 3])
 ·have g1 : decide ((i : Int) < (((vrsF vs).map D.int).length : Int)) = false := by rw [hlv]; simp; omega
  have hok : okTu vs ids = true := by
   cases h : okTu vs ids with
   | true => rfl
   | false =>
    obtain ⟨y, hy, -⟩ := bad h
    rw [List.drop_eq_nil_of_le hge] at hy
    cases hy
  have e : tupDu vs ids = .sl (iL o) := by
   unfold tupDu
   rw [hok, ok hok, List.take_of_length_le hge]
   rfl
  rw [hok, e]
  generalize iL o = oo
  match oo with
  | [] =>
   dsimp only [rowK, rowO]
   repeat' (first | refine yz ?_ | refine yx ?_ | (refine yy ?_ ?_ <;> intro _) | exact zD | exact zL)
  | y :: q =>
   dsimp only [rowK, rowO]
   refine go_frz 2 rfl ?_
   repeat' (first | refine yz ?_ | refine yx ?_ | (refine yy ?_ ?_ <;> intro _) | exact zD | exact zL)
end Go.Proofs.YtenpjlghikohmaaGreatDoor
