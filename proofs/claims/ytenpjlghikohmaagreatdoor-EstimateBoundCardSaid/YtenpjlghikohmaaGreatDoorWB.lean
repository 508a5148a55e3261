/- The library's sorts at nil; all labels and all types of a graph; The statistics of a graph; What a checked graph and its statistics grant: rising ids, counts, greatest degrees; The statistics of a graph, walked. Conditions: each part's own, as it says. -/
import Derived.Test.YtenpjlghikohmaaGreatDoorWA
import Derived.Test.YtenpjlghikohmaaGreatDoorGG
import Derived.Test.YtenpjlghikohmaaGreatDoorGC
import Derived.Test.YtenpjlghikohmaaGreatDoorLD
import Derived.Test.YtenpjlghikohmaaGreatDoorLB
import Derived.Test.YtenpjlghikohmaaGreatDoorLC
set_option linter.unusedVariables false
set_option linter.unusedSimpArgs false
namespace Go.Proofs.YtenpjlghikohmaaGreatDoor
set_option maxRecDepth 4000
open Go Go.Abs Go.Val Go.RowKit Go.Sort Go.Proofs Go.Proofs.Tryz
theorem sortS0_evS : EvS E 123 [.d (.sl [])] [] (.tup []) [] := by
 intro w F σ vs hi hl hr
 match vs, hl with
 | [v0], _ =>
  have hrd : Rd w F (.sl []) v0 := hr 0 _ _ rfl rfl
  obtain ⟨p, c, rfl⟩ : ∃ p c, v0 = .slice p 0 c := by
   rcases Rd.sl_inv hrd with ⟨-, e⟩ | ⟨_, ad, cap, e, -⟩
   ·exact ⟨_, _, e⟩
   ·exact ⟨_, _, e⟩
  refine (Tryz.slices_Sort_string_none p c w).mono ?_
  rintro e w' ⟨rfl, rfl⟩
  exact ⟨_, F, σ, rfl, ⟨rfl, rfl, rfl, Nat.le_refl _, fun k _ => rfl, fun k hk => hk.1⟩, fun _ h => h, fun _ h => .inl h, fun i p hi _ => by simp at hi, WInv.lend hi, ⟨[], rfl, rfl, fun i x u hx => by simp at hx⟩⟩
theorem compact0_evS : EvS E 84 [.d (.sl [])] [] (.d (.sl [])) [] := by
 intro w F σ vs hi hl hr
 match vs, hl with
 | [v0], _ =>
  have hrd : Rd w F (.sl []) v0 := hr 0 _ _ rfl rfl
  obtain ⟨p, c, rfl⟩ : ∃ p c, v0 = .slice p 0 c := by
   rcases Rd.sl_inv hrd with ⟨-, e⟩ | ⟨_, ad, cap, e, -⟩
   ·exact ⟨_, _, e⟩
   ·exact ⟨_, _, e⟩
  refine (Tryz.slices_Compact_string_empty p c w).mono ?_
  rintro e w' ⟨rfl, rfl⟩
  exact ⟨_, F, σ, rfl, ⟨rfl, rfl, rfl, Nat.le_refl _, fun k _ => rfl, fun k hk => hk.1⟩, fun _ h => h, fun _ h => .inl h, fun i p hi _ => by simp at hi, WInv.lend hi, hrd⟩
theorem srt0 : strL (Lib.compact (sortU (bytL []))) = [] := by
 have : (Lib.compact (sortU (bytL []))).length = 0 := by
  have := compact_len (sortU (bytL []))
  have h : (sortU (bytL [])).length = 0 := by simp [sortU, bytL]
  omega
 rw [List.eq_nil_of_length_eq_zero this]; rfl
attribute [local irreducible] go SGo HasBody Ev ExtEv EvO EvS
theorem blen0_ev : Ev E 155 [.imm (.int .u64 0)] (.d (.int 0)) := by
 refine of_lib1 (by decide) fun w F _ _ => ?_
 refine (Tryz.bits_Len 0 w (by omega) (by omega)).mono ?_
 rintro e w' ⟨rfl, rfl⟩
 exact ⟨rfl, Below.refl _ _⟩
theorem ins0_evS (fv : Value) : EvS E 295 [.d (.sl []), .d (.int 0), .d (.int 0), .d (.imm fv)] [] (.tup []) [] := by
 refine yn func295 ntmps295 fun _ _ _ _=>?_
 repeat' (first | refine yz ?_ | refine yx ?_ | (refine yy ?_ ?_ <;> intro _) | exact zD | exact zL)
 refine go_loop_ (α := Unit) (fun p => ⟨[(2, .d (.int 0)), (8, .d (.int 1))], []⟩) (fun p => 0) () (zle 0) ?_
 rintro -
 repeat' (first | refine yz ?_ | refine retS0 [] rfl rfl rfl rfl | refine endS0 [] rfl rfl rfl rfl | refine yx ?_ | (refine yy ?_ ?_ <;> intro _) | exact zD | exact zL)
theorem pdq0_evS (fv : Value) (n : Int) : EvS E 218 [.d (.sl []), .d (.int 0), .d (.int 0), .d (.int n), .d (.imm fv)] [] (.tup []) [] := by
 have h := ins0_evS fv
 refine yn func218 ntmps218 fun _ _ _ _=>?_
 repeat' (first | refine yz ?_ | refine yx ?_ | (refine yy ?_ ?_ <;> intro _) | exact zD | exact zL)
 refine go_loop_ (α := Unit) (fun p => ⟨[(0, .d (.sl [])), (1, .d (.int 0)), (2, .d (.int 0)), (4, .d (.imm fv))], []⟩) (fun p => 0) () (zle 0) ?_
 rintro -
 repeat' (first | refine yz ?_ | refine yc [] b295 (h) ?_ | refine retS0 [] rfl rfl rfl rfl | refine endS0 [] rfl rfl rfl rfl | refine yx ?_ | (refine yy ?_ ?_ <;> intro _) | exact zD | exact zL)
theorem sortI0_evS (fv : Value) : EvS E 125 [.d (.sl []), .d (.imm fv)] [] (.tup []) [] := by
 have h := pdq0_evS fv 0
 have hz : (([] : List D).length : Int) = 0 := rfl
 refine yn func125 ntmps125 fun _ _ _ _=>?_
 repeat' (first | refine yz ?_ | refine yp b155 blen0_ev ?_ | refine yc [] b218 (h) ?_ | refine retS0 [] rfl rfl rfl rfl | refine endS0 [] rfl rfl rfl rfl | refine yx ?_ | (refine yy ?_ ?_ <;> intro _) | exact zD | exact zL)
def labL (l : List Nd) : List ByteArray := l.flatMap Nd.labels
def tyL (l : List Ed) : List ByteArray := l.map Ed.ty
def srtC (l : List ByteArray) : List ByteArray := (Lib.compact (sortU (bytL l))).map fun b => ⟨b.toArray⟩
theorem srtC_D (l : List ByteArray) : strL (Lib.compact (sortU (bytL l))) = (srtC l).map D.str := by
 simp [strL, srtC]
theorem bytL_in {l : List ByteArray} (h : ∀ s ∈ l, s.size ≤ maxLen) : ∀ z ∈ bytL l, z.length ≤ maxLen := by
 intro z hz
 obtain ⟨s, hs, rfl⟩ := List.mem_map.1 hz
 rw [Array.length_toList]
 exact h s hs
theorem sortU_len (l : List (List UInt8)) : (sortU l).length = l.length := by simp [sortU]
theorem sortU_mem {l : List (List UInt8)} {z : List UInt8} : z ∈ sortU l ↔ z ∈ l := (List.mergeSort_perm _ _).mem_iff
theorem labL_next {l : List Nd} {i : Nat} {n : Nd} (h : l[i]? = some n) : (labL (l.take (i + 1))).map D.str = (labL (l.take i)).map D.str ++ n.labels.map D.str := by
 unfold labL
 rw [List.take_add_one, h]
 simp
theorem labL_len : ∀ (l : List Nd), (∀ n ∈ l, n.labels.length ≤ 8) → (labL l).length ≤ 8 * l.length
 | [], _ => by simp [labL]
 | n :: r, h => by
  have h1 := h n (by simp)
  have h2 := labL_len r fun m hm => h m (by simp [hm])
  unfold labL at *
  simp only [List.flatMap_cons, List.length_append, List.length_cons]
  omega
theorem tyL_next {l : List Ed} {i : Nat} {e : Ed} (h : l[i]? = some e) : (tyL (l.take (i + 1))).map D.str = (tyL (l.take i)).map D.str ++ [.str e.ty] := by
 unfold tyL
 rw [List.take_add_one, h]
 simp
structure SLb (g : Gr) where
 i : Nat
 hi : i ≤ g.nodes.length
structure STy (g : Gr) where
 i : Nat
 hi : i ≤ g.edges.length
theorem str_cells (l : List ByteArray) : ∀ d ∈ l.map D.str, d.cells.length = 1 := fun d hd => by
 obtain ⟨u, -, rfl⟩ := List.mem_map.1 hd
 rfl
theorem str_size {l : List ByteArray} (h : Fit (.sl (l.map .str))) : ∀ s ∈ l, s.size ≤ maxLen := fun s hs => ((fit_map h).2 s hs).str
theorem labels_ev (g : Gr) (hn : g.nodes.length ≤ 2000) (h8 : ∀ n ∈ g.nodes, n.labels.length ≤ 8) : Ev E 42 [encGr g] (.d (.sl ((srtC (labL g.nodes)).map .str))) := Ev.fit fun hfit => by
 have hgn := (fit_map (fit_gr (hfit (encGr g) (by simp))).1).2
 have hsz : ∀ s ∈ labL g.nodes, s.size ≤ maxLen := fun s hs => by
  obtain ⟨n, h1, h2⟩ := List.mem_flatMap.1 hs
  exact str_size ((hgn n h1).aggs (.sl (n.labels.map .str)) (by simp)) s h2
 have hnn : (g.nodes.map encNd).length = g.nodes.length := by simp
 refine ye1 func42 ntmps42 fun _ _ _=>?_
 repeat' (first | refine yz ?_ | refine yx ?_ | (refine yy ?_ ?_ <;> intro _) | exact zD | exact zL)
 refine go_loop_ (α := SLb g) (fun p => ⟨[(3, rowK 1 ((labL (g.nodes.take p.i)).map .str)), (7, .d (.sl (g.nodes.map encNd))), (8, .d (.int (g.nodes.map encNd).length)), (9, .d (.int p.i))], [oGr g] ++ rowO 9 1 ((labL (g.nodes.take p.i)).map .str)⟩) (fun p => g.nodes.length - p.i) ⟨0, by omega⟩ (zle 1) ?_
 rintro ⟨i, hi⟩
 dsimp only
 rcases Nat.lt_or_ge i g.nodes.length with hlt | hge
 ·have g1 : decide ((i : Int) < ((g.nodes.map encNd).length : Int)) = true := by rw [hnn]; simpa using hlt
  have hol : ((labL (g.nodes.take i)).map D.str).length ≤ 16000 := by
   have := labL_len (g.nodes.take i) fun n h => h8 n (List.mem_of_mem_take h)
   rw [List.length_take] at this
   rw [List.length_map]; omega
  have hx0 := List.getElem?_eq_getElem hlt
  generalize g.nodes[i] = n at hx0
  have hx := map_at (f := encNd) hx0
  have hnl := h8 n (List.mem_of_getElem? hx0)
  have hnx := labL_next hx0
  generalize (labL (g.nodes.take i)).map D.str = o at *
  obtain ⟨nid, nls, nps⟩ := n
  dsimp only at hnl hnx
  match o, hol, nls, hnl with
  | [], hol, [], hnl =>
   dsimp only [rowK, rowO]
   repeat' (first | refine yz ?_ | refine yi (encNd ⟨nid, [], nps⟩) hx ?_ | refine go_append0n ?_ | refine yx ?_ | (refine yy ?_ ?_ <;> intro _) | exact zD | exact zL)
   refine go_stop ?_
   refine ⟨⟨i + 1, by omega⟩, by dsimp only; omega, ?_⟩
   dsimp only
   rw [hnx]
   exact (zle 1)
  | [], hol, y :: ys, hnl =>
   have hl2 : (List.map D.str (y :: ys)).length = (y :: ys).length := by simp
   dsimp only [rowK, rowO]
   repeat' (first | refine yz ?_ | refine yi (encNd ⟨nid, y :: ys, nps⟩) hx ?_ | (refine qS rfl ⟨by simp, str_cells (y :: ys), by (show (0 + (List.map D.str (y :: ys)).length) * 16 ≤ 140737488355328; omega), by (show 0 + (List.map D.str (y :: ys)).length ≤ 9223372036854775807; omega)⟩ ?_) | refine yx ?_ | (refine yy ?_ ?_ <;> intro _) | exact zD | exact zL)
   refine go_stop ?_
   refine ⟨⟨i + 1, by omega⟩, by dsimp only; omega, ?_⟩
   dsimp only
   rw [hnx]
   exact (zren [0, 2])
  | a :: q, hol, [], hnl =>
   dsimp only [rowK, rowO]
   repeat' (first | refine yz ?_ | refine yi (encNd ⟨nid, [], nps⟩) hx ?_ | refine go_append0o rfl rfl rfl rfl rfl rfl rfl rfl rfl ?_ | refine yx ?_ | (refine yy ?_ ?_ <;> intro _) | exact zD | exact zL)
   refine go_stop ?_
   refine ⟨⟨i + 1, by omega⟩, by dsimp only; omega, ?_⟩
   dsimp only
   rw [hnx, List.map_nil, List.append_nil]
   exact (zle 2)
  | a :: q, hol, y :: ys, hnl =>
   have hl2 : (List.map D.str (y :: ys)).length = (y :: ys).length := by simp
   dsimp only [rowK, rowO]
   repeat' (first | refine yz ?_ | refine yi (encNd ⟨nid, y :: ys, nps⟩) hx ?_ | (refine qS rfl ⟨by simp, str_cells (y :: ys), by (show ((a :: q).length + (List.map D.str (y :: ys)).length) * 16 ≤ 140737488355328; omega), by (show (a :: q).length + (List.map D.str (y :: ys)).length ≤ 9223372036854775807; omega)⟩ ?_) | refine yx ?_ | (refine yy ?_ ?_ <;> intro _) | exact zD | exact zL)
   refine go_stop ?_
   refine ⟨⟨i + 1, by omega⟩, by dsimp only; omega, ?_⟩
   dsimp only
   rw [hnx]
   exact (zren [0, 3])
 ·have g1 : decide ((i : Int) < ((g.nodes.map encNd).length : Int)) = false := by rw [hnn]; simp; omega
  have hol := labL_len g.nodes h8
  rw [List.take_of_length_le hge, ← srtC_D]
  generalize labL g.nodes = o at *
  match o, hol with
  | [], hol =>
   rw [srt0]
   dsimp only [rowK, rowO, List.map]
   repeat' (first | refine yz ?_ | refine yc [] b123 (sortS0_evS) ?_ | refine yc [] b84 (compact0_evS) ?_ | refine yx ?_ | (refine yy ?_ ?_ <;> intro _) | exact zD | exact zL)
  | a :: q, hol =>
   have h1 := sortS_evS (bytL (a :: q)) (bytL_in hsz) (by simp only [bytL, List.length_map]; omega)
   have h2 := compact_evS (sortU (bytL (a :: q))) fun z hz => bytL_in hsz z (sortU_mem.1 hz)
   rw [strL_bytL] at h1
   dsimp only [rowK, rowO, List.map]
   repeat' (first | refine yz ?_ | refine yc [1] b123 (h1) ?_ | refine yc [1] b84 (h2) ?_ | refine yx ?_ | (refine yy ?_ ?_ <;> intro _) | exact zD | exact zL)
   refine go_frz 2 rfl ?_
   repeat' (first | refine yz ?_ | refine yx ?_ | (refine yy ?_ ?_ <;> intro _) | exact zD | exact zL)
theorem types_ev (g : Gr) (hn : g.edges.length ≤ 4000) : Ev E 44 [encGr g] (.d (.sl ((srtC (tyL g.edges)).map .str))) := Ev.fit fun hfit => by
 have hgn := (fit_map (fit_gr (hfit (encGr g) (by simp))).2).2
 have hsz : ∀ s ∈ tyL g.edges, s.size ≤ maxLen := fun s hs => by
  obtain ⟨e, h1, rfl⟩ := List.mem_map.1 hs
  exact ((hgn e h1).aggs (.str e.ty) (by simp)).str
 have hnn : (g.edges.map encEd).length = g.edges.length := by simp
 refine ye1 func44 ntmps44 fun _ _ _=>?_
 repeat' (first | refine yz ?_ | refine yx ?_ | (refine yy ?_ ?_ <;> intro _) | exact zD | exact zL)
 refine go_loop_ (α := STy g) (fun p => ⟨[(3, rowK 1 ((tyL (g.edges.take p.i)).map .str)), (7, .d (.sl (g.edges.map encEd))), (8, .d (.int (g.edges.map encEd).length)), (9, .d (.int p.i))], [oGr g] ++ rowO 9 1 ((tyL (g.edges.take p.i)).map .str)⟩) (fun p => g.edges.length - p.i) ⟨0, by omega⟩ (zle 1) ?_
 rintro ⟨i, hi⟩
 dsimp only
 rcases Nat.lt_or_ge i g.edges.length with hlt | hge
 ·have g1 : decide ((i : Int) < ((g.edges.map encEd).length : Int)) = true := by rw [hnn]; simpa using hlt
  have hol : ((tyL (g.edges.take i)).map D.str).length ≤ 4000 := by
   rw [List.length_map, tyL, List.length_map, List.length_take]; omega
  have hx0 := List.getElem?_eq_getElem hlt
  generalize g.edges[i] = n at hx0
  have hx := map_at (f := encEd) hx0
  have hnx := tyL_next hx0
  generalize (tyL (g.edges.take i)).map D.str = o at *
  match o, hol with
  | [], hol =>
   dsimp only [rowK, rowO]
   repeat' (first | refine yz ?_ | refine yi (encEd n) hx ?_ | (refine qS rfl ⟨by simp, fun d hd => by (obtain rfl := List.mem_singleton.1 hd; rfl), by (show (0 + 1) * 16 ≤ 140737488355328; omega), by (show 0 + 1 ≤ 9223372036854775807; omega)⟩ ?_) | refine yx ?_ | (refine yy ?_ ?_ <;> intro _) | exact zD | exact zL)
   refine go_stop ?_
   refine ⟨⟨i + 1, by omega⟩, by dsimp only; omega, ?_⟩
   dsimp only
   rw [hnx]
   exact (zren [0, 2])
  | a :: q, hol =>
   dsimp only [rowK, rowO]
   repeat' (first | refine yz ?_ | refine yi (encEd n) hx ?_ | (refine qS rfl ⟨by simp, fun d hd => by (obtain rfl := List.mem_singleton.1 hd; rfl), by (show ((a :: q).length + 1) * 16 ≤ 140737488355328; omega), by (show (a :: q).length + 1 ≤ 9223372036854775807; omega)⟩ ?_) | refine yx ?_ | (refine yy ?_ ?_ <;> intro _) | exact zD | exact zL)
   refine go_stop ?_
   refine ⟨⟨i + 1, by omega⟩, by dsimp only; omega, ?_⟩
   dsimp only
   rw [hnx]
   exact (zren [0, 3])
 ·have g1 : decide ((i : Int) < ((g.edges.map encEd).length : Int)) = false := by rw [hnn]; simp; omega
  have hol : (tyL g.edges).length ≤ 4000 := by rw [tyL, List.length_map]; omega
  rw [List.take_of_length_le hge, ← srtC_D]
  generalize tyL g.edges = o at *
  match o, hol with
  | [], hol =>
   rw [srt0]
   dsimp only [rowK, rowO, List.map]
   repeat' (first | refine yz ?_ | refine yc [] b123 (sortS0_evS) ?_ | refine yc [] b84 (compact0_evS) ?_ | refine yx ?_ | (refine yy ?_ ?_ <;> intro _) | exact zD | exact zL)
  | a :: q, hol =>
   have h1 := sortS_evS (bytL (a :: q)) (bytL_in hsz) (by simp only [bytL, List.length_map]; omega)
   have h2 := compact_evS (sortU (bytL (a :: q))) fun z hz => bytL_in hsz z (sortU_mem.1 hz)
   rw [strL_bytL] at h1
   dsimp only [rowK, rowO, List.map]
   repeat' (first | refine yz ?_ | refine yc [1] b123 (h1) ?_ | refine yc [1] b84 (h2) ?_ | refine yx ?_ | (refine yy ?_ ?_ <;> intro _) | exact zD | exact zL)
   refine go_frz 2 rfl ?_
   repeat' (first | refine yz ?_ | refine yx ?_ | (refine yy ?_ ?_ <;> intro _) | exact zD | exact zL)
end Go.Proofs.YtenpjlghikohmaaGreatDoor
namespace Go.Proofs.YtenpjlghikohmaaGreatDoor
set_option maxRecDepth 4000
open Go Go.Abs Go.Val Go.RowKit Go.Proofs.Tryz
attribute [local irreducible] go SGo HasBody Ev ExtEv EvO EvS PGo RGo
abbrev NZ : X := .d (.imm (.slice none 0 0))
def fZ (k : Nat) : List D → X
 | [] => NZ
 | _ :: _ => .own k
def fZO (t : TypeId) (sz : Nat) : List D → AObj
 | [] => .dead
 | x :: r => .row t sz (x :: r)
abbrev svO (cs : List X) : AObj := .var 42 (.cs cs)
abbrev ctO (L : List D) : AObj := fZO 107 2 L
abbrev inO (L : List D) : AObj := fZO 46 1 L
abbrev rsO : AObj := svO [.d (.int 0), .d (.int 0), .nilS, .nilS, .nilS, .nilS]
theorem fZ_below (k n : Nat) (L : List D) (h : Nat.blt k n = true) : (fZ k L).below n = true := by
 cases L with
 | nil => rfl
 | cons x r => simpa [fZ, X.below] using h
theorem fZO_below (t : TypeId) (sz n : Nat) (L : List D) : (fZO t sz L).below n = true := by
 cases L <;> rfl
theorem sv_below {n : Nat} {a b x y z u : X} (ha : a.below n = true) (hb : b.below n = true) (hx : x.below n = true) (hy : y.below n = true) (hz : z.below n = true) (hu : u.below n = true) : (svO [a, b, x, y, z, u]).below n = true := by
 show ([a, b, x, y, z, u].all fun x => x.below n) = true
 simp [ha, hb, hx, hy, hz, hu]
theorem same_cells {c c' : VC} (h : c.cells = c'.cells) : ∀ (i : Nat) x x', c.cells[i]? = some x → c'.cells[i]? = some x' → ∀ w F σ v, RdX w F σ x v → RdX w F σ x' v := by
 intro i x x' h1 h2 w F σ v hr
 rw [h] at h1
 rw [h1] at h2
 cases h2
 exact hr
theorem nz_sl {w : World} {F : Nat → Prop} {σ : Sg} {v : Value} (h : RdX w F σ NZ v) : RdX w F σ (.d (.sl [])) v := rd_nil h
theorem Le.fix3 {C : Cx} {tm : List (Nat × X)} {o0 o1 : AObj} {a b x y z : X} (L : List D) (hT : TmB 3 tm) (h0 : o0.below 3 = true) (h1 : o1.below 3 = true) (ha : a.below 3 = true) (hb : b.below 3 = true) (hx : x.below 3 = true) (hy : y.below 3 = true) (hz : z.below 3 = true) :
  Le C ⟨tm, [o0, o1, svO [a, b, fZ 3 L, x, y, z], ctO L]⟩ ⟨tm, [o0, o1, svO [a, b, .d (.sl L), x, y, z], .dead]⟩ := by
 cases L with
 | nil =>
  refine Le.objW 2 (c' := .cs [a, b, .d (.sl []), x, y, z]) rfl rfl fun i u u' h1 h2 w F σ v hr => ?_
  match i with
  | 0 => cases h1; cases h2; exact hr
  | 1 => cases h1; cases h2; exact hr
  | 2 => cases h1; cases h2; exact nz_sl hr
  | 3 => cases h1; cases h2; exact hr
  | 4 => cases h1; cases h2; exact hr
  | 5 => cases h1; cases h2; exact hr
  | i + 6 => cases h1
 | cons d r =>
  intro a' w hr
  have hf : frz 3 ⟨tm, [o0, o1, svO [a, b, fZ 3 (d :: r), x, y, z], ctO (d :: r)]⟩ = some ⟨frzT 3 (d :: r) tm, ([o0, o1, svO [a, b, fZ 3 (d :: r), x, y, z], ctO (d :: r)].map (frzO 3 (d :: r))).set 3 .dead⟩ := rfl
  obtain ⟨F, σ, h1', h2, h3, hi, h4, h5, hs⟩ := frz_le 3 hf a' w hr
  have hob : ([o0, o1, svO [a, b, fZ 3 (d :: r), x, y, z], ctO (d :: r)].map (frzO 3 (d :: r))).set 3 .dead = [o0, o1, svO [a, b, .d (.sl (d :: r)), x, y, z], .dead] := by
   show [frzO 3 (d :: r) o0, frzO 3 (d :: r) o1, svO [frzX 3 (d :: r) a, frzX 3 (d :: r) b, .d (.sl (d :: r)), frzX 3 (d :: r) x, frzX 3 (d :: r) y, frzX 3 (d :: r) z], .dead] = _
   rw [frzO_below h0, frzO_below h1, frzX_below ha, frzX_below hb, frzX_below hx, frzX_below hy, frzX_below hz]
  refine ⟨F, σ, h1', h2, h3, by rw [← hob]; exact hi, h4, h5, fun u => ?_⟩
  have := hs u
  rw [lk_frz, frzX_below (hT.lk u)] at this
  exact this
def lbN (s : ByteArray) : List Nd → Int
 | [] => 0
 | n :: r => (bif hasF n.labels s then 1 else 0) + lbN s r
theorem lbN_take {s : ByteArray} : ∀ {l : List Nd} {i : Nat} {n : Nd}, l[i]? = some n → lbN s (l.take (i + 1)) = lbN s (l.take i) + (bif hasF n.labels s then 1 else 0)
 | a :: l, 0, n, h => by simp at h; subst h; simp [lbN]
 | a :: l, i + 1, n, h => by
  have := lbN_take (s := s) (l := l) (i := i) (by simpa using h)
  simp only [List.take_succ_cons, lbN, this]; omega
theorem lbN_rng (s : ByteArray) : ∀ (l : List Nd), 0 ≤ lbN s l ∧ lbN s l ≤ l.length
 | [] => by simp [lbN]
 | n :: r => by
  have := lbN_rng s r
  simp only [lbN, List.length_cons]
  cases hasF n.labels s <;> simp <;> omega
theorem cntE_take {t : ByteArray} : ∀ {l : List Ed} {i : Nat} {e : Ed}, l[i]? = some e → cntE t (l.take (i + 1)) = cntE t (l.take i) + (bif tyB t e then 1 else 0)
 | a :: l, 0, e, h => by simp at h; subst h; simp [cntE]
 | a :: l, i + 1, e, h => by
  have := cntE_take (t := t) (l := l) (i := i) (by simpa using h)
  simp only [List.take_succ_cons, cntE, this]; omega
def sqF (g : Gr) (t : ByteArray) (dir : Int) : List Int := match degL g t dir g.nodes with | [] => [] | x :: r => pdF (x :: r)
def lbC (g : Gr) : List ByteArray → List CT := List.map fun s => ⟨s, lbN s g.nodes⟩
def tyC (g : Gr) : List ByteArray → List CT := List.map fun s => ⟨s, cntE s g.edges⟩
def sqC (g : Gr) (dir : Int) : List ByteArray → List (List Int) := List.map fun s => sqF g s dir
def stG (g : Gr) : STA := ⟨g.nodes.length, g.edges.length, lbC g (srtC (labL g.nodes)), tyC g (srtC (tyL g.edges)), sqC g 1 (srtC (tyL g.edges)), sqC g 2 (srtC (tyL g.edges))⟩
def stZ : D := .agg [.int 0, .int 0, .sl [], .sl [], .sl [], .sl []]
end Go.Proofs.YtenpjlghikohmaaGreatDoor
namespace Go.Proofs.YtenpjlghikohmaaGreatDoor
set_option maxRecDepth 4000
open Go Go.Abs Go.Val Go.RowKit Go.Proofs.Tryz
theorem partF_8 {ls : List ByteArray} {ps : List Pr} (h : partF ls ps = 0) : ls.length ≤ 8 := by
 unfold partF at h
 rcases Nat.lt_or_ge 8 ls.length with hl | hl
 ·have : decide (ls.length > 8) = true := decide_eq_true hl
  rw [this] at h
  simp at h
 ·exact hl
theorem okNd_0 {p : Option Int} {nn : Int} {n : Nd} (h : okNd p nn n = 0) : (∀ q, p = some q → q < n.id) ∧ n.labels.length ≤ 8 := by
 have rest : (bif decide (n.id < 1) || decide (n.id ≥ nn) then (1 : Int) else partF n.labels n.props) = 0 → n.labels.length ≤ 8 := fun h => by
  cases hd : decide (n.id < 1) || decide (n.id ≥ nn) with
  | true => rw [hd] at h; simp at h
  | false => rw [hd, cond_false] at h; exact partF_8 h
 cases p with
 | none => exact ⟨fun q hq => (by cases hq), rest h⟩
 | some p =>
  have h' : (bif decide (n.id ≤ p) then (26 : Int) else bif decide (n.id < 1) || decide (n.id ≥ nn) then 1 else partF n.labels n.props) = 0 := h
  cases hc : decide (n.id ≤ p) with
  | true => rw [hc] at h'; simp at h'
  | false =>
   rw [hc, cond_false] at h'
   have := of_decide_eq_false hc
   exact ⟨fun q hq => (by cases hq; omega), rest h'⟩
theorem nodesC_0 {nn : Int} : ∀ {l : List Nd} {p : Option Int}, nodesC nn p l = 0 → (l.map Nd.id).Pairwise (· < ·) ∧ (∀ q, p = some q → ∀ n ∈ l, q < n.id) ∧ ∀ n ∈ l, n.labels.length ≤ 8
 | [], p, _ => by simp
 | n :: r, p, h => by
  rw [nodesC] at h
  cases hc : okNd p nn n != 0 with
  | true =>
   rw [hc, cond_true] at h
   rw [h] at hc
   simp at hc
  | false =>
   rw [hc, cond_false] at h
   have h0 : okNd p nn n = 0 := by simpa using hc
   obtain ⟨k1, k2⟩ := okNd_0 h0
   obtain ⟨i1, i2, i3⟩ := nodesC_0 (l := r) (p := some n.id) h
   refine ⟨?_, fun q hq m hm => ?_, fun m hm => ?_⟩
   ·rw [List.map_cons, List.pairwise_cons]
    refine ⟨fun x hx => ?_, i1⟩
    obtain ⟨m, hm, rfl⟩ := List.mem_map.1 hx
    exact i2 _ rfl m hm
   ·rcases List.mem_cons.1 hm with e | e
    ·rw [e]; exact k1 q hq
    ·have := i2 _ rfl m e
     have := k1 q hq
     omega
   ·rcases List.mem_cons.1 hm with e | e
    ·rw [e]; exact k2
    ·exact i3 m e
theorem chkG_0 {g : Gr} (h : chkG g = 0) : g.nodes.length ≤ 2000 ∧ g.edges.length ≤ 4000 ∧ (g.nodes.map Nd.id).Pairwise (· < ·) ∧ ∀ n ∈ g.nodes, n.labels.length ≤ 8 := by
 unfold chkG at h
 cases c1 : decide (g.nodes.length > 2000) with
 | true => rw [c1] at h; simp at h
 | false =>
 cases c2 : decide (g.edges.length > 4000) with
 | true => rw [c1, c2] at h; simp at h
 | false =>
 rw [c1, c2] at h
 simp only [Bool.or_false, cond_false] at h
 have k1 := of_decide_eq_false c1
 have k2 := of_decide_eq_false c2
 cases c3 : decide (g.nn < 1) || decide (g.nn > 1000001) || (decide (g.ne < 1) || decide (g.ne > 1000001)) with
 | true => rw [c3] at h; simp at h
 | false =>
  rw [c3, cond_false] at h
  cases c4 : nodesC g.nn none g.nodes != 0 with
  | true =>
   rw [c4, cond_true] at h
   rw [h] at c4
   simp at c4
  | false =>
   have h0 : nodesC g.nn none g.nodes = 0 := by simpa using c4
   obtain ⟨i1, -, i3⟩ := nodesC_0 h0
   exact ⟨by omega, by omega, i1, i3⟩
theorem get_bangW {α : Type} [Inhabited α] (l : List α) {j : Nat} (h : j < l.length) : l.toArray[j]! = l[j] := by rw [getElem!_pos _ j (by simpa using h)]; simp
theorem compact_memW (l : List (List UInt8)) {z : List UInt8} (h : z ∈ l) : z ∈ Lib.compact l := by
 unfold Lib.compact Lib.compactUpTo
 have key : ∀ j, ∀ hj : j < l.length, l[j] = z → ∃ k, k < l.length ∧ Lib.keeps l.toArray k = true ∧ l.toArray[k]! = z := by
  intro j
  induction j with
  | zero => intro hj e; exact ⟨0, hj, by simp [Lib.keeps], by rw [get_bangW l hj]; exact e⟩
  | succ j ih =>
   intro hj e
   by_cases he : l[j]'(by omega) = z
   ·exact ih (by omega) he
   ·refine ⟨j + 1, hj, ?_, by rw [get_bangW l hj]; exact e⟩
    unfold Lib.keeps
    rw [decide_eq_true_eq]
    right
    rw [get_bangW l hj, Nat.add_sub_cancel, get_bangW l (by omega), e]
    exact fun h => he h.symm
 obtain ⟨j, hj, e⟩ := List.mem_iff_getElem.1 h
 obtain ⟨k, k1, k2, k3⟩ := key j hj e
 exact List.mem_map.2 ⟨k, List.mem_filter.2 ⟨by simpa using k1, k2⟩, k3⟩
theorem srtC_len (l : List ByteArray) : (srtC l).length ≤ l.length := by
 unfold srtC
 rw [List.length_map]
 refine Nat.le_trans (compact_len _) ?_
 rw [sortU_len, bytL, List.length_map]
 exact Nat.le_refl _
theorem srtC_mem {l : List ByteArray} {s : ByteArray} (h : s ∈ l) : ∃ u ∈ srtC l, u.toList = s.toList := by
 have h1 : s.data.toList ∈ Lib.compact (sortU (bytL l)) := compact_memW _ (sortU_mem.2 (List.mem_map.2 ⟨s, h, rfl⟩))
 refine ⟨⟨s.data.toList.toArray⟩, List.mem_map.2 ⟨_, h1, rfl⟩, ?_⟩
 congr 1
theorem pdF_head {l : List Int} {x : Int} (h : x ∈ l) : x ≤ (pdF l).headD 0 := by
 obtain ⟨p1, p2, p3⟩ := pdF_ok l
 obtain ⟨j, hj, e⟩ := List.mem_iff_getElem.1 (p1.mem_iff.2 h)
 have h0 : (pdF l).headD 0 = (pdF l).getD 0 0 := by cases pdF l <;> rfl
 have hx : (pdF l).getD j 0 = x := by rw [List.getD_eq_getElem?_getD, List.getElem?_eq_getElem hj, e]; rfl
 rw [h0, ← hx]
 rcases Nat.eq_zero_or_pos j with rfl | hp
 ·exact Int.le_refl _
 ·exact p3 0 j hp (by omega)
theorem pdF_mem {l : List Int} {x : Int} : x ∈ pdF l ↔ x ∈ l := (pdF_ok l).1.mem_iff
theorem cntE_none {t : ByteArray} : ∀ {l : List Ed}, (∀ e ∈ l, tyB t e = false) → cntE t l = 0
 | [], _ => rfl
 | e :: r, h => by
  rw [cntE, h e (by simp), cntE_none (l := r) fun x hx => h x (by simp [hx])]; rfl
theorem cntE_same {t u : ByteArray} (h : u.toList = t.toList) : ∀ (l : List Ed), cntE u l = cntE t l
 | [] => rfl
 | e :: r => by
  have : tyB u e = tyB t e := by unfold tyB; rw [h]
  rw [cntE, cntE, this, cntE_same h r]
theorem sqF_mem {g : Gr} {u : ByteArray} {d x : Int} : x ∈ sqF g u d ↔ x ∈ degL g u d g.nodes := by
 unfold sqF
 cases h : degL g u d g.nodes with
 | nil => exact Iff.rfl
 | cons a r => exact pdF_mem
theorem sqF_head {g : Gr} {u : ByteArray} {d : Int} : 0 ≤ (sqF g u d).headD 0 ∧ (sqF g u d).headD 0 ≤ g.edges.length ∧ ∀ n ∈ g.nodes, cntM u d n.id g.edges ≤ (sqF g u d).headD 0 := by
 have hr : ∀ x ∈ sqF g u d, 0 < x ∧ x ≤ g.edges.length := fun x hx => by
  obtain ⟨h1, h2⟩ := List.mem_filter.1 (sqF_mem.1 hx)
  obtain ⟨n, -, rfl⟩ := List.mem_map.1 h1
  exact ⟨of_decide_eq_true h2, (cntM_rng _ _ _ _).2⟩
 have h0 : 0 ≤ (sqF g u d).headD 0 := by
  cases h : sqF g u d with
  | nil => exact Int.le_refl _
  | cons a r => exact Int.le_of_lt (hr a (by rw [h]; simp)).1
 have h1 : (sqF g u d).headD 0 ≤ g.edges.length := by
  cases h : sqF g u d with
  | nil => simp
  | cons a r => exact (hr a (by rw [h]; simp)).2
 refine ⟨h0, h1, fun n hn => ?_⟩
 rcases Int.lt_or_le 0 (cntM u d n.id g.edges) with hp | hp
 ·have hm : cntM u d n.id g.edges ∈ degL g u d g.nodes := List.mem_filter.2 ⟨List.mem_map.2 ⟨n, hn, rfl⟩, decide_eq_true hp⟩
  unfold sqF
  cases h : degL g u d g.nodes with
  | nil => rw [h] at hm; simp at hm
  | cons a r => rw [h] at hm; exact pdF_head hm
 ·omega
attribute [local irreducible] Ev EvO EvS ExtEv HasBody PGo RGo SGo go
theorem of0_ev (g : Gr) (r : Int) (hr : (r != 0) = true) (hC : Ev E 41 [encGr g] (.d (.int r))) : Ev E 14 [encGr g] (.tup [stZ, .int r]) := by
 refine ye1 func14 ntmps14 fun _ _ _=>?_
 repeat' (first | refine yz ?_ | refine yp b41 hC ?_ | refine yx ?_ | (refine yy ?_ ?_ <;> intro _) | exact zD | exact zL)
structure OfL (L : List ByteArray) where
 i : Nat
 hi : i ≤ L.length
structure OfN (l : List Nd) (s : ByteArray) where
 j : Nat
 n : Int
 hj : j ≤ l.length
 ok : n = lbN s (l.take j)
structure OfE (l : List Ed) (s : ByteArray) where
 j : Nat
 n : Int
 hj : j ≤ l.length
 ok : n = cntE s (l.take j)
theorem lbC_next {g : Gr} {L : List ByteArray} {i : Nat} {s : ByteArray} (h : L[i]? = some s) : (lbC g (L.take (i + 1))).map encCT = (lbC g (L.take i)).map encCT ++ [encCT ⟨s, lbN s g.nodes⟩] := by
 unfold lbC
 rw [List.take_add_one, h]
 simp
theorem tyC_next {g : Gr} {L : List ByteArray} {i : Nat} {s : ByteArray} (h : L[i]? = some s) : (tyC g (L.take (i + 1))).map encCT = (tyC g (L.take i)).map encCT ++ [encCT ⟨s, cntE s g.edges⟩] := by
 unfold tyC
 rw [List.take_add_one, h]
 simp
theorem sqC_next {g : Gr} {d : Int} {L : List ByteArray} {i : Nat} {s : ByteArray} (h : L[i]? = some s) : (sqC g d (L.take (i + 1))).map intsD = (sqC g d (L.take i)).map intsD ++ [intsD (sqF g s d)] := by
 unfold sqC
 rw [List.take_add_one, h]
 simp
theorem nz3 {a b x : X} : ∀ (i : Nat) u u', (VC.cs [a, b, x, NZ, NZ, NZ]).cells[i]? = some u → (VC.cs [a, b, x, .d (.sl []), .d (.sl []), .d (.sl [])]).cells[i]? = some u' → ∀ w F σ v, RdX w F σ u v → RdX w F σ u' v := by
 intro i u u' h1 h2 w F σ v hr
 match i with
 | 0 => cases h1; cases h2; exact hr
 | 1 => cases h1; cases h2; exact hr
 | 2 => cases h1; cases h2; exact hr
 | 3 => cases h1; cases h2; exact nz_sl hr
 | 4 => cases h1; cases h2; exact nz_sl hr
 | 5 => cases h1; cases h2; exact nz_sl hr
 | i + 6 => cases h1
theorem lbC_len (g : Gr) (L : List ByteArray) : ((lbC g L).map encCT).length = L.length := by simp [lbC]
theorem tyC_len (g : Gr) (L : List ByteArray) : ((tyC g L).map encCT).length = L.length := by simp [tyC]
theorem sqC_len (g : Gr) (d : Int) (L : List ByteArray) : ((sqC g d L).map intsD).length = L.length := by simp [sqC]
set_option maxRecDepth 20000 in
set_option maxHeartbeats 8000000 in
theorem of_ev (g : Gr) (hC : Ev E 41 [encGr g] (.d (.int 0))) (hn : g.nodes.length ≤ 2000) (he : g.edges.length ≤ 4000) (h8 : ∀ n ∈ g.nodes, n.labels.length ≤ 8) (hLL : (srtC (labL g.nodes)).length ≤ 16000) (hTL : (srtC (tyL g.edges)).length ≤ 4000) : Ev E 14 [encGr g] (.tup [encST (stG g), .int 0]) := by
 have hnn : (g.nodes.map encNd).length = g.nodes.length := by simp
 have hen : (g.edges.map encEd).length = g.edges.length := by simp
 have hL := labels_ev g hn h8
 have hT := types_ev g he
 have hS := fun t d => seq_ev pdF (fun x r h => sortI_evS (x :: r) (by omega)) (sortI0_evS _) g t d hn he
 unfold stG
 rw [show ((g.nodes.length : Nat) : Int) = ((g.nodes.map encNd).length : Int) by rw [hnn], show ((g.edges.length : Nat) : Int) = ((g.edges.map encEd).length : Int) by rw [hen]]
 generalize hLe : srtC (labL g.nodes) = L at *
 generalize hTe : srtC (tyL g.edges) = T at *
 have hLn : (L.map D.str).length = L.length := by simp
 have hTn : (T.map D.str).length = T.length := by simp
 refine ye1 func14 ntmps14 fun _ _ _=>?_
 repeat' (first | refine go_buildN rfl rfl rfl rfl rfl rfl rfl rfl rfl ?_ | refine yz ?_ | refine yp b41 hC ?_ | refine yp b42 hL ?_ | refine yx ?_ | (refine yy ?_ ?_ <;> intro _) | exact zD | exact zL)
 refine go_dead ?_
 refine go_weaken (Le.objW 2 (c' := .cs [.d (.int (g.nodes.map encNd).length), .d (.int (g.edges.map encEd).length), NZ, NZ, NZ, NZ]) rfl rfl (same_cells rfl)) ?_
 refine go_loop_ (α := OfL L) (fun p => ⟨[(1, .ptr 0 0), (2, .ptr 1 0), (5, .ptr 2 0), (30, .d (.sl (L.map .str))), (31, .d (.int (L.map D.str).length)), (32, .d (.int p.i))], [oGr g, rsO, svO [.d (.int (g.nodes.map encNd).length), .d (.int (g.edges.map encEd).length), fZ 3 ((lbC g (L.take p.i)).map encCT), NZ, NZ, NZ], ctO ((lbC g (L.take p.i)).map encCT)]⟩) (fun p => L.length - p.i) ⟨0, by omega⟩ (zle 4) ?_
 rintro ⟨i, hi⟩
 dsimp only
 rcases Nat.lt_or_ge i L.length with hlt | hge
 ·have g1 : decide ((i : Int) < ((L.map D.str).length : Int)) = true := by rw [hLn]; simpa using hlt
  have hx0 := List.getElem?_eq_getElem hlt
  generalize L[i] = s at hx0
  have hx := map_at (f := D.str) hx0
  have hnx := lbC_next (g := g) hx0
  have hol := lbC_len g (L.take i)
  rw [List.length_take] at hol
  generalize (lbC g (L.take i)).map encCT = o at *
  repeat' (first | refine yz ?_ | refine yi (.str s) hx ?_ | refine yx ?_ | (refine yy ?_ ?_ <;> intro _) | exact zD | exact zL)
  refine go_loop_ (α := OfN g.nodes s) (fun p => ⟨[(1, .ptr 0 0), (2, .ptr 1 0), (5, .ptr 2 0), (7, .d (.str s)), (8, .d (.int p.n)), (30, .d (.sl (L.map .str))), (31, .d (.int (L.map D.str).length)), (32, .d (.int i)), (37, .d (.sl (g.nodes.map encNd))), (38, .d (.int (g.nodes.map encNd).length)), (39, .d (.int p.j))], [oGr g, rsO, svO [.d (.int (g.nodes.map encNd).length), .d (.int (g.edges.map encEd).length), fZ 3 o, NZ, NZ, NZ], ctO o]⟩) (fun p => g.nodes.length - p.j) ⟨0, 0, by omega, rfl⟩ (Le.of' 4 rfl rfl (by repeat (first | exact trivial | refine ⟨⟨rfl, rfl⟩, ?_⟩)) ⟨rfl, rfl, sv_below rfl rfl (fZ_below 3 4 _ rfl) rfl rfl rfl, fZO_below _ _ _ _, trivial⟩) ?_
  rintro ⟨j, n, hj, ok⟩
  dsimp only at ok ⊢
  have hrg := lbN_rng s (g.nodes.take j)
  rw [← ok, List.length_take] at hrg
  rcases Nat.lt_or_ge j g.nodes.length with hlt2 | hge2
  ·have g2 : decide ((j : Int) < ((g.nodes.map encNd).length : Int)) = true := by rw [hnn]; simpa using hlt2
   have hy0 := List.getElem?_eq_getElem hlt2
   generalize g.nodes[j] = m at hy0
   have hy := map_at (f := encNd) hy0
   have h1 := hasLabel_ev m s
   have hnj := lbN_take (s := s) hy0
   rw [← ok] at hnj
   cases hb : hasF m.labels s with
   | true =>
    rw [hb] at h1 hnj
    repeat' (first | refine yz ?_ | refine yi (encNd m) hy ?_ | refine yp b43 h1 ?_ | refine yx ?_ | (refine yy ?_ ?_ <;> intro _) | exact zD | exact zL)
    refine go_stop ?_
    exact ⟨⟨j + 1, n + 1, by omega, hnj.symm⟩, by dsimp only; omega, (Le.of' 4 rfl rfl (by repeat (first | exact trivial | refine ⟨⟨rfl, rfl⟩, ?_⟩)) ⟨rfl, rfl, sv_below rfl rfl (fZ_below 3 4 _ rfl) rfl rfl rfl, fZO_below _ _ _ _, trivial⟩)⟩
   | false =>
    rw [hb, cond_false, Int.add_zero] at hnj
    rw [hb] at h1
    repeat' (first | refine yz ?_ | refine yi (encNd m) hy ?_ | refine yp b43 h1 ?_ | refine yx ?_ | (refine yy ?_ ?_ <;> intro _) | exact zD | exact zL)
    refine go_stop ?_
    exact ⟨⟨j + 1, n, by omega, hnj.symm⟩, by dsimp only; omega, (Le.of' 4 rfl rfl (by repeat (first | exact trivial | refine ⟨⟨rfl, rfl⟩, ?_⟩)) ⟨rfl, rfl, sv_below rfl rfl (fZ_below 3 4 _ rfl) rfl rfl rfl, fZO_below _ _ _ _, trivial⟩)⟩
  ·have g2 : decide ((j : Int) < ((g.nodes.map encNd).length : Int)) = false := by rw [hnn]; simp; omega
   rw [List.take_of_length_le hge2] at ok
   subst ok
   match o, hol with
   | [], hol =>
    dsimp only [fZ, fZO]
    repeat' (first | refine yz ?_ | (refine qS rfl ⟨by simp, fun d hd => by (obtain rfl := List.mem_singleton.1 hd; rfl), by (show (0 + 1) * 24 ≤ 140737488355328; omega), by (show 0 + 1 ≤ 9223372036854775807; omega)⟩ ?_) | refine yx ?_ | (refine yy ?_ ?_ <;> intro _) | exact zD | exact zL)
    refine go_stop ?_
    refine ⟨⟨i + 1, by omega⟩, by dsimp only; omega, ?_⟩
    dsimp only
    rw [hnx]
    exact (zren [0, 1, 2, 4])
   | a :: q, hol =>
    dsimp only [fZ, fZO]
    repeat' (first | refine yz ?_ | (refine qS rfl ⟨by simp, fun d hd => by (obtain rfl := List.mem_singleton.1 hd; rfl), by (show ((a :: q).length + 1) * 24 ≤ 140737488355328; omega), by (show (a :: q).length + 1 ≤ 9223372036854775807; omega)⟩ ?_) | refine yx ?_ | (refine yy ?_ ?_ <;> intro _) | exact zD | exact zL)
    refine go_stop ?_
    refine ⟨⟨i + 1, by omega⟩, by dsimp only; omega, ?_⟩
    dsimp only
    rw [hnx]
    exact (zren [0, 1, 2, 4])
 ·have g1 : decide ((i : Int) < ((L.map D.str).length : Int)) = false := by rw [hLn]; simp; omega
  rw [List.take_of_length_le hge]
  refine qA ?_
  refine go_weaken (Le.fix3 ((lbC g L).map encCT) (by repeat (first | exact trivial | refine ⟨rfl, ?_⟩)) rfl rfl rfl rfl rfl rfl rfl) ?_
  refine go_dead ?_
  refine go_dead ?_
  repeat' (first | refine yz ?_ | refine yp b44 hT ?_ | refine yx ?_ | (refine yy ?_ ?_ <;> intro _) | exact zD | exact zL)
  refine go_loop_ (α := OfL T) (fun p => ⟨[(1, .ptr 0 0), (2, .ptr 1 0), (5, .ptr 2 0), (59, .d (.sl (T.map .str))), (60, .d (.int (T.map D.str).length)), (61, .d (.int p.i))], [oGr g, rsO, svO [.d (.int (g.nodes.map encNd).length), .d (.int (g.edges.map encEd).length), .d (.sl ((lbC g L).map encCT)), fZ 3 ((tyC g (T.take p.i)).map encCT), fZ 4 ((sqC g 1 (T.take p.i)).map intsD), fZ 5 ((sqC g 2 (T.take p.i)).map intsD)], ctO ((tyC g (T.take p.i)).map encCT), inO ((sqC g 1 (T.take p.i)).map intsD), inO ((sqC g 2 (T.take p.i)).map intsD)]⟩) (fun p => T.length - p.i) ⟨0, by omega⟩ (zle 6) ?_
  rintro ⟨i, hi⟩
  dsimp only
  rcases Nat.lt_or_ge i T.length with hlt | hge
  ·have g1 : decide ((i : Int) < ((T.map D.str).length : Int)) = true := by rw [hTn]; simpa using hlt
   have hx0 := List.getElem?_eq_getElem hlt
   generalize T[i] = s at hx0
   have hx := map_at (f := D.str) hx0
   have hn1 := tyC_next (g := g) hx0
   have hn2 := sqC_next (g := g) (d := 1) hx0
   have hn3 := sqC_next (g := g) (d := 2) hx0
   have h1 : Ev E 45 [encGr g, .str s, .int 1] (.d (intsD (sqF g s 1))) := hS s 1
   have h2 : Ev E 45 [encGr g, .str s, .int 2] (.d (intsD (sqF g s 2))) := hS s 2
   have hl1 := tyC_len g (T.take i)
   have hl2 := sqC_len g 1 (T.take i)
   have hl3 := sqC_len g 2 (T.take i)
   rw [List.length_take] at hl1 hl2 hl3
   generalize (tyC g (T.take i)).map encCT = o1 at *
   generalize (sqC g 1 (T.take i)).map intsD = o2 at *
   generalize (sqC g 2 (T.take i)).map intsD = o3 at *
   generalize (lbC g L).map encCT = LB at *
   repeat' (first | refine yz ?_ | refine yi (.str s) hx ?_ | refine yx ?_ | (refine yy ?_ ?_ <;> intro _) | exact zD | exact zL)
   refine go_loop_ (α := OfE g.edges s) (fun p => ⟨[(1, .ptr 0 0), (2, .ptr 1 0), (5, .ptr 2 0), (12, .d (.str s)), (13, .d (.int p.n)), (59, .d (.sl (T.map .str))), (60, .d (.int (T.map D.str).length)), (61, .d (.int i)), (66, .d (.sl (g.edges.map encEd))), (67, .d (.int (g.edges.map encEd).length)), (68, .d (.int p.j))], [oGr g, rsO, svO [.d (.int (g.nodes.map encNd).length), .d (.int (g.edges.map encEd).length), .d (.sl LB), fZ 3 o1, fZ 4 o2, fZ 5 o3], ctO o1, inO o2, inO o3]⟩) (fun p => g.edges.length - p.j) ⟨0, 0, by omega, rfl⟩ (Le.of' 6 rfl rfl (by repeat (first | exact trivial | refine ⟨⟨rfl, rfl⟩, ?_⟩)) ⟨rfl, rfl, sv_below rfl rfl rfl (fZ_below 3 6 _ rfl) (fZ_below 4 6 _ rfl) (fZ_below 5 6 _ rfl), fZO_below _ _ _ _, fZO_below _ _ _ _, fZO_below _ _ _ _, trivial⟩) ?_
   rintro ⟨j, n, hj, ok⟩
   dsimp only at ok ⊢
   have hrg := cntE_rng s (g.edges.take j)
   rw [← ok, List.length_take] at hrg
   rcases Nat.lt_or_ge j g.edges.length with hlt2 | hge2
   ·have g2 : decide ((j : Int) < ((g.edges.map encEd).length : Int)) = true := by rw [hen]; simpa using hlt2
    have hy0 := List.getElem?_eq_getElem hlt2
    generalize g.edges[j] = m at hy0
    have hy := map_at (f := encEd) hy0
    have hnj := cntE_take (t := s) hy0
    rw [← ok] at hnj
    unfold tyB at hnj
    cases hb : m.ty.toList == s.toList with
    | true =>
     rw [hb] at hnj
     repeat' (first | refine yz ?_ | refine yi (encEd m) hy ?_ | refine yx ?_ | (refine yy ?_ ?_ <;> intro _) | exact zD | exact zL)
     refine go_stop ?_
     exact ⟨⟨j + 1, n + 1, by omega, hnj.symm⟩, by dsimp only; omega, (Le.of' 6 rfl rfl (by repeat (first | exact trivial | refine ⟨⟨rfl, rfl⟩, ?_⟩)) ⟨rfl, rfl, sv_below rfl rfl rfl (fZ_below 3 6 _ rfl) (fZ_below 4 6 _ rfl) (fZ_below 5 6 _ rfl), fZO_below _ _ _ _, fZO_below _ _ _ _, fZO_below _ _ _ _, trivial⟩)⟩
    | false =>
     rw [hb, cond_false, Int.add_zero] at hnj
     repeat' (first | refine yz ?_ | refine yi (encEd m) hy ?_ | refine yx ?_ | (refine yy ?_ ?_ <;> intro _) | exact zD | exact zL)
     refine go_stop ?_
     exact ⟨⟨j + 1, n, by omega, hnj.symm⟩, by dsimp only; omega, (Le.of' 6 rfl rfl (by repeat (first | exact trivial | refine ⟨⟨rfl, rfl⟩, ?_⟩)) ⟨rfl, rfl, sv_below rfl rfl rfl (fZ_below 3 6 _ rfl) (fZ_below 4 6 _ rfl) (fZ_below 5 6 _ rfl), fZO_below _ _ _ _, fZO_below _ _ _ _, fZO_below _ _ _ _, trivial⟩)⟩
   ·have g2 : decide ((j : Int) < ((g.edges.map encEd).length : Int)) = false := by rw [hen]; simp; omega
    rw [List.take_of_length_le hge2] at ok
    subst ok
    match o1, o2, o3, hl1, hl2, hl3 with
    | [], [], [], hl1, hl2, hl3 =>
     dsimp only [fZ, fZO]
     repeat' (first | refine yq 28 [6,8] ?_ | refine yf 28 0 6 ?_ | refine yw ?_ | refine yf 28 7 1 ?_ | refine rgN ?_ | refine yv ?_ | refine yq 29 [6,8] ?_ | refine yf 29 0 6 ?_ | refine yf 29 7 1 ?_ | refine rgN ?_ | refine yv ?_ | refine yz ?_ | (refine qS rfl ⟨by simp, fun d hd => by (obtain rfl := List.mem_singleton.1 hd; rfl), by (show (0 + 1) * 24 ≤ 140737488355328; omega), by (show 0 + 1 ≤ 9223372036854775807; omega)⟩ ?_) | refine yp b45 h1 ?_ | refine yp b45 h2 ?_ | refine rgS (id := 28) (i := 6) rfl rfl rfl rfl (⟨by simp, fun d hd => by (obtain rfl := List.mem_singleton.1 hd; rfl), by (show (0 + 1) * 24 ≤ 140737488355328; omega), by (show 0 + 1 ≤ 9223372036854775807; omega)⟩) (by repeat (first | exact trivial | refine ⟨⟨rfl, rfl⟩, ?_⟩ | refine ⟨trivial, ?_⟩)) ?_ | refine rgS (id := 29) (i := 6) rfl rfl rfl rfl (⟨by simp, fun d hd => by (obtain rfl := List.mem_singleton.1 hd; rfl), by (show (0 + 1) * 24 ≤ 140737488355328; omega), by (show 0 + 1 ≤ 9223372036854775807; omega)⟩) (by repeat (first | exact trivial | refine ⟨⟨rfl, rfl⟩, ?_⟩ | refine ⟨trivial, ?_⟩)) ?_ | refine yx ?_ | (refine yy ?_ ?_ <;> intro _) | exact zD | exact zL)
     refine go_stop ?_
     refine ⟨⟨i + 1, by omega⟩, by dsimp only; omega, ?_⟩
     dsimp only
     rw [hn1, hn2, hn3]
     exact (zren [0, 1, 2, 6, 7, 8])
    | a :: q, b :: r, c :: u, hl1, hl2, hl3 =>
     dsimp only [fZ, fZO]
     repeat' (first | refine yq 28 [6,8] ?_ | refine yf 28 0 6 ?_ | refine yw ?_ | refine yf 28 7 1 ?_ | refine rgN ?_ | refine yv ?_ | refine yq 29 [6,8] ?_ | refine yf 29 0 6 ?_ | refine yf 29 7 1 ?_ | refine rgN ?_ | refine yv ?_ | refine yz ?_ | (refine qS rfl ⟨by simp, fun d hd => by (obtain rfl := List.mem_singleton.1 hd; rfl), by (show ((a :: q).length + 1) * 24 ≤ 140737488355328; omega), by (show (a :: q).length + 1 ≤ 9223372036854775807; omega)⟩ ?_) | refine yp b45 h1 ?_ | refine yp b45 h2 ?_ | refine rgS (id := 28) (i := 6) rfl rfl rfl rfl (⟨by simp, fun d hd => by (obtain rfl := List.mem_singleton.1 hd; rfl), by (show ((b :: r).length + 1) * 24 ≤ 140737488355328; omega), by (show (b :: r).length + 1 ≤ 9223372036854775807; omega)⟩) (by repeat (first | exact trivial | refine ⟨⟨rfl, rfl⟩, ?_⟩ | refine ⟨trivial, ?_⟩)) ?_ | refine rgS (id := 29) (i := 6) rfl rfl rfl rfl (⟨by simp, fun d hd => by (obtain rfl := List.mem_singleton.1 hd; rfl), by (show ((c :: u).length + 1) * 24 ≤ 140737488355328; omega), by (show (c :: u).length + 1 ≤ 9223372036854775807; omega)⟩) (by repeat (first | exact trivial | refine ⟨⟨rfl, rfl⟩, ?_⟩ | refine ⟨trivial, ?_⟩)) ?_ | refine yx ?_ | (refine yy ?_ ?_ <;> intro _) | exact zD | exact zL)
     refine go_stop ?_
     refine ⟨⟨i + 1, by omega⟩, by dsimp only; omega, ?_⟩
     dsimp only
     rw [hn1, hn2, hn3]
     exact (zren [0, 1, 2, 6, 7, 8])
    | [], b :: r, _, hl1, hl2, hl3 => simp at hl1 hl2; omega
    | [], [], c :: u, hl1, hl2, hl3 => simp at hl1 hl3; omega
    | a :: q, [], _, hl1, hl2, hl3 => simp at hl1 hl2; omega
    | a :: q, b :: r, [], hl1, hl2, hl3 => simp at hl1 hl3; omega
  ·have g1 : decide ((i : Int) < ((T.map D.str).length : Int)) = false := by rw [hTn]; simp; omega
   rw [List.take_of_length_le hge]
   clear hT hL hS hLe hTe
   refine qA ?_
   match T with
   | [] =>
    refine go_weaken (Le.objW 2 (c' := .cs [.d (.int (g.nodes.map encNd).length), .d (.int (g.edges.map encEd).length), .d (.sl ((lbC g L).map encCT)), .d (.sl []), .d (.sl []), .d (.sl [])]) rfl rfl nz3) ?_
    repeat' (first | refine yz ?_ | refine yx ?_ | (refine yy ?_ ?_ <;> intro _) | exact zD | exact zL)
   | t :: r =>
    dsimp only [tyC, sqC, List.map, fZ, fZO]
    refine go_frz 3 rfl ?_
    refine go_frz 4 rfl ?_
    refine go_frz 5 rfl ?_
    repeat' (first | refine yz ?_ | refine yx ?_ | (refine yy ?_ ?_ <;> intro _) | exact zD | exact zL)
end Go.Proofs.YtenpjlghikohmaaGreatDoor
