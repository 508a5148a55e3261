/- A checked conjunctive query on a graph as the search sees it: its relations keep to what the search asks; The tuples of a conjunctive query, by the program; The statement's test for few candidate tuples; The law AtomsShrinks in plain Lean: the order of the atoms does not matter, an additional atom adds no tuples, and there are few tuples where the statement's test says so. Conditions: each part's own, as it says. -/
import Derived.Test.YtenpjlghikohmaaGreatDoorRB
import Derived.Test.YtenpjlghikohmaaGreatDoorQA
import Derived.Test.YtenpjlghikohmaaGreatDoorLD
import Derived.Test.YtenpjlghikohmaaGreatDoorGC
import Derived.Test.YtenpjlghikohmaaGreatDoorZA
import Derived.Test.YtenpjlghikohmaaGreatDoorGG
set_option linter.unusedVariables false
set_option linter.unusedSimpArgs false
namespace Go.Proofs.YtenpjlghikohmaaGreatDoor
set_option maxRecDepth 4000
open Go Go.Abs Go.Val Go.RowKit Go.Proofs.Tryz
structure ChkQ (c : CJ) : Prop where
 n : c.vs.length ≤ 24
 m : c.aq.length ≤ 12
 sh : ∀ a ∈ c.aq, shapeF a = true ∧ namF28 a = true
 rg : ∀ a ∈ c.aq, ∀ v ∈ a.vs, 0 ≤ v ∧ v < (c.vs.length : Int)
 us : ∀ j : Nat, j < c.vs.length → ∃ a ∈ c.aq, (j : Int) ∈ a.vs
theorem chkQ_of {c : CJ} (h : chkC c = 0) : ChkQ c := by
 unfold chkC at h
 cases c1 : decide (c.vs.length > 24) || decide (c.aq.length > 12) with
 | true => rw [c1] at h; simp at h
 | false =>
 rw [c1, cond_false] at h
 rw [Bool.or_eq_false_iff] at c1
 cases c2 : c.aq.any (badF c.vs.length) with
 | true => rw [c2] at h; simp at h
 | false =>
 rw [c2, cond_false] at h
 cases c3 : twF c.vs with
 | true => rw [c3] at h; simp at h
 | false =>
 rw [c3, cond_false] at h
 cases c4 : c.aq.any (fun a => !namF28 a) with
 | true => rw [c4] at h; simp at h
 | false =>
 rw [c4, cond_false] at h
 cases c5 : (List.range c.vs.length).any (fun j => !usdF c.aq j) with
 | true => rw [c5] at h; simp at h
 | false =>
 refine ⟨by have := of_decide_eq_false c1.1; omega, by have := of_decide_eq_false c1.2; omega, fun a ha => ?_, fun a ha v hv => ?_, fun j hj => ?_⟩
 ·have h2 := List.any_eq_false.1 c2 a ha
  have h4 := List.any_eq_false.1 c4 a ha
  unfold badF at h2
  simp at h2 h4
  exact ⟨h2.1, h4⟩
 ·obtain ⟨k, hk⟩ := List.getElem?_of_mem hv
  exact bad_vs (by simpa using List.any_eq_false.1 c2 a ha) hk
 ·have := List.any_eq_false.1 c5 j (List.mem_range.2 hj)
  simp at this
  unfold usdF at this
  obtain ⟨a, ha, h1⟩ := List.any_eq_true.1 this
  obtain ⟨y, hy, h2⟩ := List.any_eq_true.1 h1
  have : y = (j : Int) := by simpa using h2
  exact ⟨a, ha, this ▸ hy⟩
def idP (g : Gr) (z : Int) : Prop := z = 0 ∨ (∃ e ∈ g.edges, z = e.src ∨ z = e.id ∨ z = e.dst) ∨ ∃ n ∈ g.nodes, z = n.id
theorem valTu_idP {g : Gr} {e : Ed} (he : e ∈ g.edges) (vs : List Int) (v : Int) : idP g (valTu vs (idsE e) v) := by
 unfold valTu idsE
 match fiTu vs v with
 | 0 => exact .inr (.inl ⟨e, he, .inl rfl⟩)
 | 1 => exact .inr (.inl ⟨e, he, .inr (.inl rfl)⟩)
 | 2 => exact .inr (.inl ⟨e, he, .inr (.inr rfl)⟩)
 | n + 3 => exact .inl rfl
theorem eR_mem {g : Gr} {a : AT} : ∀ {l : List Ed} {r : List Int}, (∀ e ∈ l, e ∈ g.edges) → r ∈ eR a l → r.length = (vrsF a.vs).length ∧ ∀ z ∈ r, idP g z
 | [], r, _, h => by simp [eR] at h
 | e :: l, r, hl, h => by
  rw [eR] at h
  rcases List.mem_append.1 h with h | h
  ·cases hc : htF e a.ty && okTu a.vs (idsE e) with
   | false => rw [hc] at h; cases h
   | true =>
    rw [hc, cond_true, List.mem_singleton] at h
    rw [h, tupTu]
    refine ⟨List.length_map _, fun z hz => ?_⟩
    obtain ⟨v, -, rfl⟩ := List.mem_map.1 hz
    exact valTu_idP (hl e (by simp)) a.vs v
  ·exact eR_mem (fun e he => hl e (by simp [he])) h
theorem nR_mem {g : Gr} {a : AT} : ∀ {l : List Nd} {r : List Int}, (∀ e ∈ l, e ∈ g.nodes) → r ∈ nR a l → r.length = 1 ∧ ∀ z ∈ r, idP g z
 | [], r, _, h => by simp [nR] at h
 | n :: l, r, hl, h => by
  rw [nR] at h
  rcases List.mem_append.1 h with h | h
  ·cases hc : holdF n a with
   | false => rw [hc] at h; cases h
   | true =>
    rw [hc, cond_true, List.mem_singleton] at h
    rw [h]
    refine ⟨rfl, fun z hz => ?_⟩
    rw [List.mem_singleton.1 hz]
    exact .inr (.inr ⟨n, hl n (by simp), rfl⟩)
  ·exact nR_mem (fun e he => hl e (by simp [he])) h
theorem vrs_one {vs : List Int} (h : vs.length = 1) : (vrsF vs).length = 1 := by
 obtain ⟨v, rfl⟩ := List.length_eq_one_iff.1 h
 rfl
theorem relF_row {g : Gr} {a : AT} {r : List Int} (h : r ∈ relF g a) : r.length = (vrsF a.vs).length ∧ ∀ z ∈ r, idP g z := by
 unfold relF at h
 cases hok : okR g a with
 | false => rw [hok] at h; cases h
 | true =>
  rw [hok, cond_true, (sorZ_ok _ _ (Nat.le_refl _)).2] at h
  unfold okR at hok
  rw [Bool.and_eq_true, Bool.and_eq_true] at hok
  obtain ⟨s1, s2, -⟩ := shape_arity hok.1.2
  unfold rowsR at h
  cases c3 : a.k == 3 with
  | true =>
   rw [c3, cond_true] at h
   exact eR_mem (fun _ h => h) h
  | false =>
   rw [c3, cond_false] at h
   obtain ⟨h1, h2⟩ := nR_mem (fun _ h => h) h
   exact ⟨by rw [h1, vrs_one (ari_one s1 s2 c3)], h2⟩
theorem relF_len {g : Gr} (hg : chkG g = 0) (a : AT) : (relF g a).length ≤ 4000 ∧ (a.k ≠ 3 → (relF g a).length ≤ g.nodes.length) ∧ (a.k = 3 → (relF g a).length ≤ g.edges.length) := by
 obtain ⟨b1, b2⟩ := chk_len hg
 have key : (a.k ≠ 3 → (relF g a).length ≤ g.nodes.length) ∧ (a.k = 3 → (relF g a).length ≤ g.edges.length) := by
  unfold relF
  cases okR g a with
  | false => simp
  | true =>
   rw [cond_true]
   have h0 := sorZ_len _ (rowsR g a) (Nat.le_refl _)
   unfold rowsR at *
   refine ⟨fun h => ?_, fun h => ?_⟩
   ·have : (a.k == 3) = false := by simpa using h
    rw [this, cond_false] at h0 ⊢
    have := nR_len a g.nodes
    omega
   ·have : (a.k == 3) = true := by simpa using h
    rw [this, cond_true] at h0 ⊢
    have := eR_len a g.edges
    omega
 refine ⟨?_, key⟩
 by_cases h : a.k = 3
 ·have := key.2 h; omega
 ·have := key.1 h; omega
def relQ (g : Gr) (a : AT) : RVq := ⟨vrsF a.vs, relF g a⟩
def relsQ (g : Gr) (c : CJ) : List RVq := c.aq.map (relQ g)
theorem relsQ_ok {g : Gr} {c : CJ} (hg : chkG g = 0) (hc : ChkQ c) (hr : ∀ z, idP g z → Go.Abs.okV (.int .i64 z) = true) : HypQ (relsQ g c) c.vs.length ∧ WfQ (relsQ g c) c.vs.length := by
 have hm : ∀ r ∈ relsQ g c, ∃ a ∈ c.aq, r = relQ g a := fun r hr => by
  obtain ⟨a, ha, e⟩ := List.mem_map.1 hr
  exact ⟨a, ha, e.symm⟩
 have hus : ∀ v : Nat, v < c.vs.length → ∃ r ∈ relsQ g c, r.vs.contains (v : Int) = true := fun v hv => by
  obtain ⟨a, ha, h⟩ := hc.us v hv
  exact ⟨relQ g a, List.mem_map_of_mem ha, by simpa [relQ] using (vrs_mem a.vs v).2 h⟩
 have hlo : ∀ r ∈ relsQ g c, ∀ v ∈ r.vs, 0 ≤ v ∧ v < (c.vs.length : Int) := fun r hr v hv => by
  obtain ⟨a, ha, rfl⟩ := hm r hr
  exact hc.rg a ha v ((vrs_mem a.vs v).1 hv)
 refine ⟨⟨by have := hc.m; unfold relsQ; rw [List.length_map]; omega, by have := hc.n; omega, fun r hr2 => ?_, hus, fun v r hr2 z hz => ?_⟩, ⟨fun r hr2 => ?_, fun r h v hv => (hlo r h v hv).1, fun r h v hv => (hlo r h v hv).2, hus⟩⟩
 ·have h1 := hlo r hr2
  obtain ⟨a, ha, rfl⟩ := hm r hr2
  refine ⟨⟨fun v hv => (h1 v hv).1, fun v hv => (h1 v hv).2, fun row hrow => ?_, ?_⟩, by have := (relF_len hg a).1; show (relF g a).length ≤ 1000000; omega⟩
  ·show (vrsF a.vs).length ≤ row.length
   rw [(relF_row hrow).1]
   exact Nat.le_refl _
  ·obtain ⟨s1, s2, s3⟩ := shape_arity (hc.sh a ha).1
   have := vrs_len a.vs
   have := ari_le a.k
   show (vrsF a.vs).length ≤ 3
   omega
 ·obtain ⟨a, ha, rfl⟩ := hm r hr2
  have hz2 : z ∈ colQ (relQ g a) v := (List.mergeSort_perm _ _).mem_iff.1 hz
  unfold colQ at hz2
  obtain ⟨row, hrow, rfl⟩ := List.mem_map.1 hz2
  refine hr _ ?_
  rw [List.getD_eq_getElem?_getD]
  cases hq : row[idxQ (relQ g a).vs v]? with
  | none => exact .inl rfl
  | some x => exact (relF_row hrow).2 x (List.mem_of_getElem? hq)
 ·obtain ⟨a, ha, rfl⟩ := hm r hr2
  obtain ⟨s1, s2, s3⟩ := shape_arity (hc.sh a ha).1
  intro h
  have h : vrsF a.vs = [] := h
  cases hv : a.vs with
  | nil => rw [hv] at s1; exact s2 s1.symm
  | cons x q =>
   have := (vrs_mem a.vs x).2 (by rw [hv]; simp)
   rw [h] at this
   cases this
theorem relD_eq {g : Gr} {a : AT} (hg : chkG g = 0) (hs : shapeF a = true ∧ namF28 a = true) : encRL (ariR g a) (relF g a) = relD (relQ g a) := by
 unfold ariR relD relQ okR
 rw [hg, hs.1, hs.2]
 rfl
def rowsQ (g : Gr) (c : CJ) : List (List Int) := bif chkG g == 0 && chkC c == 0 then stepQ (relsQ g c) c.vs.length [] else []
theorem fit_idP {g : Gr} (h : Fit (encGr g)) (z : Int) (hz : idP g z) : Go.Abs.okV (.int .i64 z) = true := by
 obtain ⟨f1, f2⟩ := fit_gr h
 have o0 : ∀ x : Int, Fit (.int x) → Go.Abs.okV (.int .i64 x) = true := fun x h => by cases h with | imm _ h => exact h
 rcases hz with rfl | ⟨e, he, hz⟩ | ⟨n, hn, rfl⟩
 ·decide
 ·have hf := (fit_map f2).2 e he
  rcases hz with rfl | rfl | rfl
  ·exact o0 _ (hf.aggs _ (by simp [encEd]))
  ·exact o0 _ (hf.aggs _ (by simp [encEd]))
  ·exact o0 _ (hf.aggs _ (by simp [encEd]))
 ·exact o0 _ (((fit_map f1).2 n hn).aggs _ (by simp [encNd]))
attribute [local irreducible] Ev EvO EvS ExtEv HasBody PGo RGo SGo go
abbrev oGrR (g : Gr) : AObj := .var 38 (.w (.d (encGr g)))
abbrev oCjR (c : CJ) : AObj := .var 28 (.w (.d (encCJ c)))
abbrev sch0 (a b t o : X) : AObj := .var 125 (.cs [a, b, t, o])
abbrev nilD : X := .d (.imm (.slice none 0 0))
def obW (g : Gr) (c : CJ) (z : List D) : List RVq → List AObj
 | [] => [oGrR g, oCjR c, .row 3 1 z, sch0 nilD nilD (.own 2) nilD]
 | r :: q => [oGrR g, oCjR c, .row 3 1 z, sch0 (.own 4) (.own 5) (.own 2) nilD, .row 63 2 (relD r :: q.map relD), .row 46 1 (vrD r :: q.map vrD)]
structure SRwQ (n : Nat) where
 i : Nat
 hi : i ≤ n
theorem rdx_nilI {w : World} {F : Nat → Prop} {σ : Sg} {v : Value} (h : RdX w F σ (.d (.imm (.slice none 0 0))) v) : RdX w F σ .nilS v := (Rd.imm_inv (show Rd w F (.imm (.slice none 0 0)) v from h)).1
theorem objN {C : Cx} {tm : List (Nat × X)} {ob : List AObj} (k : Nat) {a b t : X} (h : ob[k]? = some (sch0 a b t nilD)) : Le C ⟨tm, ob⟩ ⟨tm, ob.set k (sch0 a b t .nilS)⟩ := Le.objW k h rfl fun i x x' hx hx' w F σ v hr => by
 match i with
 | 0 => cases hx; cases hx'; exact hr
 | 1 => cases hx; cases hx'; exact hr
 | 2 => cases hx; cases hx'; exact hr
 | 3 => cases hx; cases hx'; exact rdx_nilI hr
 | n + 4 => cases hx
theorem objN0 {C : Cx} {tm : List (Nat × X)} {ob : List AObj} (k : Nat) {t o : X} (h : ob[k]? = some (sch0 nilD nilD t o)) : Le C ⟨tm, ob⟩ ⟨tm, ob.set k (sch0 (.d (.sl [])) (.d (.sl [])) t o)⟩ := Le.objW k h rfl fun i x x' hx hx' w F σ v hr => by
 match i with
 | 0 => cases hx; cases hx'; exact rd_nil hr
 | 1 => cases hx; cases hx'; exact rd_nil hr
 | 2 => cases hx; cases hx'; exact hr
 | 3 => cases hx; cases hx'; exact hr
 | n + 4 => cases hx
set_option maxHeartbeats 16000000 in
theorem rows_evQ (g : Gr) (c : CJ) (hn : ∀ n ∈ g.nodes, narP n.props) (hb : (rowsQ g c).length ≤ 1000000) : Ev E 19 [encGr g, encCJ c] (.d (.sl (rL (rowsQ g c)))) := Ev.fit fun hfit => by
 have hfg := hfit (encGr g) (by simp)
 have h1 := gcheck_ev g
 have h2 := checkC_ev c
 have hR0 : (chkG g == 0 && chkC c == 0) = false → rowsQ g c = [] := fun h => by unfold rowsQ; rw [h]; rfl
 have hR1 : (chkG g == 0 && chkC c == 0) = true → rowsQ g c = stepQ (relsQ g c) c.vs.length [] := fun h => by unfold rowsQ; rw [h]; rfl
 cases c1 : chkG g != 0 with
 | true =>
  have c1' : (chkG g == 0) = false := by simpa using c1
  rw [hR0 (by rw [c1']; rfl)]
  clear hR0 hR1 hb
  generalize chkG g = z at *
  refine ye2 func19 ntmps19 fun _ _ _=>?_
  repeat' (first | refine yz ?_ | refine yp b41 h1 ?_ | refine yx ?_ | exact zD)
 | false =>
 have c1' : (chkG g == 0) = true := by simpa using c1
 have hg : chkG g = 0 := by simpa using c1
 rw [hg] at h1
 cases c2 : chkC c != 0 with
 | true =>
  have c2' : (chkC c == 0) = false := by simpa using c2
  rw [hR0 (by rw [c1', c2']; rfl)]
  clear hR0 hR1 hb
  generalize chkC c = z at *
  refine ye2 func19 ntmps19 fun _ _ _=>?_
  repeat' (first | refine yz ?_ | refine yp b41 h1 ?_ | refine yp b30 h2 ?_ | exact zD)
 | false =>
 have c2' : (chkC c == 0) = true := by simpa using c2
 have hc0 : chkC c = 0 := by simpa using c2
 rw [hc0] at h2
 have hR := hR1 (by rw [c1', c2']; rfl)
 have hc := chkQ_of hc0
 obtain ⟨hy, -⟩ := relsQ_ok hg hc (fit_idP hfg)
 have hst := step_evS (relsQ g c) c.vs.length hy c.vs.length 0 (List.replicate c.vs.length 0) [] (by simp) (by omega) (by rw [hR] at hb; simpa using hb)
 rw [List.take_zero, ← hR, List.nil_append] at hst
 have hrel : ∀ a ∈ c.aq, Ev E 23 [encGr g, encAT a] (.d (relD (relQ g a))) := fun a ha => by
  have := rel_ev g a hn
  rwa [relD_eq hg (hc.sh a ha)] at this
 have hav : ∀ a ∈ c.aq, Ev E 53 [encAT a] (.d (vrD (relQ g a))) := fun a ha => by
  obtain ⟨s1, s2, s3⟩ := shape_arity (hc.sh a ha).1
  exact avars_ev a (by have := ari_le a.k; omega)
 have hnv := hc.n
 have hnm := hc.m
 have hrls : relsQ g c = c.aq.map (relQ g) := rfl
 generalize rowsQ g c = R at *
 generalize finQ (relsQ g c) c.vs.length 0 (List.replicate c.vs.length 0) = F at *
 clear hR hR0 hR1 hb c1 c1' c2 c2' hc hy hfg hfit hc0
 obtain ⟨vs, ats⟩ := c
 dsimp only at *
 have hvl : (vs.map D.str).length = vs.length := by simp
 have hal : (ats.map encAT).length = ats.length := by simp
 have hzr : iL (List.replicate vs.length 0) = List.replicate (vs.map D.str).length (.int 0) := by rw [hvl]; simp [iL]
 refine ye2 func19 ntmps19 fun _ _ _=>?_
 repeat' (first | refine go_buildPN rfl rfl rfl rfl rfl rfl rfl rfl rfl ?_ | refine yz ?_ | refine yp b41 h1 ?_ | refine yp b30 h2 ?_ | (refine qS rfl ⟨rfl, by (show 8 * (vs.map D.str).length ≤ 281474976710656; omega), by (dsimp only; omega)⟩ ?_) | refine go_storeSt rfl rfl rfl rfl rfl rfl rfl rfl rfl rfl ?_)
 generalize hZ : List.replicate (vs.map D.str).length (D.int 0) = Z at *
 refine go_loop_ (α := SRwQ ats.length) (fun p => ⟨[(2, .ptr 0 0), (5, .ptr 3 0), (22, .d (.sl (ats.map encAT))), (23, .d (.int (ats.map encAT).length)), (24, .d (.int p.i))], obW g ⟨vs, ats⟩ Z ((ats.map (relQ g)).take p.i)⟩) (fun p => ats.length - p.i) ⟨0, by omega⟩ (by
  dsimp only
  rw [← hZ]
  exact (zle 4)) ?_
 rintro ⟨i, hi⟩
 dsimp only
 rcases Nat.lt_or_ge i ats.length with hlt | hge
 ·have g1 : decide ((i : Int) < ((ats.map encAT).length : Int)) = true := by rw [hal]; simpa using hlt
  have hx0 := List.getElem?_eq_getElem hlt
  have hxm : ats[i] ∈ ats := List.getElem_mem hlt
  generalize ats[i] = x at hx0 hxm
  have hx : (ats.map encAT)[((i : Nat) : Int).toNat]? = some (encAT x) := map_at (f := encAT) hx0
  have hr := hrel x hxm
  have ha := hav x hxm
  have hnx : (ats.map (relQ g)).take (i + 1) = (ats.map (relQ g)).take i ++ [relQ g x] := by
   rw [List.take_add_one, List.getElem?_map, hx0]
   rfl
  have htl : ((ats.map (relQ g)).take i).length ≤ 12 := by rw [List.length_take, List.length_map]; omega
  generalize relQ g x = rq at *
  obtain ⟨k, avs, nm, ty, ⟨vk, vn, vd, vS, vl⟩⟩ := x
  generalize (ats.map (relQ g)).take i = l at *
  match l, htl with
  | [], _ =>
   dsimp only [obW]
   repeat' (first | refine yq 7 [6,8] ?_ | refine yf 7 0 6 ?_ | refine yf 7 7 1 ?_ | refine yw ?_ | refine rgN ?_ | refine yq 8 [5,7] ?_ | refine yf 8 0 5 ?_ | refine yf 8 6 1 ?_ | refine yz ?_ | refine yi (encAT ⟨k, avs, nm, ty, .mk vk vn vd vS vl⟩) hx ?_ | refine yp b23 hr ?_ | refine rgS (id := 7) (i := 6) rfl rfl rfl rfl (⟨by simp, fun d hd => by (obtain rfl := List.mem_singleton.1 hd; rfl), by (show (0 + 1) * 32 ≤ 140737488355328; omega), by (show 0 + 1 ≤ 9223372036854775807; omega)⟩) (by repeat (first | exact trivial | refine ⟨⟨rfl, rfl⟩, ?_⟩ | refine ⟨trivial, ?_⟩)) ?_ | refine yp b53 ha ?_ | refine rgS (id := 8) (i := 5) rfl rfl rfl rfl (⟨by simp, fun d hd => by (obtain rfl := List.mem_singleton.1 hd; rfl), by (show (0 + 1) * 24 ≤ 140737488355328; omega), by (show 0 + 1 ≤ 9223372036854775807; omega)⟩) (by repeat (first | exact trivial | refine ⟨⟨rfl, rfl⟩, ?_⟩ | refine ⟨trivial, ?_⟩)) ?_)
   refine go_stop ?_
   refine ⟨⟨i + 1, by omega⟩, by dsimp only; omega, ?_⟩
   dsimp only
   rw [hnx]
   exact (zren [0, 1, 2, 3, 5, 6])
  | r :: q, htl =>
   have hql : q.length ≤ 12 := by simp at htl; omega
   have hm1 : (relD r :: q.map relD : List D).length = q.length + 1 := by simp
   have hm2 : (vrD r :: q.map vrD : List D).length = q.length + 1 := by simp
   dsimp only [obW]
   repeat' (first | refine yq 7 [6,8] ?_ | refine yf 7 0 6 ?_ | refine yf 7 7 1 ?_ | refine yw ?_ | refine rgN ?_ | refine yq 8 [5,7] ?_ | refine yf 8 0 5 ?_ | refine yf 8 6 1 ?_ | refine yz ?_ | refine yi (encAT ⟨k, avs, nm, ty, .mk vk vn vd vS vl⟩) hx ?_ | refine yp b23 hr ?_ | refine rgS (id := 7) (i := 6) rfl rfl rfl rfl (⟨by simp, fun d hd => by (obtain rfl := List.mem_singleton.1 hd; rfl), by (show ((relD r :: q.map relD : List D).length + 1) * 32 ≤ 140737488355328; omega), by (show (relD r :: q.map relD : List D).length + 1 ≤ 9223372036854775807; omega)⟩) (by repeat (first | exact trivial | refine ⟨⟨rfl, rfl⟩, ?_⟩ | refine ⟨trivial, ?_⟩)) ?_ | refine yp b53 ha ?_ | refine rgS (id := 8) (i := 5) rfl rfl rfl rfl (⟨by simp, fun d hd => by (obtain rfl := List.mem_singleton.1 hd; rfl), by (show ((vrD r :: q.map vrD : List D).length + 1) * 24 ≤ 140737488355328; omega), by (show (vrD r :: q.map vrD : List D).length + 1 ≤ 9223372036854775807; omega)⟩) (by repeat (first | exact trivial | refine ⟨⟨rfl, rfl⟩, ?_⟩ | refine ⟨trivial, ?_⟩)) ?_)
   refine go_stop ?_
   refine ⟨⟨i + 1, by omega⟩, by dsimp only; omega, ?_⟩
   dsimp only
   rw [hnx]
   show Le _ _ ⟨_, [_, _, _, _, .row 63 2 (relD r :: (q ++ [rq]).map relD), .row 46 1 (vrD r :: (q ++ [rq]).map vrD)]⟩
   rw [List.map_append, List.map_append]
   exact (zren [0, 1, 2, 3, 7, 8])
 ·have g1 : decide ((i : Int) < ((ats.map encAT).length : Int)) = false := by rw [hal]; simp; omega
  rw [List.take_of_length_le (by rw [List.length_map]; exact hge), ← hrls]
  clear hZ
  subst hzr
  clear hrel hav hrls
  generalize relsQ g ⟨vs, ats⟩ = l at *
  match l with
  | [] =>
   dsimp only [obW]
   refine go_dead ?_
   refine go_weaken (objN 3 rfl) ?_
   refine go_weaken (objN0 3 rfl) ?_
   match R with
   | [] =>
    dsimp only [fX, fO, rL, List.map, srch] at hst ⊢
    repeat' (first | refine yz ?_ | refine yc [3, 2, 4] b54 (hst) ?_ | exact zD)
   | r0 :: rr =>
    rw [show rL (r0 :: rr) = .sl (iL r0) :: rL rr from rfl] at hst ⊢
    dsimp only [fX, fO, srch, List.map] at hst ⊢
    repeat' (first | refine yz ?_ | refine yc [3, 2, 4] b54 (hst) ?_)
    refine go_frz 5 rfl ?_
    repeat' (first | refine qL rfl rfl ?_ | exact zD)
  | r :: q =>
   dsimp only [obW]
   refine go_frz 4 rfl ?_
   refine go_frz 5 rfl ?_
   refine go_weaken (objN 3 rfl) ?_
   match R with
   | [] =>
    dsimp only [fX, fO, rL, List.map, srch] at hst ⊢
    repeat' (first | refine yz ?_ | refine yc [3, 2, 4] b54 (hst) ?_ | exact zD)
   | r0 :: rr =>
    rw [show rL (r0 :: rr) = .sl (iL r0) :: rL rr from rfl] at hst ⊢
    dsimp only [fX, fO, srch, List.map] at hst ⊢
    repeat' (first | refine yz ?_ | refine yc [3, 2, 4] b54 (hst) ?_)
    refine go_frz 6 rfl ?_
    repeat' (first | refine qL rfl rfl ?_ | exact zD)
end Go.Proofs.YtenpjlghikohmaaGreatDoor
namespace Go.Proofs.YtenpjlghikohmaaGreatDoor
set_option maxRecDepth 4000
open Go Go.Abs Go.Val Go.RowKit Go.Proofs.Tryz
section
variable {C : Cx} {s : St} {o : Oper}
end
attribute [local irreducible] go SGo HasBody Ev ExtEv EvO EvS RGo PGo
end Go.Proofs.YtenpjlghikohmaaGreatDoor
namespace Go.Proofs.YtenpjlghikohmaaGreatDoor
set_option maxRecDepth 4000
open Go Go.Abs Go.Val Go.RowKit Go.Proofs.Tryz
def satQ (g : Gr) (a : AT) (t : List Int) : Prop := ∃ row ∈ relF g a, ∀ k, k < (vrsF a.vs).length → row.getD k 0 = t.getD ((vrsF a.vs).getD k 0).toNat 0
theorem solQ_iff (g : Gr) (c : CJ) (t : List Int) : solQ (relsQ g c) c.vs.length t ↔ t.length = c.vs.length ∧ ∀ a ∈ c.aq, satQ g a t := by
 unfold solQ relsQ
 constructor
 ·rintro ⟨h1, h2⟩
  exact ⟨h1, fun a ha => h2 (relQ g a) (List.mem_map_of_mem ha)⟩
 ·rintro ⟨h1, h2⟩
  refine ⟨h1, fun r hr => ?_⟩
  obtain ⟨a, ha, rfl⟩ := List.mem_map.1 hr
  exact h2 a ha
def idR (g : Gr) : Prop := ∀ z, idP g z → Go.Abs.okV (.int .i64 z) = true
theorem rowsQ_eq {g : Gr} {c : CJ} (hg : chkG g = 0) (hc : chkC c = 0) : rowsQ g c = stepQ (relsQ g c) c.vs.length [] := by
 unfold rowsQ
 rw [hg, hc]
 rfl
theorem rowsQ_mem {g : Gr} {c : CJ} (hi : idR g) (hg : chkG g = 0) (hc : chkC c = 0) (t : List Int) : t ∈ rowsQ g c ↔ t.length = c.vs.length ∧ ∀ a ∈ c.aq, satQ g a t := by
 rw [rowsQ_eq hg hc, stepQ_sol (relsQ_ok hg (chkQ_of hc) hi).2, solQ_iff]
theorem rowsQ_ris (g : Gr) (c : CJ) : risZ (rowsQ g c) := by
 unfold rowsQ
 cases chkG g == 0 && chkC c == 0 with
 | true => exact stepQ_ris _ _ _
 | false => exact List.Pairwise.nil
theorem cov_mem {n : Nat} {S : List (List Int)} {V W : List Int} {k : Nat} (h : CovQ n S V k) (hw : ∀ v ∈ W, v ∈ V) : CovQ n S W k := by
 obtain ⟨C, h1, h2⟩ := h.ex
 refine ⟨fun v hv => h.lo v (hw v hv), C, h1, fun t ht => ?_⟩
 obtain ⟨c, hc, ha⟩ := h2 t ht
 exact ⟨c, hc, fun v hv => ha v (hw v hv)⟩
end Go.Proofs.YtenpjlghikohmaaGreatDoor
