/- A checked conjunctive query on a graph as the search sees it: its relations keep to what the search asks; The tuples of a conjunctive query, by the program; The statement's test for few candidate tuples; The law AtomsShrinks in plain Lean: the order of the atoms does not matter, an additional atom adds no tuples, and there are few tuples where the statement's test says so; The law AtomsShrinks, given that the chapter's example holds. Conditions: each part's own, as it says. -/
import Derived.Test.YtenpjlghikohmaaGreatDoorRB
import Derived.Test.YtenpjlghikohmaaGreatDoorQA
import Derived.Test.YtenpjlghikohmaaGreatDoorLD
import Derived.Test.YtenpjlghikohmaaGreatDoorGC
import Derived.Test.YtenpjlghikohmaaGreatDoorZA
import Derived.Test.YtenpjlghikohmaaGreatDoorGG
set_option linter.unusedVariables false
set_option linter.unusedSimpArgs false
namespace Go.Proofs.YtenpjlghikohmaaGreatDoor
set_option maxRecDepth 4000
open Go Go.Abs Go.Val Go.RowKit Go.Proofs.Tryz
structure ChkQ (c : CJ) : Prop where
 n : c.vs.length ≤ 24
 m : c.as.length ≤ 12
 sh : ∀ a ∈ c.as, dp1 a = true ∧ dq4 a = true
 rg : ∀ a ∈ c.as, ∀ v ∈ a.vs, 0 ≤ v ∧ v < (c.vs.length : Int)
 us : ∀ j : Nat, j < c.vs.length → ∃ a ∈ c.as, (j : Int) ∈ a.vs
theorem eu8 {c : CJ} (h : ds5 c = 0) : ChkQ c := by
 unfold ds5 at h
 cases c1 : decide (c.vs.length > 24) || decide (c.as.length > 12) with
 | true => rw [c1] at h; simp at h
 | false =>
 rw [c1, cond_false] at h;rw [fh2] at c1
 cases c2 : c.as.any (ds1 c.vs.length) with
 | true => rw [c2] at h; simp at h
 | false =>
 rw [c2, cond_false] at h
 cases c3 : twF c.vs with
 | true => rw [c3] at h; simp at h
 | false =>
 rw [c3, cond_false] at h
 cases c4 : c.as.any (fun a => !dq4 a) with
 | true => rw [c4] at h; simp at h
 | false =>
 rw [c4, cond_false] at h
 cases c5 : (List.range c.vs.length).any (fun j => !dr0 c.as j) with
 | true => rw [c5] at h; simp at h
 | false =>
 refine ⟨by have := of_decide_eq_false c1.1; omega, by have := of_decide_eq_false c1.2; omega, fun a ha => ?_, fun a ha v hv => ?_, fun j hj => ?_⟩
 ·have h2 := fh3.1 c2 a ha;have h4 := fh3.1 c4 a ha;unfold ds1 at h2;simp at h2 h4;exact ⟨h2.1, h4⟩
 ·obtain ⟨k, hk⟩ := fb0 hv;exact dt6 (by simpa using fh3.1 c2 a ha) hk
 ·have := fh3.1 c5 j (fc6.2 hj);simp at this;unfold dr0 at this;obtain ⟨a, ha, h1⟩ := fj9.1 this;obtain ⟨y, hy, h2⟩ := fj9.1 h1;have : y = (j : Int) := by simpa using h2
  exact ⟨a, ha, this ▸ hy⟩
def idP (g : Gr) (z : Int) : Prop := z = 0 ∨ (∃ e ∈ g.edges, z = e.src ∨ z = e.id ∨ z = e.dst) ∨ ∃ n ∈ g.nodes, z = n.id
theorem eu9 {g : Gr} {e : Ed} (he : e ∈ g.edges) (vs : List Int) (v : Int) : idP g (eh5 vs (el7 e) v) := by
 unfold eh5 el7
 match eh3 vs v with
 | 0 => exact .inr (.inl ⟨e, he, .inl rfl⟩)
 | 1 => exact .inr (.inl ⟨e, he, .inr (.inl rfl)⟩)
 | 2 => exact .inr (.inl ⟨e, he, .inr (.inr rfl)⟩)
 | n + 3 => exact .inl rfl
theorem ev0 {g : Gr} {a : AT} : ∀ {l : List Ed} {r : List Int}, (∀ e ∈ l, e ∈ g.edges) → r ∈ eR a l → r.length = (eb7 a.vs).length ∧ ∀ z ∈ r, idP g z
 | [], r, _, h => by simp [eR] at h
 | e :: l, r, hl, h => by
  rw [eR] at h;rcases fb7.1 h with h | h
  ·cases hc : htF e a.ty && eh6 a.vs (el7 e) with
   | false => rw [hc] at h; cases h
   | true =>
    rw [hc, cond_true, fa0] at h;rw [h, eh7];refine ⟨fb8 _, fun z hz => ?_⟩;obtain ⟨v, -, rfl⟩ := fc4.1 hz;exact eu9 (hl e (by simp)) a.vs v
  ·exact ev0 (fun e he => hl e (by simp [he])) h
theorem ev1 {g : Gr} {a : AT} : ∀ {l : List Nd} {r : List Int}, (∀ e ∈ l, e ∈ g.nodes) → r ∈ nR a l → r.length = 1 ∧ ∀ z ∈ r, idP g z
 | [], r, _, h => by simp [nR] at h
 | n :: l, r, hl, h => by
  rw [nR] at h;rcases fb7.1 h with h | h
  ·cases hc : eh1 n a with
   | false => rw [hc] at h; cases h
   | true =>
    rw [hc, cond_true, fa0] at h;rw [h];refine ⟨rfl, fun z hz => ?_⟩;rw [fa0.1 hz];exact .inr (.inr ⟨n, hl n (by simp), rfl⟩)
  ·exact ev1 (fun e he => hl e (by simp [he])) h
theorem ev2 {vs : List Int} (h : vs.length = 1) : (eb7 vs).length = 1 := by
 obtain ⟨v, rfl⟩ := List.length_eq_one_iff.1 h;rfl
theorem ev3 {g : Gr} {a : AT} {r : List Int} (h : r ∈ el9 g a) : r.length = (eb7 a.vs).length ∧ ∀ z ∈ r, idP g z := by
 unfold el9 at h
 cases hok : okR g a with
 | false => rw [hok] at h; cases h
 | true =>
  rw [hok, cond_true, (dw5 _ _ (fa4 _)).2] at h;unfold okR at hok;rw [fa3, fa3] at hok;obtain ⟨s1, s2, -⟩ := dt2 hok.1.2;unfold el8 at h
  cases c3 : a.k == 3 with
  | true =>
   rw [c3, cond_true] at h;exact ev0 (fun _ h => h) h
  | false =>
   rw [c3, cond_false] at h;obtain ⟨h1, h2⟩ := ev1 (fun _ h => h) h;exact ⟨by rw [h1, ev2 (em3 s1 s2 c3)], h2⟩
theorem ev4 {g : Gr} (hg : dy7 g = 0) (a : AT) : (el9 g a).length ≤ 4000 ∧ (a.k ≠ 3 → (el9 g a).length ≤ g.nodes.length) ∧ (a.k = 3 → (el9 g a).length ≤ g.edges.length) := by
 obtain ⟨b1, b2⟩ := em4 hg
 have key : (a.k ≠ 3 → (el9 g a).length ≤ g.nodes.length) ∧ (a.k = 3 → (el9 g a).length ≤ g.edges.length) := by
  unfold el9
  cases okR g a with
  | false => simp
  | true =>
   rw [cond_true];have h0 := dw9 _ (el8 g a) (fa4 _);unfold el8 at *;refine ⟨fun h => ?_, fun h => ?_⟩
   ·have : (a.k == 3) = false := by simpa using h
    rw [this, cond_false] at h0 ⊢;have := em2 a g.nodes;omega
   ·have : (a.k == 3) = true := by simpa using h
    rw [this, cond_true] at h0 ⊢;have := em1 a g.edges;omega
 refine ⟨?_, key⟩
 by_cases h : a.k = 3
 ·have := key.2 h; omega
 ·have := key.1 h; omega
def ev5 (g : Gr) (a : AT) : RVq := ⟨eb7 a.vs, el9 g a⟩
def ev6 (g : Gr) (c : CJ) : List RVq := c.as.map (ev5 g)
theorem ev7 {g : Gr} {c : CJ} (hg : dy7 g = 0) (hc : ChkQ c) (hr : ∀ z, idP g z → Go.Abs.okV (.int .i64 z) = true) : HypQ (ev6 g c) c.vs.length ∧ WfQ (ev6 g c) c.vs.length := by
 have hm : ∀ r ∈ ev6 g c, ∃ a ∈ c.as, r = ev5 g a := fun r hr => by
  obtain ⟨a, ha, e⟩ := fc4.1 hr;exact ⟨a, ha, e.symm⟩
 have hus : ∀ v : Nat, v < c.vs.length → ∃ r ∈ ev6 g c, r.vs.contains (v : Int) = true := fun v hv => by
  obtain ⟨a, ha, h⟩ := hc.us v hv;exact ⟨ev5 g a, fh0 ha, by simpa [ev5] using (ec3 a.vs v).2 h⟩
 have hlo : ∀ r ∈ ev6 g c, ∀ v ∈ r.vs, 0 ≤ v ∧ v < (c.vs.length : Int) := fun r hr v hv => by
  obtain ⟨a, ha, rfl⟩ := hm r hr;exact hc.rg a ha v ((ec3 a.vs v).1 hv)
 refine ⟨⟨by have := hc.m; unfold ev6; rw [fb8]; omega, by have := hc.n; omega, fun r hr2 => ?_, hus, fun v r hr2 z hz => ?_⟩, ⟨fun r hr2 => ?_, fun r h v hv => (hlo r h v hv).1, fun r h v hv => (hlo r h v hv).2, hus⟩⟩
 ·have h1 := hlo r hr2;obtain ⟨a, ha, rfl⟩ := hm r hr2;refine ⟨⟨fun v hv => (h1 v hv).1, fun v hv => (h1 v hv).2, fun row hrow => ?_, ?_⟩, by have := (ev4 hg a).1; show (el9 g a).length ≤ 1000000; omega⟩
  ·show (eb7 a.vs).length ≤ row.length;rw [(ev3 hrow).1];exact fa4 _
  ·obtain ⟨s1, s2, s3⟩ := dt2 (hc.sh a ha).1;have := ed7 a.vs;have := dt3 a.k;show (eb7 a.vs).length ≤ 3;omega
 ·obtain ⟨a, ha, rfl⟩ := hm r hr2;have hz2 : z ∈ es6 (ev5 g a) v := (fk4 _ _).mem_iff.1 hz;unfold es6 at hz2;obtain ⟨row, hrow, rfl⟩ := fc4.1 hz2;refine hr _ ?_;rw [fb9]
  cases hq : row[ee7 (ev5 g a).vs v]? with
  | none => exact .inl rfl
  | some x => exact (ev3 hrow).2 x (ez9 hq)
 ·obtain ⟨a, ha, rfl⟩ := hm r hr2;obtain ⟨s1, s2, s3⟩ := dt2 (hc.sh a ha).1;intro h;have h : eb7 a.vs = [] := h
  cases hv : a.vs with
  | nil => rw [hv] at s1; exact s2 s1.symm
  | cons x q =>
   have := (ec3 a.vs x).2 (by rw [hv]; simp);rw [h] at this
   cases this
theorem ev8 {g : Gr} {a : AT} (hg : dy7 g = 0) (hs : dp1 a = true ∧ dq4 a = true) : ej2 (em0 g a) (el9 g a) = er5 (ev5 g a) := by
 unfold em0 er5 ev5 okR;rw [hg, hs.1, hs.2];rfl
def ev9 (g : Gr) (c : CJ) : List (List Int) := bif dy7 g == 0 && ds5 c == 0 then ee9 (ev6 g c) c.vs.length [] else []
theorem ew0 {g : Gr} (h : Fit (cy2 g)) (z : Int) (hz : idP g z) : Go.Abs.okV (.int .i64 z) = true := by
 obtain ⟨f1, f2⟩ := cy5 h;have o0 : ∀ x : Int, Fit (.int x) → Go.Abs.okV (.int .i64 x) = true := fun x h => by cases h with | imm _ h => exact h
 rcases hz with rfl | ⟨e, he, hz⟩ | ⟨n, hn, rfl⟩
 ·decide
 ·have hf := (cy4 f2).2 e he;rcases hz with rfl | rfl | rfl
  ·exact o0 _ (hf.aggs _ (by simp [cy1]))
  ·exact o0 _ (hf.aggs _ (by simp [cy1]))
  ·exact o0 _ (hf.aggs _ (by simp [cy1]))
 ·exact o0 _ (((cy4 f1).2 n hn).aggs _ (by simp [cy0]))
attribute [local irreducible] Ev EvO EvS aw2 an2 PGo RGo SGo go
abbrev ew1 (g : Gr) : aa5 := .var 38 (.w (.d (cy2 g)))
abbrev ew2 (c : CJ) : aa5 := .var 28 (.w (.d (di8 c)))
abbrev ew3 (a b t o : X) : aa5 := .var 125 (.cs [a, b, t, o])
abbrev ew4 : X := .d (.imm (.slice none 0 0))
def obW (g : Gr) (c : CJ) (z : List D) : List RVq → List aa5
 | [] => [ew1 g, ew2 c, .row 3 1 z, ew3 ew4 ew4 (.own 2) ew4]
 | r :: q => [ew1 g, ew2 c, .row 3 1 z, ew3 (.own 4) (.own 5) (.own 2) ew4, .row 63 2 (er5 r :: q.map er5), .row 46 1 (vrD r :: q.map vrD)]
structure SRwQ (n : Nat) where
 i : Nat
 hi : i ≤ n
theorem ew5 {w : World} {F : Nat → Prop} {σ : Sg} {v : Value} (h : RdX w F σ (.d (.imm (.slice none 0 0))) v) : RdX w F σ .nilS v := (Rd.imm_inv (show Rd w F (.imm (.slice none 0 0)) v from h)).1
theorem objN {C : Cx} {tm : List (Nat × X)} {ob : List aa5} (k : Nat) {a b t : X} (h : ob[k]? = some (ew3 a b t ew4)) : Le C ⟨tm, ob⟩ ⟨tm, ob.set k (ew3 a b t .nilS)⟩ := Le.objW k h rfl fun i x x' hx hx' w F σ v hr => by
 match i with
 | 0 => cases hx; cases hx'; exact hr
 | 1 => cases hx; cases hx'; exact hr
 | 2 => cases hx; cases hx'; exact hr
 | 3 => cases hx; cases hx'; exact ew5 hr
 | n + 4 => cases hx
theorem objN0 {C : Cx} {tm : List (Nat × X)} {ob : List aa5} (k : Nat) {t o : X} (h : ob[k]? = some (ew3 ew4 ew4 t o)) : Le C ⟨tm, ob⟩ ⟨tm, ob.set k (ew3 (.d (.sl [])) (.d (.sl [])) t o)⟩ := Le.objW k h rfl fun i x x' hx hx' w F σ v hr => by
 match i with
 | 0 => cases hx; cases hx'; exact bn1 hr
 | 1 => cases hx; cases hx'; exact bn1 hr
 | 2 => cases hx; cases hx'; exact hr
 | 3 => cases hx; cases hx'; exact hr
 | n + 4 => cases hx
set_option maxHeartbeats 16000000 in
theorem ew6 (g : Gr) (c : CJ) (hn : ∀ n ∈ g.nodes, da0 n.props) (hb : (ev9 g c).length ≤ 1000000) : Ev E 19 [cy2 g, di8 c] (.d (.sl (rL (ev9 g c)))) := Ev.fit fun hfit => by
 have hfg := hfit (cy2 g) (by simp);have h1 := dz2 g;have h2 := dt7 c;have hR0 : (dy7 g == 0 && ds5 c == 0) = false → ev9 g c = [] := fun h => by unfold ev9; rw [h]; rfl
 have hR1 : (dy7 g == 0 && ds5 c == 0) = true → ev9 g c = ee9 (ev6 g c) c.vs.length [] := fun h => by unfold ev9; rw [h]; rfl
 cases c1 : dy7 g != 0 with
 | true =>
  have c1' : (dy7 g == 0) = false := by simpa using c1
  rw [hR0 (by rw [c1']; rfl)];clear hR0 hR1 hb;generalize dy7 g = z at *;refine ye2 func19 ntmps19 fun _ _ _=>?_
  repeat' (first | refine yz ?_ | refine yp b41 h1 ?_ | refine yx ?_ | exact zD)
 | false =>
 have c1' : (dy7 g == 0) = true := by simpa using c1
 have hg : dy7 g = 0 := by simpa using c1
 rw [hg] at h1
 cases c2 : ds5 c != 0 with
 | true =>
  have c2' : (ds5 c == 0) = false := by simpa using c2
  rw [hR0 (by rw [c1', c2']; rfl)];clear hR0 hR1 hb;generalize ds5 c = z at *;refine ye2 func19 ntmps19 fun _ _ _=>?_
  repeat' (first | refine yz ?_ | refine yp b41 h1 ?_ | refine yp b30 h2 ?_ | exact zD)
 | false =>
 have c2' : (ds5 c == 0) = true := by simpa using c2
 have hc0 : ds5 c = 0 := by simpa using c2
 rw [hc0] at h2;have hR := hR1 (by rw [c1', c2']; rfl);have hc := eu8 hc0;obtain ⟨hy, -⟩ := ev7 hg hc (ew0 hfg);have hst := eu7 (ev6 g c) c.vs.length hy c.vs.length 0 (List.replicate c.vs.length 0) [] (by simp) (by omega) (by rw [hR] at hb; simpa using hb);rw [List.take_zero, ← hR, fd9] at hst
 have hrel : ∀ a ∈ c.as, Ev E 23 [cy2 g, di7 a] (.d (er5 (ev5 g a))) := fun a ha => by
  have := en0 g a hn;rwa [ev8 hg (hc.sh a ha)] at this
 have hav : ∀ a ∈ c.as, Ev E 53 [di7 a] (.d (vrD (ev5 g a))) := fun a ha => by
  obtain ⟨s1, s2, s3⟩ := dt2 (hc.sh a ha).1;exact ed2 a (by have := dt3 a.k; omega)
 have hnv := hc.n;have hnm := hc.m;have hrls : ev6 g c = c.as.map (ev5 g) := rfl;generalize ev9 g c = R at *;generalize et7 (ev6 g c) c.vs.length 0 (List.replicate c.vs.length 0) = F at *;clear hR hR0 hR1 hb c1 c1' c2 c2' hc hy hfg hfit hc0;obtain ⟨vs, ats⟩ := c;dsimp only at *;have hvl : (vs.map D.str).length = vs.length := by simp
 have hal : (ats.map di7).length = ats.length := by simp
 have hzr : iL (List.replicate vs.length 0) = List.replicate (vs.map D.str).length (.int 0) := by rw [hvl]; simp [iL]
 refine ye2 func19 ntmps19 fun _ _ _=>?_
 repeat' (first | refine bq7 rfl rfl rfl rfl rfl rfl rfl rfl rfl ?_ | refine yz ?_ | refine yp b41 h1 ?_ | refine yp b30 h2 ?_ | (refine qS rfl ⟨rfl, by (show 8 * (vs.map D.str).length ≤ 281474976710656; omega), by (dsimp only; omega)⟩ ?_) | refine bq8 rfl rfl rfl rfl rfl rfl rfl rfl rfl rfl ?_)
 generalize hZ : List.replicate (vs.map D.str).length (D.int 0) = Z at *
 refine ac7 (α := SRwQ ats.length) (fun p => ⟨[(2, .ptr 0 0), (5, .ptr 3 0), (22, .d (.sl (ats.map di7))), (23, .d (.int (ats.map di7).length)), (24, .d (.int p.i))], obW g ⟨vs, ats⟩ Z ((ats.map (ev5 g)).take p.i)⟩) (fun p => ats.length - p.i) ⟨0, by omega⟩ (by
  dsimp only;rw [← hZ];exact (zle 4)) ?_
 rintro ⟨i, hi⟩;dsimp only;rcases ez6 i ats.length with hlt | hge
 ·have g1 : decide ((i : Int) < ((ats.map di7).length : Int)) = true := by rw [hal]; simpa using hlt
  have hx0 := ez5 hlt;have hxm : ats[i] ∈ ats := fc9 hlt;generalize ats[i] = x at hx0 hxm;have hx : (ats.map di7)[((i : Nat) : Int).toNat]? = some (di7 x) := cy3 (f := di7) hx0;have hr := hrel x hxm;have ha := hav x hxm
  have hnx : (ats.map (ev5 g)).take (i + 1) = (ats.map (ev5 g)).take i ++ [ev5 g x] := by
   rw [fg0, ez8, hx0];rfl
  have htl : ((ats.map (ev5 g)).take i).length ≤ 12 := by rw [fb6, fb8]; omega
  generalize ev5 g x = rq at *;obtain ⟨k, avs, nm, ty, ⟨vk, vn, vd, vS, vl⟩⟩ := x;generalize (ats.map (ev5 g)).take i = l at *
  match l, htl with
  | [], _ =>
   dsimp only [obW]
   repeat' (first | refine yq 7 [6,8] ?_ | refine yf 7 0 6 ?_ | refine yf 7 7 1 ?_ | refine yw ?_ | refine rgN ?_ | refine yq 8 [5,7] ?_ | refine yf 8 0 5 ?_ | refine yf 8 6 1 ?_ | refine yz ?_ | refine yi (di7 ⟨k, avs, nm, ty, .mk vk vn vd vS vl⟩) hx ?_ | refine yp b23 hr ?_ | refine rgS (id := 7) (i := 6) rfl rfl rfl rfl (⟨by simp, fun d hd => by (obtain rfl := fa0.1 hd; rfl), by (show (0 + 1) * 32 ≤ 140737488355328; omega), by (show 0 + 1 ≤ 9223372036854775807; omega)⟩) (by repeat (first | exact trivial | refine ⟨⟨rfl, rfl⟩, ?_⟩ | refine ⟨trivial, ?_⟩)) ?_ | refine yp b53 ha ?_ | refine rgS (id := 8) (i := 5) rfl rfl rfl rfl (⟨by simp, fun d hd => by (obtain rfl := fa0.1 hd; rfl), by (show (0 + 1) * 24 ≤ 140737488355328; omega), by (show 0 + 1 ≤ 9223372036854775807; omega)⟩) (by repeat (first | exact trivial | refine ⟨⟨rfl, rfl⟩, ?_⟩ | refine ⟨trivial, ?_⟩)) ?_)
   refine ac1 ?_;refine ⟨⟨i + 1, by omega⟩, by dsimp only; omega, ?_⟩;dsimp only;rw [hnx];exact (bi5 [0, 1, 2, 3, 5, 6])
  | r :: q, htl =>
   have hql : q.length ≤ 12 := by simp at htl; omega
   have hm1 : (er5 r :: q.map er5 : List D).length = q.length + 1 := by simp
   have hm2 : (vrD r :: q.map vrD : List D).length = q.length + 1 := by simp
   dsimp only [obW]
   repeat' (first | refine yq 7 [6,8] ?_ | refine yf 7 0 6 ?_ | refine yf 7 7 1 ?_ | refine yw ?_ | refine rgN ?_ | refine yq 8 [5,7] ?_ | refine yf 8 0 5 ?_ | refine yf 8 6 1 ?_ | refine yz ?_ | refine yi (di7 ⟨k, avs, nm, ty, .mk vk vn vd vS vl⟩) hx ?_ | refine yp b23 hr ?_ | refine rgS (id := 7) (i := 6) rfl rfl rfl rfl (⟨by simp, fun d hd => by (obtain rfl := fa0.1 hd; rfl), by (show ((er5 r :: q.map er5 : List D).length + 1) * 32 ≤ 140737488355328; omega), by (show (er5 r :: q.map er5 : List D).length + 1 ≤ 9223372036854775807; omega)⟩) (by repeat (first | exact trivial | refine ⟨⟨rfl, rfl⟩, ?_⟩ | refine ⟨trivial, ?_⟩)) ?_ | refine yp b53 ha ?_ | refine rgS (id := 8) (i := 5) rfl rfl rfl rfl (⟨by simp, fun d hd => by (obtain rfl := fa0.1 hd; rfl), by (show ((vrD r :: q.map vrD : List D).length + 1) * 24 ≤ 140737488355328; omega), by (show (vrD r :: q.map vrD : List D).length + 1 ≤ 9223372036854775807; omega)⟩) (by repeat (first | exact trivial | refine ⟨⟨rfl, rfl⟩, ?_⟩ | refine ⟨trivial, ?_⟩)) ?_)
   refine ac1 ?_;refine ⟨⟨i + 1, by omega⟩, by dsimp only; omega, ?_⟩;dsimp only;rw [hnx];show Le _ _ ⟨_, [_, _, _, _, .row 63 2 (er5 r :: (q ++ [rq]).map er5), .row 46 1 (vrD r :: (q ++ [rq]).map vrD)]⟩;rw [List.map_append, List.map_append];exact (bi5 [0, 1, 2, 3, 7, 8])
 ·have g1 : decide ((i : Int) < ((ats.map di7).length : Int)) = false := by rw [hal]; simp; omega
  rw [fe9 (by rw [fb8]; exact hge), ← hrls];clear hZ;subst hzr;clear hrel hav hrls;generalize ev6 g ⟨vs, ats⟩ = l at *
  match l with
  | [] =>
   dsimp only [obW];refine bn4 ?_;refine ac6 (objN 3 rfl) ?_;refine ac6 (objN0 3 rfl) ?_
   match R with
   | [] =>
    dsimp only [fX, fO, rL, List.map, er6] at hst ⊢
    repeat' (first | refine yz ?_ | refine yc [3, 2, 4] b54 (hst) ?_ | exact zD)
   | r0 :: rr =>
    rw [show rL (r0 :: rr) = .sl (iL r0) :: rL rr from rfl] at hst ⊢;dsimp only [fX, fO, er6, List.map] at hst ⊢
    repeat' (first | refine yz ?_ | refine yc [3, 2, 4] b54 (hst) ?_)
    refine au8 5 rfl ?_
    repeat' (first | refine qL rfl rfl ?_ | exact zD)
  | r :: q =>
   dsimp only [obW];refine au8 4 rfl ?_;refine au8 5 rfl ?_;refine ac6 (objN 3 rfl) ?_
   match R with
   | [] =>
    dsimp only [fX, fO, rL, List.map, er6] at hst ⊢
    repeat' (first | refine yz ?_ | refine yc [3, 2, 4] b54 (hst) ?_ | exact zD)
   | r0 :: rr =>
    rw [show rL (r0 :: rr) = .sl (iL r0) :: rL rr from rfl] at hst ⊢;dsimp only [fX, fO, er6, List.map] at hst ⊢
    repeat' (first | refine yz ?_ | refine yc [3, 2, 4] b54 (hst) ?_)
    refine au8 6 rfl ?_
    repeat' (first | refine qL rfl rfl ?_ | exact zD)
end Go.Proofs.YtenpjlghikohmaaGreatDoor
namespace Go.Proofs.YtenpjlghikohmaaGreatDoor
set_option maxRecDepth 4000
open Go Go.Abs Go.Val Go.RowKit Go.Proofs.Tryz
section
variable {C : Cx} {s : St} {o : Oper}
theorem ew7 {x y z : Operand} {tys : Array TypeId} {a b c : Int} (ho : o.op = .call { callee := .builtin .max, args := #[x, y, z], argTypes := tys }) (hx : s.ev C.E x = .d (.imm (.int .i64 a))) (hy : s.ev C.E y = .d (.imm (.int .i64 b))) (hz : s.ev C.E z = .d (.imm (.int .i64 c))) (hp : inR .i64 (max (max a b) c)) :
  VOp C s o (.d (.imm (.int .i64 (max (max a b) c)))) := by
 refine VOp.pure_ fun F σ w A hi hr => ?_
 have rx := hr x (by simp [ho, Op.operands, Call.operands]);have ry := hr y (by simp [ho, Op.operands, Call.operands]);have rz := hr z (by simp [ho, Op.operands, Call.operands]);rw [hx] at rx;rw [hy] at ry;rw [hz] at rz;obtain ⟨e1, -⟩ := Rd.imm_inv rx;obtain ⟨e2, -⟩ := Rd.imm_inv ry;obtain ⟨e3, -⟩ := Rd.imm_inv rz;refine ⟨.int .i64 (max (max a b) c), ?_, Rd.imm _ (af2 hp)⟩;have f1 : (if a < b then b else a) = max a b := by omega
 have f2 : (if max a b < c then c else max a b) = max (max a b) c := by omega
 simp [execOp, ho, resolve, invoke, builtin, e1, e2, e3, Builtin.max_, Builtin.max2, f1, f2]
end
theorem ew8 {C : Cx} {all : Array Oper} {pu : Bool} {K : St → Prop} {rest : List Oper} {o : Oper} {tm : List (Nat × X)} {ob : List aa5} {d : Nat} {x y z : Operand} {tys : Array TypeId} {a b c : Int} (ho : o.op = .call { callee := .builtin .max, args := #[x, y, z], argTypes := tys }) (hg : ap1 all tm o = some true)
  (hdst : o.dst = some d) (hd : Nat.blt d C.N = true) (hx : (⟨tm, ob⟩ : St).ev C.E x = .d (.imm (.int .i64 a))) (hy : (⟨tm, ob⟩ : St).ev C.E y = .d (.imm (.int .i64 b))) (hz : (⟨tm, ob⟩ : St).ev C.E z = .d (.imm (.int .i64 c))) (hp : inR .i64 (max (max a b) c))
  (h : SGo C all pu rest ⟨(d, .d (.imm (.int .i64 (max (max a b) c)))) :: tm, ob⟩ K) : SGo C all pu (o :: rest) ⟨tm, ob⟩ K := by
 refine SGo.vop (ap2 hg) (by simp only [ac8, hdst]; exact hd) (ew7 ho hx hy hz hp) ?_;rw [hdst];exact h
attribute [local irreducible] go SGo an2 Ev aw2 EvO EvS RGo PGo
def mxC (g : Gr) : Int := max (max 1 ((g.nodes.map cy0).length : Int)) ((g.edges.map cy1).length : Int)
def neC (g : Gr) : Int := ((g.edges.map cy1).length : Int) + 1
def ew9 (seen : List Int) (mx : Int) : List Int → Int → Int
 | [], n => n
 | v :: r, n => ew9 seen mx r (bif seen.contains v then n else n * mx)
def ex0 (g : Gr) (seen : List Int) (a : AT) (n : Int) : Int := bif (a.vs.length : Int) == 3 then n * neC g else ew9 seen (mxC g) a.vs n
def ex1 (g : Gr) : List AT → List Int → Int → Bool
 | [], _, _ => true
 | a :: r, seen, n => bif decide (ex0 g seen a n > 20000) then false else ex1 g r (seen ++ a.vs) (ex0 g seen a n)
def ex2 (g : Gr) (c : CJ) : Bool := smG g 10 14 && ee1 c && (ex1 g c.as [] 1 && decide ((c.as.length : Int) ≤ 6))
structure SChQ (g : Gr) (c : CJ) (R : Bool) where
 i : Nat
 n : Int
 seen : List Int
 xs : List (Value × D)
 hi : i ≤ c.as.length
 hn : 0 ≤ n ∧ n ≤ 20000
 hx : ∀ v, bl0 (.int .i64 v) xs (.bool false) = .bool (seen.contains v)
 ok : R = (ex1 g (c.as.drop i) seen n && decide ((c.as.length : Int) ≤ 6))
structure SMuQ (seen : List Int) (mx : Int) (vs : List Int) (R : Int) where
 j : Nat
 n : Int
 hj : j ≤ vs.length
 hn : 0 ≤ n ∧ n ≤ 20000 * 14 ^ j
 ok : R = ew9 seen mx (vs.drop j) n
structure SMaQ (seen : List Int) (vs : List Int) where
 k : Nat
 xs : List (Value × D)
 hk : k ≤ vs.length
 hx : ∀ v, bl0 (.int .i64 v) xs (.bool false) = .bool ((seen ++ vs.take k).contains v)
theorem ex3 {j : Nat} (h : j ≤ 8) : (14 : Int) ^ j ≤ 14 ^ 8 := by
 rcases (show j = 0 ∨ j = 1 ∨ j = 2 ∨ j = 3 ∨ j = 4 ∨ j = 5 ∨ j = 6 ∨ j = 7 ∨ j = 8 by omega) with rfl | rfl | rfl | rfl | rfl | rfl | rfl | rfl | rfl <;> decide
theorem ex4 {n mx B : Int} (h0 : 0 ≤ n) (h1 : n ≤ B) (m0 : 0 ≤ mx) (m1 : mx ≤ 14) : 0 ≤ n * mx ∧ n * mx ≤ B * 14 :=
 ⟨fj4 h0 m0, Int.le_trans (fm2 m1 h0) (fm3 h1 (by decide))⟩
set_option maxHeartbeats 8000000 in
theorem ex5 (g : Gr) (c : CJ) : Ev E 25 [cy2 g, di8 c] (.d (.bool (ex2 g c))) := by
 have h1 := db9 g 10 14;have h2 := ee2 c;obtain ⟨R, hR⟩ : ∃ R, ex2 g c = R := ⟨_, rfl⟩;rw [hR];unfold ex2 at hR
 cases c1 : smG g 10 14 with
 | false =>
  rw [c1] at h1 hR;subst hR;refine ye2 func25 ntmps25 fun _ _ _=>?_
  repeat' (first | refine yz ?_ | refine yp b20 h1 ?_ | exact zD)
 | true =>
 rw [c1] at h1 hR
 cases c2 : ee1 c with
 | false =>
  rw [c2] at h2 hR;subst hR;refine ye2 func25 ntmps25 fun _ _ _=>?_
  repeat' (first | refine yz ?_ | refine yp b20 h1 ?_ | refine yp b74 h2 ?_ | exact zD)
 | true =>
 rw [c2] at h2 hR;rw [fc3, fc3] at hR
 have hsm : ∀ x ∈ c.as, x.vs.length ≤ 8 := by
  unfold ee1 at c2;simp only [fa3, Bool.not_eq_true', decide_eq_false_iff_not, fb2] at c2;intro x hx;have := c2.2 x hx;unfold ed9 at this;simp only [fa3, decide_eq_true_eq] at this;omega
 have hcl : c.as.length ≤ 14 := by
  unfold ee1 at c2;simp only [fa3, Bool.not_eq_true', decide_eq_false_iff_not, fb2] at c2;omega
 have hgn : g.nodes.length ≤ 10 ∧ g.edges.length ≤ 14 := by
  unfold smG at c1;simp only [fa3, Bool.not_eq_true', fh2, decide_eq_false_iff_not] at c1;omega
 clear c1 c2;have hnl : (g.nodes.map cy0).length = g.nodes.length := by simp
 have hel : (g.edges.map cy1).length = g.edges.length := by simp
 have m0 : 0 ≤ mxC g := by unfold mxC; omega
 have m1 : mxC g ≤ 14 := by unfold mxC; omega
 have hal : (c.as.map di7).length = c.as.length := by simp
 obtain ⟨vs, ats⟩ := c;dsimp only at *;refine ye2 func25 ntmps25 fun _ _ _=>?_
 repeat' (first | refine yz ?_ | refine yp b20 h1 ?_ | refine yp b74 h2 ?_ | refine bl8 rfl rfl rfl rfl rfl rfl ?_)
 refine ac7 (α := SChQ g ⟨vs, ats⟩ R) (fun p => ⟨[(2, .ptr 0 0), (3, .ptr 1 0), (5, .d (.int p.n)), (6, .mp 2), (23, .d (.sl (ats.map di7))), (24, .d (.int (ats.map di7).length)), (25, .d (.int p.i))], [ew1 g, ew2 ⟨vs, ats⟩, .map kdI p.xs]⟩) (fun p => ats.length - p.i) ⟨0, 1, [], [], by omega, by omega, fun v => rfl, hR.symm⟩ (zle 3) ?_;rintro ⟨i, n, seen, xs, hi, hn, hx, ok⟩;dsimp only at hi hn hx ok ⊢;rcases ez6 i ats.length with hlt | hge
 ·have g1 : decide ((i : Int) < ((ats.map di7).length : Int)) = true := by rw [hal]; simpa using hlt
  have hx0 := ez5 hlt;have hx8 := hsm ats[i] (fc9 hlt);generalize ats[i] = x at hx0 hx8;have hxx : (ats.map di7)[((i : Nat) : Int).toNat]? = some (di7 x) := cy3 (f := di7) hx0;rw [bz2 hx0, ex1] at ok;obtain ⟨k, avs, nm, ty, ⟨vk, vn, vd, vS, vl⟩⟩ := x;dsimp only at hx8 ok;have hvl := di9 avs
  cases c3 : (avs.length : Int) == 3 with
  | true =>
   have c3' : (((iL avs).length : Int) == 3) = true := by rw [hvl]; exact c3
   have hf : ex0 g seen ⟨k, avs, nm, ty, .mk vk vn vd vS vl⟩ n = n * neC g := by unfold ex0; rw [c3]; rfl
   have w0 := ex4 (n := n) (mx := neC g - 1) (B := 20000) hn.1 hn.2 (by unfold neC; omega) (by unfold neC; omega)
   have w1 : 0 ≤ n * neC g ∧ n * neC g ≤ 300000 := by
    have : n * neC g = n * (neC g - 1) + n := by rw [Int.mul_sub, Int.mul_one]; omega
    omega
   have w2 : inR .i64 (n * (((g.edges.map cy1).length : Int) + 1)) := by
    show inR .i64 (n * neC g);simp only [inR]; omega
   rw [hf] at ok
   repeat' (first | refine yz ?_ | refine yi (di7 ⟨k, avs, nm, ty, .mk vk vn vd vS vl⟩) hxx ?_)
   rw [show n * (((g.edges.map cy1).length : Int) + 1) = n * neC g from rfl];generalize n * neC g = m at *;refine ac7 (α := SMaQ seen avs) (fun q => ⟨[(2, .ptr 0 0), (3, .ptr 1 0), (5, .d (.int m)), (6, .mp 2), (23, .d (.sl (ats.map di7))), (24, .d (.int (ats.map di7).length)), (25, .d (.int i)), (61, .d (.sl (iL avs))), (62, .d (.int (iL avs).length)), (63, .d (.int q.k))], [ew1 g, ew2 ⟨vs, ats⟩, .map kdI q.xs, em5 ⟨k, avs, nm, ty, .mk vk vn vd vS vl⟩]⟩) (fun q => avs.length - q.k) ⟨0, xs, by omega, by simpa using hx⟩ (zle 4) ?_;rintro ⟨q, ys, hq, hy⟩;dsimp only at hq hy ⊢;rcases ez6 q avs.length with hlq | hgq
   ·have g3 : decide ((q : Int) < ((iL avs).length : Int)) = true := by rw [hvl]; simpa using hlq
    have hv0 := ez5 hlq;generalize avs[q] = v at hv0;have hv := dj0 hv0
    have hnx : ∀ u, bl0 (.int .i64 u) (bl1 (.int .i64 v) (.bool true) ys) (.bool false) = .bool ((seen ++ avs.take (q + 1)).contains u) := fun u => by
     rw [bn9, fg0, hv0, hy, ← fc1]
     cases hc : u == v with
     | true =>
      obtain rfl := eq_of_beq hc;simp
     | false =>
      rw [cond_false];have : ¬ u = v := by simpa using hc
      simp [this]
    repeat' (first | refine yz ?_ | refine yi (.int v) hv ?_ | refine bo2 ?_)
    refine ac1 ?_;exact ⟨⟨q + 1, _, by omega, hnx⟩, by dsimp only; omega, (zle 4)⟩
   ·have g3 : decide ((q : Int) < ((iL avs).length : Int)) = false := by rw [hvl]; simp; omega
    rw [fe9 hgq] at hy
    cases c5 : decide (m > 20000) with
    | true =>
     rw [c5, cond_true, fe1] at ok;rw [ok]
     repeat' (first | refine yz ?_ | exact zD)
    | false =>
     rw [c5, cond_false] at ok
     repeat' (refine yz ?_)
     refine ac1 ?_;exact ⟨⟨i + 1, m, seen ++ avs, ys, (show i + 1 ≤ ats.length from hlt), ⟨w1.1, by have := of_decide_eq_false c5; omega⟩, hy, ok⟩, by dsimp only; omega, (zle 3)⟩
  | false =>
   have c3' : (((iL avs).length : Int) == 3) = false := by rw [hvl]; exact c3
   have hf : ex0 g seen ⟨k, avs, nm, ty, .mk vk vn vd vS vl⟩ n = ew9 seen (mxC g) avs n := by unfold ex0; rw [c3]; rfl
   rw [hf] at ok;generalize hM : ew9 seen (mxC g) avs n = M at *
   repeat' (first | refine yz ?_ | refine yi (di7 ⟨k, avs, nm, ty, .mk vk vn vd vS vl⟩) hxx ?_)
   refine ac7 (α := SMuQ seen (mxC g) avs M) (fun q => ⟨[(5, .d (.int q.n)), (2, .ptr 0 0), (3, .ptr 1 0), (6, .mp 2), (8, .ptr 3 0), (23, .d (.sl (ats.map di7))), (24, .d (.int (ats.map di7).length)), (25, .d (.int i)), (40, .d (.sl (iL avs))), (41, .d (.int (iL avs).length)), (42, .d (.int q.j))], [ew1 g, ew2 ⟨vs, ats⟩, .map kdI xs, em5 ⟨k, avs, nm, ty, .mk vk vn vd vS vl⟩]⟩) (fun q => avs.length - q.j) ⟨0, n, by omega, by omega, hM.symm⟩ (zle 4) ?_;rintro ⟨j, m, hj, hm, okm⟩;dsimp only at hj hm okm ⊢;rcases ez6 j avs.length with hlj | hgj
   ·have g2 : decide ((j : Int) < ((iL avs).length : Int)) = true := by rw [hvl]; simpa using hlj
    have hv0 := ez5 hlj;generalize avs[j] = v at hv0;have hv := dj0 hv0;have hz := hx v;have hp := ex3 (show j ≤ 8 by omega);obtain ⟨b0, b1⟩ := ex4 hm.1 hm.2 m0 m1;have hps : (20000 : Int) * 14 ^ j * 14 = 20000 * 14 ^ (j + 1) := by rw [Int.pow_succ, fj7]
    have hpg : (20000 : Int) * 14 ^ j ≤ 20000 * 14 ^ (j + 1) := by
     rw [← hps];have : (0 : Int) ≤ 20000 * 14 ^ j := Int.le_trans hm.1 hm.2;omega
    have w2 : inR .i64 (m * max (max 1 ((g.nodes.map cy0).length : Int)) ((g.edges.map cy1).length : Int)) := by
     show inR .i64 (m * mxC g);have h8 : (14 : Int) ^ 8 = 1475789056 := by decide
     simp only [inR];omega
    have w3 : inR .i64 (max (max 1 ((g.nodes.map cy0).length : Int)) ((g.edges.map cy1).length : Int)) := by
     show inR .i64 (mxC g);simp only [inR];omega
    rw [bz2 hv0, ew9] at okm
    cases c4 : seen.contains v with
    | true =>
     rw [c4] at hz okm
     repeat' (first | refine yz ?_ | refine yi (.int v) hv ?_ | refine bo1 hz ?_)
     refine ac1 ?_;exact ⟨⟨j + 1, m, by omega, ⟨hm.1, Int.le_trans hm.2 hpg⟩, okm⟩, by dsimp only; omega, (zle 4)⟩
    | false =>
     rw [c4] at hz okm
     repeat' (first | refine yz ?_ | refine yi (.int v) hv ?_ | refine bo1 hz ?_ | (refine ew8 rfl rfl rfl rfl rfl rfl rfl w3 ?_))
     refine ac1 ?_;exact ⟨⟨j + 1, m * mxC g, by omega, ⟨b0, by rw [← hps]; exact b1⟩, okm⟩, by dsimp only; omega, (zle 4)⟩
   ·have g2 : decide ((j : Int) < ((iL avs).length : Int)) = false := by rw [hvl]; simp; omega
    rw [fa1 hgj, ew9] at okm;subst okm
    have w1 : 0 ≤ M ∧ M ≤ 9000000000000000000 := by
     have hp := ex3 (show j ≤ 8 by omega);have h8 : (14 : Int) ^ 8 = 1475789056 := by decide
     have := hm.1;have := hm.2;omega
    repeat' (refine yz ?_)
    generalize M = m at *;refine ac7 (α := SMaQ seen avs) (fun q => ⟨[(2, .ptr 0 0), (3, .ptr 1 0), (5, .d (.int m)), (6, .mp 2), (23, .d (.sl (ats.map di7))), (24, .d (.int (ats.map di7).length)), (25, .d (.int i)), (61, .d (.sl (iL avs))), (62, .d (.int (iL avs).length)), (63, .d (.int q.k))], [ew1 g, ew2 ⟨vs, ats⟩, .map kdI q.xs, em5 ⟨k, avs, nm, ty, .mk vk vn vd vS vl⟩]⟩) (fun q => avs.length - q.k) ⟨0, xs, by omega, by simpa using hx⟩ (zle 4) ?_;rintro ⟨q, ys, hq, hy⟩;dsimp only at hq hy ⊢;rcases ez6 q avs.length with hlq | hgq
    ·have g3 : decide ((q : Int) < ((iL avs).length : Int)) = true := by rw [hvl]; simpa using hlq
     have hv0 := ez5 hlq;generalize avs[q] = v at hv0;have hv := dj0 hv0
     have hnx : ∀ u, bl0 (.int .i64 u) (bl1 (.int .i64 v) (.bool true) ys) (.bool false) = .bool ((seen ++ avs.take (q + 1)).contains u) := fun u => by
      rw [bn9, fg0, hv0, hy, ← fc1]
      cases hc : u == v with
      | true =>
       obtain rfl := eq_of_beq hc;simp
      | false =>
       rw [cond_false];have : ¬ u = v := by simpa using hc
       simp [this]
     repeat' (first | refine yz ?_ | refine yi (.int v) hv ?_ | refine bo2 ?_)
     refine ac1 ?_;exact ⟨⟨q + 1, _, by omega, hnx⟩, by dsimp only; omega, (zle 4)⟩
    ·have g3 : decide ((q : Int) < ((iL avs).length : Int)) = false := by rw [hvl]; simp; omega
     rw [fe9 hgq] at hy
     cases c5 : decide (m > 20000) with
     | true =>
      rw [c5, cond_true, fe1] at ok;rw [ok]
      repeat' (first | refine yz ?_ | exact zD)
     | false =>
      rw [c5, cond_false] at ok
      repeat' (refine yz ?_)
      refine ac1 ?_;exact ⟨⟨i + 1, m, seen ++ avs, ys, (show i + 1 ≤ ats.length from hlt), ⟨w1.1, by have := of_decide_eq_false c5; omega⟩, hy, ok⟩, by dsimp only; omega, (zle 3)⟩
 ·have g1 : decide ((i : Int) < ((ats.map di7).length : Int)) = false := by rw [hal]; simp; omega
  rw [fa1 hge, ex1, fc3, ← hal] at ok;rw [ok]
  repeat' (first | refine yz ?_ | exact zD)
end Go.Proofs.YtenpjlghikohmaaGreatDoor
namespace Go.Proofs.YtenpjlghikohmaaGreatDoor
set_option maxRecDepth 4000
open Go Go.Abs Go.Val Go.RowKit Go.Proofs.Tryz
def satQ (g : Gr) (a : AT) (t : List Int) : Prop := ∃ row ∈ el9 g a, ∀ k, k < (eb7 a.vs).length → row.getD k 0 = t.getD ((eb7 a.vs).getD k 0).toNat 0
theorem ex6 (g : Gr) (c : CJ) (t : List Int) : solQ (ev6 g c) c.vs.length t ↔ t.length = c.vs.length ∧ ∀ a ∈ c.as, satQ g a t := by
 unfold solQ ev6;constructor
 ·rintro ⟨h1, h2⟩;exact ⟨h1, fun a ha => h2 (ev5 g a) (fh0 ha)⟩
 ·rintro ⟨h1, h2⟩;refine ⟨h1, fun r hr => ?_⟩;obtain ⟨a, ha, rfl⟩ := fc4.1 hr;exact h2 a ha
def idR (g : Gr) : Prop := ∀ z, idP g z → Go.Abs.okV (.int .i64 z) = true
theorem ex7 {g : Gr} {c : CJ} (hg : dy7 g = 0) (hc : ds5 c = 0) : ev9 g c = ee9 (ev6 g c) c.vs.length [] := by
 unfold ev9;rw [hg, hc];rfl
theorem ex8 {g : Gr} {c : CJ} (hi : idR g) (hg : dy7 g = 0) (hc : ds5 c = 0) (t : List Int) : t ∈ ev9 g c ↔ t.length = c.vs.length ∧ ∀ a ∈ c.as, satQ g a t := by
 rw [ex7 hg hc, eg6 (ev7 hg (eu8 hc) hi).2, ex6]
theorem ex9 (g : Gr) (c : CJ) : dv7 (ev9 g c) := by
 unfold ev9
 cases dy7 g == 0 && ds5 c == 0 with
 | true => exact eg1 _ _ _
 | false => exact List.Pairwise.nil
theorem ey0 {g : Gr} {c : CJ} (h : dy7 g ≠ 0 ∨ ds5 c ≠ 0) : ev9 g c = [] := by
 unfold ev9
 have : (dy7 g == 0 && ds5 c == 0) = false := by
  rw [Bool.and_eq_false_iff];rcases h with h | h
  ·exact .inl (by simpa using h)
  ·exact .inr (by simpa using h)
 rw [this];rfl
theorem ey1 (c : CJ) : ds5 ⟨c.vs, c.as.reverse⟩ = ds5 c := by
 unfold ds5 dr0;simp only [List.length_reverse, List.any_reverse]
theorem ey2 {g : Gr} (hi : idR g) (c : CJ) : ev9 g ⟨c.vs, c.as.reverse⟩ = ev9 g c := by
 by_cases h : dy7 g ≠ 0 ∨ ds5 c ≠ 0
 ·rw [ey0 h, ey0 (by rcases h with h | h; exact .inl h; exact .inr (by rw [ey1]; exact h))]
 ·have hg : dy7 g = 0 := Decidable.not_not.1 fun hn => h (.inl hn)
  have hc : ds5 c = 0 := Decidable.not_not.1 fun hn => h (.inr hn)
  have hc' : ds5 ⟨c.vs, c.as.reverse⟩ = 0 := by rw [ey1]; exact hc
  refine dv8 _ _ (ex9 _ _) (ex9 _ _) fun t => ?_
  rw [ex8 hi hg hc, ex8 hi hg hc'];simp
theorem ey3 {g : Gr} (hi : idR g) {c : CJ} (hc : ds5 c = 0) (a : AT) (t : List Int) (h : t ∈ ev9 g ⟨c.vs, c.as ++ [a]⟩) : t ∈ ev9 g c := by
 by_cases hk : dy7 g ≠ 0 ∨ ds5 ⟨c.vs, c.as ++ [a]⟩ ≠ 0
 ·rw [ey0 hk] at h; cases h
 ·have hg : dy7 g = 0 := Decidable.not_not.1 fun hn => hk (.inl hn)
  have hm : ds5 ⟨c.vs, c.as ++ [a]⟩ = 0 := Decidable.not_not.1 fun hn => hk (.inr hn)
  rw [ex8 hi hg hm] at h;rw [ex8 hi hg hc];exact ⟨h.1, fun b hb => h.2 b (by simp [hb])⟩
theorem ey4 {g : Gr} (hi : idR g) {c : CJ} (hc : ds5 c = 0) (a : AT) : dw2 (ev9 g c ++ ev9 g ⟨c.vs, c.as ++ [a]⟩) = ev9 g c := by
 obtain ⟨h1, h2⟩ := dw5 _ (ev9 g c ++ ev9 g ⟨c.vs, c.as ++ [a]⟩) (fa4 _);refine dv8 _ _ h1 (ex9 _ _) fun t => ?_
 rw [h2, fb7];exact ⟨fun h => h.elim id (ey3 hi hc a t), .inl⟩
theorem ey5 {n : Nat} {S : List (List Int)} {V W : List Int} {k : Nat} (h : er3 n S V k) (hw : ∀ v ∈ W, v ∈ V) : er3 n S W k := by
 obtain ⟨C, h1, h2⟩ := h.ex;refine ⟨fun v hv => h.lo v (hw v hv), C, h1, fun t ht => ?_⟩;obtain ⟨c, hc, ha⟩ := h2 t ht;exact ⟨c, hc, fun v hv => ha v (hw v hv)⟩
theorem ey6 {g : Gr} (hg : dy7 g = 0) (n : Nat) (S : List (List Int)) : ∀ (l : List AT) (seen : List Int) (m : Int), (∀ a ∈ l, dp1 a = true) → (∀ a ∈ l, ∀ v ∈ a.vs, 0 ≤ v ∧ v < (n : Int)) → (∀ t ∈ S, ∀ a ∈ l, satQ g a t) → 0 ≤ m → m ≤ 20000 →
  er3 n S seen m.toNat → ex1 g l seen m = true → ∃ V, er3 n S V 20000 ∧ (∀ v ∈ seen, v ∈ V) ∧ ∀ a ∈ l, ∀ v ∈ a.vs, v ∈ V
 | [], seen, m, _, _, _, h0, h1, hc, _ => ⟨seen, hc.mono (by omega), fun v h => h, fun a ha => by cases ha⟩
 | a :: l, seen, m, hs, hr, hsat, h0, h1, hc, hch => by
  rw [ex1] at hch
  cases hd : decide (ex0 g seen a m > 20000) with
  | true => rw [hd] at hch; cases hch
  | false =>
   rw [hd, cond_false] at hch;have hle := of_decide_eq_false hd;obtain ⟨s1, s2, s3⟩ := dt2 (hs a (by simp));obtain ⟨r1, r2, r3⟩ := ev4 hg a;have hrv : ∀ v ∈ (ev5 g a).vs, 0 ≤ v ∧ v < (n : Int) := fun v hv => hr a (by simp) v ((ec3 a.vs v).1 hv)
   have hsr : ∀ t ∈ S, ∃ row ∈ (ev5 g a).rows, ∀ i, i < (ev5 g a).vs.length → row.getD i 0 = t.getD ((ev5 g a).vs.getD i 0).toNat 0 := fun t ht => hsat t ht a (by simp)
   have key : 0 ≤ ex0 g seen a m ∧ er3 n S (seen ++ a.vs) (ex0 g seen a m).toNat := by
    by_cases hk : a.k = 3
    ·have hv3 : a.vs.length = 3 := by rw [s1, hk]; rfl
     have hf : ex0 g seen a m = m * neC g := by unfold ex0; rw [hv3]; rfl
     have hne : 0 ≤ neC g := by unfold neC; omega
     have hp : 0 ≤ m * neC g := fj4 h0 hne;rw [hf];refine ⟨hp, ey5 ((hc.join (ev5 g a) hrv (m := g.edges.length) (r3 hk) hsr).mono ?_) fun v hv => ?_⟩
     ·have e : (m * neC g).toNat = m.toNat * (neC g).toNat := by rw [Int.toNat_mul h0 hne]
      rw [e];exact Nat.mul_le_mul_left _ (by unfold neC; simp)
     ·rcases fb7.1 hv with h | h
      ·exact List.mem_append_left _ h
      ·exact List.mem_append_right _ ((ec3 a.vs v).2 h)
    ·have hv1 : a.vs.length = 1 := em3 s1 s2 (by simpa using hk);obtain ⟨v0, hv0⟩ := List.length_eq_one_iff.1 hv1
     have hf : ex0 g seen a m = bif seen.contains v0 then m else m * mxC g := by
      unfold ex0;rw [hv1, hv0];rfl
     cases hcn : seen.contains v0 with
     | true =>
      rw [hf, hcn, cond_true];refine ⟨h0, hc.seen fun v hv => ?_⟩;rw [hv0] at hv;rw [fa0.1 hv];simpa using hcn
     | false =>
      have hmx : 0 ≤ mxC g := by unfold mxC; omega
      rw [hf, hcn, cond_false];refine ⟨fj4 h0 hmx, ey5 ((hc.join (ev5 g a) hrv (m := g.nodes.length) (r2 hk) hsr).mono ?_) fun v hv => ?_⟩
      ·rw [Int.toNat_mul h0 hmx];exact Nat.mul_le_mul_left _ (by unfold mxC; simp; omega)
      ·rcases fb7.1 hv with h | h
       ·exact List.mem_append_left _ h
       ·exact List.mem_append_right _ ((ec3 a.vs v).2 h)
   obtain ⟨V, v1, v2, v3⟩ := ey6 hg n S l (seen ++ a.vs) (ex0 g seen a m) (fun b hb => hs b (by simp [hb])) (fun b hb => hr b (by simp [hb])) (fun t ht b hb => hsat t ht b (by simp [hb])) key.1 (by omega) key.2 hch;refine ⟨V, v1, fun v hv => v2 v (List.mem_append_left _ hv), fun b hb v hv => ?_⟩;rcases fa6.1 hb with rfl | hb
   ·exact v2 v (List.mem_append_right _ hv)
   ·exact v3 b hb v hv
theorem ey7 {g : Gr} (hi : idR g) {c : CJ} (h : ex2 g c = true) : (ev9 g c).length ≤ 20000 := by
 by_cases hk : dy7 g ≠ 0 ∨ ds5 c ≠ 0
 ·rw [ey0 hk]; simp
 ·have hg : dy7 g = 0 := Decidable.not_not.1 fun hn => hk (.inl hn)
  have hc0 : ds5 c = 0 := Decidable.not_not.1 fun hn => hk (.inr hn)
  have hc := eu8 hc0;unfold ex2 at h;simp only [fa3] at h;have hm := fun t => ex8 hi hg hc0 t
  obtain ⟨V, v1, -, v3⟩ := ey6 hg c.vs.length (ev9 g c) c.as [] 1 (fun a ha => (hc.sh a ha).1) hc.rg (fun t ht => ((hm t).1 ht).2) (by omega) (by omega) (er3.start _ _) h.2.1;refine v1.len (er4 (ex9 g c)) (fun t ht => ((hm t).1 ht).1) fun j hj => ?_
  obtain ⟨a, ha, hv⟩ := hc.us j hj;exact v3 a ha _ hv
attribute [local irreducible] Ev EvO EvS aw2 an2 PGo RGo RGw br1 SGo go
abbrev ey8 (xs : List D) : aa5 := .row 58 9 xs
abbrev cjZ : aa5 := .var 28 (.cs [.nilS, .nilS])
abbrev cjM (k : Nat) (vs : D) : aa5 := .var 28 (.cs [.d vs, .own k])
def zsS (vs : D) (ats : List D) (a : D) (D : Nat → Bool) : List aa5 :=
 [bif D 2 && !D 5 then ey8 [] else .dead, bif D 5 && !D 8 then ey8 ats else .dead, bif D 8 then ey8 (ats ++ [a]) else .dead, bif D 10 then (bif D 11 then cjM 5 vs else cjZ) else .dead]
abbrev o3 (g c a : D) : List aa5 := [.var 38 (.w (.d g)), .var 28 (.w (.d c)), .var 58 (.w (.d a))]
abbrev zsF (g : D) (vs : D) (ats : List D) (a : D) : List aa5 := [.var 38 (.w (.d g)), .var 28 (.w (.d (.agg [vs, .sl ats]))), .var 58 (.w (.d a)), .dead, .dead, ey8 (ats ++ [a]), cjM 5 vs]
abbrev cjD (vs ats : D) : aa5 := .var 28 (.cs [.d vs, .d ats])
abbrev oAtS (a : D) : aa5 := .var 58 (.w (.d a))
def ey9 (vs : D) (a : D) (D : Nat → Bool) : List aa5 :=
 [bif D 2 && !D 8 then ey8 [] else .dead, bif D 8 then ey8 [a] else .dead, bif D 10 then (bif D 11 then cjM 4 vs else cjZ) else .dead]
abbrev zsF0 (g : D) (vs : D) (a : D) : List aa5 := [.var 38 (.w (.d g)), .var 28 (.w (.d (.agg [vs, .sl []]))), .var 58 (.w (.d a)), .dead, ey8 [a], cjM 4 vs]
def fB (k : Nat) : List D → X
 | [] => .d (.imm (.slice none 0 0))
 | _ :: _ => .own k
def fBO : List D → aa5
 | [] => .dead
 | x :: r => ey8 (x :: r)
structure Hold (p : Prop) : Prop where
 it : p
theorem ez0 {α : Type} {C : Cx} {s : St} {r : List It} {Q : Exit → St → Prop} (id : Nat) {l : Array Oper} {d : Bool} {c : Code} (S : α → St) (b0 : α) (h1 : Hold (go C (.code (.region id l d) :: .stop (fun s' => ∃ b, b = b0 ∧ Le C s' (S b)) :: .code c :: r) s Q))
  (h2 : Hold (go C (.code c :: r) (S b0) Q)) : go C (.code (.region id l d) :: .code c :: r) s Q := bf3 id S b0 h1.it h2.it
structure SSh (n : Nat) where
 i : Nat
 k : Int
 hi : i ≤ n
 hk : k = (i : Int) - 1
theorem ez1 {b : Bool} {x y : aa5} (hx : x.refs = []) (hy : y.refs = []) : (bif b then x else y).refs = [] := by cases b <;> assumption
theorem ez2 {n j : Nat} {y : aa5} (h : y.refs = []) : ∀ o ∈ y.refs, o < n ∧ o ≠ j := fun o ho => by rw [h] at ho; cases ho
theorem cjW {vs : D} : ∀ (i : Nat) x x', (VC.cs [.d vs, .d (.imm (.slice none 0 0))]).cells[i]? = some x → (VC.cs [.d vs, .d (.sl [])]).cells[i]? = some x' → ∀ w F σ v, RdX w F σ x v → RdX w F σ x' v := fun i x x' hx hx' w F σ v hr => by
 match i with
 | 0 => cases hx; cases hx'; exact hr
 | 1 => cases hx; cases hx'; exact bn1 hr
 | n + 2 => cases hx
set_option maxHeartbeats 4000000 in
theorem ez3 (hal : Ev E 8 [] (.d (.bool true))) (g : Gr) (c : CJ) (a : AT) : Ev E 6 [cy2 g, di8 c, di7 a] (.d (.bool true)) := Ev.fit fun hfit => by
 have h1 := ex5 g c;have h2 := ee0 a;have h3 := dt4 c
 cases c1 : ex2 g c with
 | false =>
  rw [c1] at h1;clear c1;obtain ⟨vs, ats⟩ := c;refine ye3 func6 ntmps6 fun _ _ _=>?_
  repeat' (first | refine yz ?_ | refine yp b25 h1 ?_ | refine yp b8 hal ?_ | exact zD)
 | true =>
 rw [c1] at h1
 cases c2 : ed9 a with
 | false =>
  rw [c2] at h2;clear c2;obtain ⟨vs, ats⟩ := c;refine ye3 func6 ntmps6 fun _ _ _=>?_
  repeat' (first | refine yz ?_ | refine yp b25 h1 ?_ | refine yp b21 h2 ?_ | refine yp b8 hal ?_ | exact zD)
 | true =>
 rw [c2] at h2
 cases c3 : ds5 c != 0 with
 | true =>
  obtain ⟨R, hR⟩ : ∃ R, ds5 c = R := ⟨_, rfl⟩;rw [hR] at h3 c3;obtain ⟨vs, ats⟩ := c;refine ye3 func6 ntmps6 fun _ _ _=>?_
  repeat' (first | refine yz ?_ | refine yp b25 h1 ?_ | refine yp b21 h2 ?_ | refine yp b26 h3 ?_ | refine yp b8 hal ?_ | exact zD)
 | false =>
 have hc : ds5 c = 0 := by simpa using c3
 rw [hc] at h3;have hidr : idR g := ew0 (hfit (cy2 g) (by simp));have hsm : smG g 10 14 = true := by unfold ex2 at c1; simp only [fa3] at c1; exact c1.1.1
 obtain ⟨⟨q1, -⟩, -, -⟩ := eg9 hsm;have hnar : ∀ n ∈ g.nodes, da0 n.props := fun n hn => (q1 n hn).2
 have hf1 := ey7 hidr c1;have e1 := ew6 g c hnar (by omega)
 have e2 : Ev E 19 [cy2 g, .agg [.sl (c.vs.map D.str), .sl (c.as.map di7).reverse]] (.d (.sl (rL (ev9 g c)))) := by
  have := ew6 g ⟨c.vs, c.as.reverse⟩ hnar (by rw [ey2 hidr]; omega);rw [ey2 hidr, show di8 ⟨c.vs, c.as.reverse⟩ = .agg [.sl (c.vs.map D.str), .sl (c.as.map di7).reverse] by simp [di8]] at this;exact this
 have e3 := ej1 (ev9 g c);have hmo : di8 ⟨c.vs, c.as ++ [a]⟩ = .agg [.sl (c.vs.map D.str), .sl (c.as.map di7 ++ [di7 a])] := by simp [di8]
 have e4 := ex5 g ⟨c.vs, c.as ++ [a]⟩;rw [hmo] at e4
 have e56 : ex2 g ⟨c.vs, c.as ++ [a]⟩ = true → ∃ M : List D, M.length ≤ 20000 ∧ (∀ d ∈ M, d.cells.length = 1) ∧ (rL (ev9 g c) = [] → M = []) ∧ Ev E 19 [cy2 g, .agg [.sl (c.vs.map D.str), .sl (c.as.map di7 ++ [di7 a])]] (.d (.sl M)) ∧ Ev E 28 [.sl (rL (ev9 g c) ++ M)] (.d (.sl (rL (ev9 g c)))) := fun c4 => by
  have hf2 := ey7 hidr c4;have e5 := ew6 g ⟨c.vs, c.as ++ [a]⟩ hnar (by omega);rw [hmo] at e5
  have hlen : ∀ r ∈ ev9 g c, r.length ≤ 1000000 := fun r hr => by
   by_cases hg : dy7 g = 0
   ·have := ((ex8 hidr hg hc r).1 hr).1;have := (eu8 hc).n;omega
   ·rw [ey0 (.inl hg)] at hr; cases hr
  have hsub := ey3 hidr hc a;have e6 := ek5 _ (ev9 g c ++ ev9 g ⟨c.vs, c.as ++ [a]⟩) (fa4 _) (by rw [fb5]; omega) (fun r hr => (fb7.1 hr).elim (hlen r) (fun h => hlen r (hsub r h)));rw [ey4 hidr hc a, show rL (ev9 g c ++ ev9 g ⟨c.vs, c.as ++ [a]⟩) = rL (ev9 g c) ++ rL (ev9 g ⟨c.vs, c.as ++ [a]⟩) by simp [rL]] at e6;refine ⟨_, by simpa [rL] using hf2, fun d hd => ?_, fun h => ?_, e5, e6⟩
  ·obtain ⟨r, -, rfl⟩ := fc4.1 hd;rfl
  ·have h0 : ev9 g c = [] := by simpa [rL] using h
   have : ev9 g ⟨c.vs, c.as ++ [a]⟩ = [] := fl4.2 fun r hr => by
    have := hsub r hr;rw [h0] at this
    cases this
   rw [this]; rfl
 have hRl : (rL (ev9 g c)).length ≤ 20000 := by simpa [rL] using hf1
 have hRc : ∀ d ∈ rL (ev9 g c), d.cells.length = 1 := fun d hd => by
  obtain ⟨r, -, rfl⟩ := fc4.1 hd;rfl
 generalize rL (ev9 g c) = R at e1 e2 e3 e56 hRl hRc;generalize hc4 : ex2 g ⟨c.vs, c.as ++ [a]⟩ = z at e4 e56;obtain ⟨vs, ats⟩ := c;have hl12 : (ats.map di7).length ≤ 12 := by rw [fb8]; exact (eu8 hc).m
 have hcel : ∀ d ∈ ats.map di7, d.cells.length = 9 := fun d hd => by
  obtain ⟨x, -, rfl⟩ := fc4.1 hd;rfl
 refine ye3 func6 ntmps6 fun _ _ _=>?_
 repeat' (first | (refine ez0 3 (fun (_ : Unit) => ⟨[(3, .ptr 0 0), (4, .ptr 1 0), (5, .ptr 2 0), (7, .ptr 3 0)], [ew1 g, ew2 ⟨vs, ats⟩, oAtS (di7 a), cjD (.sl (vs.map D.str)) (.sl (ats.map di7 ++ [di7 a]))]⟩) () ?_ ?_) | refine yz ?_ | refine yp b25 h1 ?_ | refine yp b21 h2 ?_ | refine yp b26 h3 ?_)
 ·refine ⟨?_⟩
  by_cases h0 : ats = []
  ·skip
   subst h0;refine qRY (id := 3) [2, 8, 10, 11] 3 (ey9 (.sl (vs.map D.str)) (di7 a)) (zsF0 (cy2 g) (.sl (vs.map D.str)) (di7 a)) ?_ ?_ ?_
   ·have hO : ap0 (o3 (cy2 g) (di8 ⟨vs, []⟩) (di7 a)).length (o3 (cy2 g) (di8 ⟨vs, []⟩) (di7 a)) := by repeat (first | exact trivial | refine ⟨rfl, ?_⟩)
    (refine rtV hO rfl ?_ ?_; rotate_left; (first | exact True.intro | rfl | assumption | omega | (simp only [inR]; omega) | ((show _ ≤ (9223372036854775807 : Nat)); (try simp only [ByteArray.size_append]); omega) | exact av2 (by omega) (by omega) | exact av3 (by omega) (by omega) | exact ⟨rfl, by decide, by decide⟩))
    (refine rtV hO rfl ?_ ?_; rotate_left; (first | exact True.intro | rfl | assumption | omega | (simp only [inR]; omega) | ((show _ ≤ (9223372036854775807 : Nat)); (try simp only [ByteArray.size_append]); omega) | exact av2 (by omega) (by omega) | exact av3 (by omega) (by omega) | exact ⟨rfl, by decide, by decide⟩))
    refine rtE 0 (.own 3) ?_ ?_
    ·intro S hD hDi tm' hev hsl;have d8 := hD.behind 8;have d11 := hD.behind 11;have e1 : ey9 (.sl (vs.map D.str)) (di7 a) S = [.dead, .dead, bif S 10 then cjZ else .dead] := by simp only [ey9, hDi, d8, d11]; rfl
     have e2 : ey9 (.sl (vs.map D.str)) (di7 a) (fun e => S e || e == 2) = [ey8 [], .dead, bif S 10 then cjZ else .dead] := by simp only [ey9, hDi, d8, d11, show ((2 : Nat) == 2) = true from rfl, show ((8 : Nat) == 2) = false from rfl, show ((10 : Nat) == 2) = false from rfl, show ((11 : Nat) == 2) = false from rfl, fc2, fe5]; rfl
     dsimp only;rw [e1, e2];refine SOp.fill (d := 29) (n := 6) (j := 3) (R := .own) (y := ey8 []) (ob1 := o3 (cy2 g) (di8 ⟨vs, []⟩) (di7 a) ++ [.dead, .dead, bif S 10 then cjZ else .dead]) ?_ rfl .own hsl rfl rfl (fd6 _) (br3.old (m := 3) hO (fb3 rfl) (.cons rfl (.cons rfl (.cons (ez1 rfl rfl) .nil)))) (ez2 rfl);refine SOp.same (ay8 (by exact rfl) (by exact rfl) (by exact rfl) (by exact rfl) (by exact fb3 rfl) (by exact fb3 rfl) (by exact rfl)) ?_;exact rfl
    (refine rtV hO rfl ?_ ?_; rotate_left; (first | exact True.intro | rfl | assumption | omega | (simp only [inR]; omega) | ((show _ ≤ (9223372036854775807 : Nat)); (try simp only [ByteArray.size_append]); omega) | exact av2 (by omega) (by omega) | exact av3 (by omega) (by omega) | exact ⟨rfl, by decide, by decide⟩))
    (refine rtV hO rfl ?_ ?_; rotate_left; (first | exact True.intro | rfl | assumption | omega | (simp only [inR]; omega) | ((show _ ≤ (9223372036854775807 : Nat)); (try simp only [ByteArray.size_append]); omega) | exact av2 (by omega) (by omega) | exact av3 (by omega) (by omega) | exact ⟨rfl, by decide, by decide⟩))
    refine rtX (x := .own 3) (fun S hS => bn2 (k := 3) (xs := []) rfl rfl rfl rfl (by
     have d2 := hS.ahead 2;have d8 := hS.behind 8;dsimp only;simp only [ey9, d2, d8];rfl) rfl) ?_
    (refine rtV hO rfl ?_ ?_; rotate_left; (first | exact True.intro | rfl | assumption | omega | (simp only [inR]; omega) | ((show _ ≤ (9223372036854775807 : Nat)); (try simp only [ByteArray.size_append]); omega) | exact av2 (by omega) (by omega) | exact av3 (by omega) (by omega) | exact ⟨rfl, by decide, by decide⟩))
    refine rtX (x := .d (.sl [di7 a])) (fun S _ => as8 (ds := [di7 a]) rfl rfl rfl rfl (by exact fb3 rfl) (by exact fb3 rfl)) ?_;refine rtE 1 (.own 4) ?_ ?_
    ·intro S hD hDi tm' hev hsl;have d2 := hD.ahead 2;have d11 := hD.behind 11;have e1 : ey9 (.sl (vs.map D.str)) (di7 a) S = [ey8 [], .dead, bif S 10 then cjZ else .dead] := by simp only [ey9, hDi, d2, d11]; rfl
     have e2 : ey9 (.sl (vs.map D.str)) (di7 a) (fun e => S e || e == 8) = [.dead, ey8 [di7 a], bif S 10 then cjZ else .dead] := by simp only [ey9, hDi, d2, d11, show ((2 : Nat) == 8) = false from rfl, show ((8 : Nat) == 8) = true from rfl, show ((10 : Nat) == 8) = false from rfl, show ((11 : Nat) == 8) = false from rfl, fc2, fe5]; rfl
     have w1 := hev (.tmp 32) (by simp [Op.operands, Call.operands]);have w2 := hev (.tmp 34) (by simp [Op.operands, Call.operands]);dsimp only at w1 w2 ⊢;rw [e1] at w1 w2 ⊢;rw [e2];refine SOp.fill (d := 35) (n := 6) (j := 4) (R := .own) (y := ey8 [di7 a]) (ob1 := o3 (cy2 g) (di8 ⟨vs, []⟩) (di7 a) ++ [.dead, .dead, bif S 10 then cjZ else .dead]) ?_ rfl .own hsl rfl rfl (fd6 _) (br3.old (m := 3) hO (fb3 rfl) (.cons rfl (.cons rfl (.cons (ez1 rfl rfl) .nil)))) (ez2 rfl);refine SOp.same (aq7 (xs := []) (ys := [di7 a]) (by exact rfl) (by exact rfl) (.inr ⟨3, rfl, w1.trans rfl, (by exact rfl)⟩) (w2.trans rfl) (by simp) (by intro d hd; rw [fa0.1 hd]; exact rfl) (by exact rfl) (by exact fb3 rfl) (fd3 (ff8 _ (show ([] : List D).length + [di7 a].length ≤ 13 by simp)) (by exact fb3 rfl)) (fd3 (show ([] : List D).length + [di7 a].length ≤ 13 by simp) (by exact fb3 rfl)) (by exact rfl)) ?_;exact rfl
    refine rtX (x := .st [.d (.sl (vs.map D.str)), .own 4]) (fun S _ => bq6 rfl rfl rfl rfl rfl rfl) ?_;refine rtE 2 (.ptr 5 0) ?_ ?_
    ·intro S hD hDi tm' hev hsl;have d11 := hD.behind 11;have e1 : ey9 (.sl (vs.map D.str)) (di7 a) S = [bif S 2 && !S 8 then ey8 [] else .dead, bif S 8 then ey8 [di7 a] else .dead, .dead] := by simp only [ey9, hDi, d11]; rfl
     have e2 : ey9 (.sl (vs.map D.str)) (di7 a) (fun e => S e || e == 10) = [bif S 2 && !S 8 then ey8 [] else .dead, bif S 8 then ey8 [di7 a] else .dead, cjZ] := by simp only [ey9, hDi, d11, show ((2 : Nat) == 10) = false from rfl, show ((8 : Nat) == 10) = false from rfl, show ((10 : Nat) == 10) = true from rfl, show ((11 : Nat) == 10) = false from rfl, fc2, fe5]; rfl
     dsimp only;rw [e1, e2];refine SOp.fill (d := 7) (n := 6) (j := 5) (R := (.ptr · 0)) (y := cjZ) (ob1 := o3 (cy2 g) (di8 ⟨vs, []⟩) (di7 a) ++ [bif S 2 && !S 8 then ey8 [] else .dead, bif S 8 then ey8 [di7 a] else .dead, .dead]) ?_ rfl (.ptr 0) hsl rfl rfl (fd6 _) (br3.old (m := 3) hO (fb3 rfl) (.cons (ez1 rfl rfl) (.cons (ez1 rfl rfl) (.cons rfl .nil)))) (ez2 rfl);refine SOp.same (am0 (by exact rfl) (by exact rfl) (by exact rfl) (by exact rfl)) ?_;exact rfl
    refine rtE 3 .und ?_ ?_
    ·intro S hD hDi tm' hev hsl;have d2 := hD.ahead 2;have d8 := hD.ahead 8;have d10 := hD.ahead 10;have e1 : ey9 (.sl (vs.map D.str)) (di7 a) S = [.dead, ey8 [di7 a], cjZ] := by simp only [ey9, hDi, d2, d8, d10]; rfl
     have e2 : ey9 (.sl (vs.map D.str)) (di7 a) (fun e => S e || e == 11) = [.dead, ey8 [di7 a], cjM 4 (.sl (vs.map D.str))] := by simp only [ey9, hDi, d2, d8, d10, show ((2 : Nat) == 11) = false from rfl, show ((8 : Nat) == 11) = false from rfl, show ((10 : Nat) == 11) = false from rfl, show ((11 : Nat) == 11) = true from rfl, fc2, fe5]; rfl
     have w1 := hev (.tmp 7) (by simp [Op.operands, Call.operands]);have w2 := hev (.tmp 36) (by simp [Op.operands, Call.operands]);dsimp only at w1 w2 ⊢;rw [e1] at w1 w2 ⊢;rw [e2];refine SOp.same (bq5 (i := 5) (by exact rfl) (by exact rfl) (w1.trans rfl) (w2.trans rfl) (by exact rfl) (by exact rfl) (by exact rfl) (by exact rfl)) ?_;exact rfl
    refine rtN ?_;refine ac1 ⟨(), rfl, fun a w h => ?_⟩;refine (?_ : Le _ _ _) a w (as5 4 rfl a w h);exact (bi5 [0, 1, 2, 5])
   ·intro D hD;have d2 := hD 2 (by simp);have d8 := hD 8 (by simp);have d10 := hD 10 (by simp);have d11 := hD 11 (by simp);simp only [ey9, d2, d8, d10, d11];rfl
   ·intro D hD;have d2 := hD 2 (by simp);have d8 := hD 8 (by simp);have d10 := hD 10 (by simp);have d11 := hD 11 (by simp);simp only [ey9, d2, d8, d10, d11];rfl
  ·skip
   have hne : ats.map di7 ≠ [] := fun e => h0 (List.map_eq_nil_iff.1 e)
   refine qRY (id := 3) [2, 5, 8, 10, 11] 4 (zsS (.sl (vs.map D.str)) (ats.map di7) (di7 a)) (zsF (cy2 g) (.sl (vs.map D.str)) (ats.map di7) (di7 a)) ?_ ?_ ?_
   ·have hO : ap0 (o3 (cy2 g) (di8 ⟨vs, ats⟩) (di7 a)).length (o3 (cy2 g) (di8 ⟨vs, ats⟩) (di7 a)) := by repeat (first | exact trivial | refine ⟨rfl, ?_⟩)
    (refine rtV hO rfl ?_ ?_; rotate_left; (first | exact True.intro | rfl | assumption | omega | (simp only [inR]; omega) | ((show _ ≤ (9223372036854775807 : Nat)); (try simp only [ByteArray.size_append]); omega) | exact av2 (by omega) (by omega) | exact av3 (by omega) (by omega) | exact ⟨rfl, by decide, by decide⟩))
    (refine rtV hO rfl ?_ ?_; rotate_left; (first | exact True.intro | rfl | assumption | omega | (simp only [inR]; omega) | ((show _ ≤ (9223372036854775807 : Nat)); (try simp only [ByteArray.size_append]); omega) | exact av2 (by omega) (by omega) | exact av3 (by omega) (by omega) | exact ⟨rfl, by decide, by decide⟩))
    refine rtE 0 (.own 3) ?_ ?_
    ·intro S hD hDi tm' hev hsl;have d5 := hD.behind 5;have d8 := hD.behind 8;have d11 := hD.behind 11;have e1 : zsS (.sl (vs.map D.str)) (ats.map di7) (di7 a) S = [.dead, .dead, .dead, bif S 10 then cjZ else .dead] := by simp only [zsS, hDi, d5, d8, d11]; rfl
     have e2 : zsS (.sl (vs.map D.str)) (ats.map di7) (di7 a) (fun e => S e || e == 2) = [ey8 [], .dead, .dead, bif S 10 then cjZ else .dead] := by simp only [zsS, hDi, d5, d8, d11, show ((2 : Nat) == 2) = true from rfl, show ((5 : Nat) == 2) = false from rfl, show ((8 : Nat) == 2) = false from rfl, show ((10 : Nat) == 2) = false from rfl, show ((11 : Nat) == 2) = false from rfl, fc2, fe5]; rfl
     dsimp only;rw [e1, e2];refine SOp.fill (d := 29) (n := 7) (j := 3) (R := .own) (y := ey8 []) (ob1 := o3 (cy2 g) (di8 ⟨vs, ats⟩) (di7 a) ++ [.dead, .dead, .dead, bif S 10 then cjZ else .dead]) ?_ rfl .own hsl rfl rfl (fd6 _) (br3.old (m := 4) hO (fb3 rfl) (.cons rfl (.cons rfl (.cons rfl (.cons (ez1 rfl rfl) .nil))))) (ez2 rfl);refine SOp.same (ay8 (by exact rfl) (by exact rfl) (by exact rfl) (by exact rfl) (by exact fb3 rfl) (by exact fb3 rfl) (by exact rfl)) ?_;exact rfl
    (refine rtV hO rfl ?_ ?_; rotate_left; (first | exact True.intro | rfl | assumption | omega | (simp only [inR]; omega) | ((show _ ≤ (9223372036854775807 : Nat)); (try simp only [ByteArray.size_append]); omega) | exact av2 (by omega) (by omega) | exact av3 (by omega) (by omega) | exact ⟨rfl, by decide, by decide⟩))
    (refine rtV hO rfl ?_ ?_; rotate_left; (first | exact True.intro | rfl | assumption | omega | (simp only [inR]; omega) | ((show _ ≤ (9223372036854775807 : Nat)); (try simp only [ByteArray.size_append]); omega) | exact av2 (by omega) (by omega) | exact av3 (by omega) (by omega) | exact ⟨rfl, by decide, by decide⟩))
    refine rtE 1 (.own 4) ?_ ?_
    ·intro S hD hDi tm' hev hsl;have d2 := hD.ahead 2;have d8 := hD.behind 8;have d11 := hD.behind 11;have e1 : zsS (.sl (vs.map D.str)) (ats.map di7) (di7 a) S = [ey8 [], .dead, .dead, bif S 10 then cjZ else .dead] := by simp only [zsS, hDi, d2, d8, d11]; rfl
     have e2 : zsS (.sl (vs.map D.str)) (ats.map di7) (di7 a) (fun e => S e || e == 5) = [.dead, ey8 (ats.map di7), .dead, bif S 10 then cjZ else .dead] := by simp only [zsS, hDi, d2, d8, d11, show ((2 : Nat) == 5) = false from rfl, show ((5 : Nat) == 5) = true from rfl, show ((8 : Nat) == 5) = false from rfl, show ((10 : Nat) == 5) = false from rfl, show ((11 : Nat) == 5) = false from rfl, fc2, fe5]; rfl
     have w1 := hev (.tmp 29) (by simp [Op.operands, Call.operands]);have w2 := hev (.tmp 31) (by simp [Op.operands, Call.operands]);dsimp only at w1 w2 ⊢;rw [e1] at w1 w2 ⊢;rw [e2];refine SOp.fill (d := 32) (n := 7) (j := 4) (R := .own) (y := ey8 (ats.map di7)) (ob1 := o3 (cy2 g) (di8 ⟨vs, ats⟩) (di7 a) ++ [.dead, .dead, .dead, bif S 10 then cjZ else .dead]) ?_ rfl .own hsl rfl rfl (fd6 _) (br3.old (m := 4) hO (fb3 rfl) (.cons rfl (.cons rfl (.cons rfl (.cons (ez1 rfl rfl) .nil))))) (ez2 rfl);refine SOp.same (aq7 (xs := []) (ys := ats.map di7) (by exact rfl) (by exact rfl) (.inr ⟨3, rfl, w1.trans rfl, (by exact rfl)⟩) (w2.trans rfl) hne hcel (by exact rfl) (by exact fb3 rfl) (fd3 (ff8 _ (show ([] : List D).length + (ats.map di7).length ≤ 12 by simpa using hl12)) (by exact fb3 rfl)) (fd3 (show ([] : List D).length + (ats.map di7).length ≤ 12 by simpa using hl12) (by exact fb3 rfl)) (by exact rfl)) ?_;exact rfl
    (refine rtV hO rfl ?_ ?_; rotate_left; (first | exact True.intro | rfl | assumption | omega | (simp only [inR]; omega) | ((show _ ≤ (9223372036854775807 : Nat)); (try simp only [ByteArray.size_append]); omega) | exact av2 (by omega) (by omega) | exact av3 (by omega) (by omega) | exact ⟨rfl, by decide, by decide⟩))
    refine rtX (x := .d (.sl [di7 a])) (fun S _ => as8 (ds := [di7 a]) rfl rfl rfl rfl (by exact fb3 rfl) (by exact fb3 rfl)) ?_;refine rtE 2 (.own 5) ?_ ?_
    ·intro S hD hDi tm' hev hsl;have d2 := hD.ahead 2;have d5 := hD.ahead 5;have d11 := hD.behind 11;have e1 : zsS (.sl (vs.map D.str)) (ats.map di7) (di7 a) S = [.dead, ey8 (ats.map di7), .dead, bif S 10 then cjZ else .dead] := by simp only [zsS, hDi, d2, d5, d11]; rfl
     have e2 : zsS (.sl (vs.map D.str)) (ats.map di7) (di7 a) (fun e => S e || e == 8) = [.dead, .dead, ey8 (ats.map di7 ++ [di7 a]), bif S 10 then cjZ else .dead] := by simp only [zsS, hDi, d2, d5, d11, show ((2 : Nat) == 8) = false from rfl, show ((5 : Nat) == 8) = false from rfl, show ((8 : Nat) == 8) = true from rfl, show ((10 : Nat) == 8) = false from rfl, show ((11 : Nat) == 8) = false from rfl, fc2, fe5]; rfl
     have w1 := hev (.tmp 32) (by simp [Op.operands, Call.operands]);have w2 := hev (.tmp 34) (by simp [Op.operands, Call.operands]);dsimp only at w1 w2 ⊢;rw [e1] at w1 w2 ⊢;rw [e2];refine SOp.fill (d := 35) (n := 7) (j := 5) (R := .own) (y := ey8 (ats.map di7 ++ [di7 a])) (ob1 := o3 (cy2 g) (di8 ⟨vs, ats⟩) (di7 a) ++ [.dead, .dead, .dead, bif S 10 then cjZ else .dead]) ?_ rfl .own hsl rfl rfl (fd6 _) (br3.old (m := 4) hO (fb3 rfl) (.cons rfl (.cons rfl (.cons rfl (.cons (ez1 rfl rfl) .nil))))) (ez2 rfl);refine SOp.same (aq7 (xs := ats.map di7) (ys := [di7 a]) (by exact rfl) (by exact rfl) (.inr ⟨4, rfl, w1.trans rfl, (by exact rfl)⟩) (w2.trans rfl) (by simp) (by intro d hd; rw [fa0.1 hd]; exact rfl) (by exact rfl) (by exact fb3 rfl) (fd3 (ff8 _ (show (ats.map di7).length + [di7 a].length ≤ 13 by simpa using hl12)) (by exact fb3 rfl)) (fd3 (show (ats.map di7).length + [di7 a].length ≤ 13 by simpa using hl12) (by exact fb3 rfl)) (by exact rfl)) ?_;exact rfl
    refine rtX (x := .st [.d (.sl (vs.map D.str)), .own 5]) (fun S _ => bq6 rfl rfl rfl rfl rfl rfl) ?_;refine rtE 3 (.ptr 6 0) ?_ ?_
    ·intro S hD hDi tm' hev hsl;have d11 := hD.behind 11;have e1 : zsS (.sl (vs.map D.str)) (ats.map di7) (di7 a) S = [bif S 2 && !S 5 then ey8 [] else .dead, bif S 5 && !S 8 then ey8 (ats.map di7) else .dead, bif S 8 then ey8 (ats.map di7 ++ [di7 a]) else .dead, .dead] := by simp only [zsS, hDi, d11]; rfl
     have e2 : zsS (.sl (vs.map D.str)) (ats.map di7) (di7 a) (fun e => S e || e == 10) = [bif S 2 && !S 5 then ey8 [] else .dead, bif S 5 && !S 8 then ey8 (ats.map di7) else .dead, bif S 8 then ey8 (ats.map di7 ++ [di7 a]) else .dead, cjZ] := by simp only [zsS, hDi, d11, show ((2 : Nat) == 10) = false from rfl, show ((5 : Nat) == 10) = false from rfl, show ((8 : Nat) == 10) = false from rfl, show ((10 : Nat) == 10) = true from rfl, show ((11 : Nat) == 10) = false from rfl, fc2, fe5]; rfl
     dsimp only;rw [e1, e2];refine SOp.fill (d := 7) (n := 7) (j := 6) (R := (.ptr · 0)) (y := cjZ) (ob1 := o3 (cy2 g) (di8 ⟨vs, ats⟩) (di7 a) ++ [bif S 2 && !S 5 then ey8 [] else .dead, bif S 5 && !S 8 then ey8 (ats.map di7) else .dead, bif S 8 then ey8 (ats.map di7 ++ [di7 a]) else .dead, .dead]) ?_ rfl (.ptr 0) hsl rfl rfl (fd6 _) (br3.old (m := 4) hO (fb3 rfl) (.cons (ez1 rfl rfl) (.cons (ez1 rfl rfl) (.cons (ez1 rfl rfl) (.cons rfl .nil))))) (ez2 rfl);refine SOp.same (am0 (by exact rfl) (by exact rfl) (by exact rfl) (by exact rfl)) ?_;exact rfl
    refine rtE 4 .und ?_ ?_
    ·intro S hD hDi tm' hev hsl;have d2 := hD.ahead 2;have d5 := hD.ahead 5;have d8 := hD.ahead 8;have d10 := hD.ahead 10;have e1 : zsS (.sl (vs.map D.str)) (ats.map di7) (di7 a) S = [.dead, .dead, ey8 (ats.map di7 ++ [di7 a]), cjZ] := by simp only [zsS, hDi, d2, d5, d8, d10]; rfl
     have e2 : zsS (.sl (vs.map D.str)) (ats.map di7) (di7 a) (fun e => S e || e == 11) = [.dead, .dead, ey8 (ats.map di7 ++ [di7 a]), cjM 5 (.sl (vs.map D.str))] := by simp only [zsS, hDi, d2, d5, d8, d10, show ((2 : Nat) == 11) = false from rfl, show ((5 : Nat) == 11) = false from rfl, show ((8 : Nat) == 11) = false from rfl, show ((10 : Nat) == 11) = false from rfl, show ((11 : Nat) == 11) = true from rfl, fc2, fe5]; rfl
     have w1 := hev (.tmp 7) (by simp [Op.operands, Call.operands]);have w2 := hev (.tmp 36) (by simp [Op.operands, Call.operands]);dsimp only at w1 w2 ⊢;rw [e1] at w1 w2 ⊢;rw [e2];refine SOp.same (bq5 (i := 6) (by exact rfl) (by exact rfl) (w1.trans rfl) (w2.trans rfl) (by exact rfl) (by exact rfl) (by exact rfl) (by exact rfl)) ?_;exact rfl
    refine rtN ?_;refine ac1 ⟨(), rfl, fun a w h => ?_⟩;refine (?_ : Le _ _ _) a w (as5 5 rfl a w h);exact (bi5 [0, 1, 2, 6])
   ·intro D hD;have d2 := hD 2 (by simp);have d5 := hD 5 (by simp);have d8 := hD 8 (by simp);have d10 := hD 10 (by simp);have d11 := hD 11 (by simp);simp only [zsS, d2, d5, d8, d10, d11];rfl
   ·intro D hD;have d2 := hD 2 (by simp);have d5 := hD 5 (by simp);have d8 := hD 8 (by simp);have d10 := hD 10 (by simp);have d11 := hD 11 (by simp);simp only [zsS, d2, d5, d8, d10, d11];rfl
 ·refine ⟨?_⟩
  repeat' (first | refine bq7 rfl rfl rfl rfl rfl rfl rfl rfl rfl ?_ | refine yz ?_ | refine bq8 rfl rfl rfl rfl rfl rfl rfl rfl rfl rfl ?_)
  refine bn4 ?_;refine ac7 (α := SSh ats.length) (fun p => ⟨[(3, .ptr 0 0), (4, .ptr 1 0), (5, .ptr 2 0), (7, .ptr 3 0), (8, .ptr 4 0), (9, .d (.int p.k))], [ew1 g, ew2 ⟨vs, ats⟩, oAtS (di7 a), cjD (.sl (vs.map D.str)) (.sl (ats.map di7 ++ [di7 a])), .var 28 (.cs [.d (.sl (vs.map D.str)), fB 5 ((ats.map di7).drop p.i).reverse]), fBO ((ats.map di7).drop p.i).reverse]⟩) (fun p => p.i) ⟨ats.length, ((ats.map di7).length : Int) - 1, fa4 _, by simp⟩ ?_ ?_
  ·dsimp only;rw [List.drop_of_length_le (by simp)];exact (zle 6)
  rintro ⟨i, k, hi, hk⟩;dsimp only;rcases i with _ | j
  ·have g1 : decide (k ≥ 0) = false := by simp; omega
   rw [fk0];dsimp only at *;generalize (ats.map di7).reverse = P at *;refine ac6 (s' := ⟨[(3, .ptr 0 0), (4, .ptr 1 0), (5, .ptr 2 0), (7, .ptr 3 0), (8, .ptr 4 0), (9, .d (.int k))], [ew1 g, ew2 ⟨vs, ats⟩, oAtS (di7 a), cjD (.sl (vs.map D.str)) (.sl (ats.map di7 ++ [di7 a])), cjD (.sl (vs.map D.str)) (.sl P)]⟩) ?_ ?_
   ·cases P with
    | nil => exact Le.trans (Le.objW 4 (c' := .cs [.d (.sl (vs.map D.str)), .d (.sl [])]) rfl rfl cjW) (zle 5)
    | cons y q => exact Le.trans (as5 5 rfl) (bi5 [0, 1, 2, 3, 4])
   cases z with
   | false =>
    repeat' (first | refine yz ?_ | refine yp b19 e1 ?_ | refine yp b19 e2 ?_ | refine yp b27 e3 ?_ | refine yp b25 e4 ?_ | refine yp b8 hal ?_ | exact zD)
   | true =>
    obtain ⟨M, hMl, hMc, hM0, e5, e6⟩ := e56 rfl
    match R, M, hM0, hRl, hMl, hRc, hMc with
    | [], [], _, _, _, _, _ =>
     repeat' (first | refine yz ?_ | refine yp b19 e1 ?_ | refine yp b19 e2 ?_ | refine yp b19 e5 ?_ | refine yp b27 e3 ?_ | refine yp b25 e4 ?_ | refine yp b8 hal ?_ | refine yp b28 e6 ?_ | refine az4 rfl rfl rfl rfl rfl rfl rfl rfl ?_ | exact zD)
    | [], y :: q, hM0, _, _, _, _ => cases hM0 rfl
    | x :: r, [], _, hRl, _, hRc, _ =>
     rw [fg4] at e6
     repeat' (first | refine qErT (id := 14) [0,2] [] (by kernel_rfl) (by kernel_rfl) (by repeat (first | exact trivial | refine ⟨⟨rfl, rfl⟩, ?_⟩ | refine ⟨trivial, ?_⟩)) ?_ | (refine reV (id := 14) (i := 1) rfl rfl rfl rfl rfl rfl ?_ ?_; (first | exact True.intro | rfl | assumption | omega | (simp only [inR]; omega) | ((show _ ≤ (9223372036854775807 : Nat)); (try simp only [ByteArray.size_append]); omega) | exact av2 (by omega) (by omega) | exact av3 (by omega) (by omega) | exact ⟨rfl, by decide, by decide⟩)) | (refine reV (id := 14) (i := 3) rfl rfl rfl rfl rfl rfl ?_ ?_; (first | exact True.intro | rfl | assumption | omega | (simp only [inR]; omega) | ((show _ ≤ (9223372036854775807 : Nat)); (try simp only [ByteArray.size_append]); omega) | exact av2 (by omega) (by omega) | exact av3 (by omega) (by omega) | exact ⟨rfl, by decide, by decide⟩)) | (refine reV (id := 14) (i := 4) rfl rfl rfl rfl rfl rfl ?_ ?_; (first | exact True.intro | rfl | assumption | omega | (simp only [inR]; omega) | ((show _ ≤ (9223372036854775807 : Nat)); (try simp only [ByteArray.size_append]); omega) | exact av2 (by omega) (by omega) | exact av3 (by omega) (by omega) | exact ⟨rfl, by decide, by decide⟩)) | refine reF (id := 14) (i := 5) 4 (by kernel_rfl) rfl ?_ | refine reN ?_ | refine yz ?_ | refine bj2 (id := 14) (i := 0) rfl rfl rfl rfl rfl rfl rfl rfl (by decide) (by decide) (by repeat (first | exact trivial | refine ⟨⟨rfl, rfl⟩, ?_⟩ | refine ⟨trivial, ?_⟩)) ?_ | refine reSD (id := 14) (i := 2) rfl rfl rfl rfl (⟨by simp, hRc, by (show (0 + (x :: r).length) * 24 ≤ 140737488355328; omega), by (show 0 + (x :: r).length ≤ 9223372036854775807; omega)⟩) rfl rfl rfl rfl (by simp) (by repeat (first | exact trivial | refine ⟨rfl, ?_⟩)) (by repeat (first | exact trivial | refine ⟨⟨rfl, rfl⟩, ?_⟩ | refine ⟨trivial, ?_⟩)) ?_ | refine az4 rfl rfl rfl rfl rfl rfl rfl rfl ?_ | refine yp b19 e1 ?_ | refine yp b19 e2 ?_ | refine yp b19 e5 ?_ | refine yp b27 e3 ?_ | refine yp b25 e4 ?_ | refine yp b8 hal ?_ | refine yp b28 e6 ?_ | exact zD)
    | x :: r, y :: q, _, hRl, hMl, hRc, hMc =>
     repeat' (first | refine qErT (id := 14) [0,2,6] [] (by kernel_rfl) (by kernel_rfl) (by repeat (first | exact trivial | refine ⟨⟨rfl, rfl⟩, ?_⟩ | refine ⟨trivial, ?_⟩)) ?_ | (refine reV (id := 14) (i := 1) rfl rfl rfl rfl rfl rfl ?_ ?_; (first | exact True.intro | rfl | assumption | omega | (simp only [inR]; omega) | ((show _ ≤ (9223372036854775807 : Nat)); (try simp only [ByteArray.size_append]); omega) | exact av2 (by omega) (by omega) | exact av3 (by omega) (by omega) | exact ⟨rfl, by decide, by decide⟩)) | (refine reV (id := 14) (i := 3) rfl rfl rfl rfl rfl rfl ?_ ?_; (first | exact True.intro | rfl | assumption | omega | (simp only [inR]; omega) | ((show _ ≤ (9223372036854775807 : Nat)); (try simp only [ByteArray.size_append]); omega) | exact av2 (by omega) (by omega) | exact av3 (by omega) (by omega) | exact ⟨rfl, by decide, by decide⟩)) | (refine reV (id := 14) (i := 4) rfl rfl rfl rfl rfl rfl ?_ ?_; (first | exact True.intro | rfl | assumption | omega | (simp only [inR]; omega) | ((show _ ≤ (9223372036854775807 : Nat)); (try simp only [ByteArray.size_append]); omega) | exact av2 (by omega) (by omega) | exact av3 (by omega) (by omega) | exact ⟨rfl, by decide, by decide⟩)) | refine reF (id := 14) (i := 5) 1 (by kernel_rfl) rfl ?_ | refine reF (id := 14) (i := 7) 2 (by kernel_rfl) rfl ?_ | refine reN ?_ | refine yz ?_ | refine bj2 (id := 14) (i := 0) rfl rfl rfl rfl rfl rfl rfl rfl (by decide) (by decide) (by repeat (first | exact trivial | refine ⟨⟨rfl, rfl⟩, ?_⟩ | refine ⟨trivial, ?_⟩)) ?_ | refine reS (id := 14) (i := 2) rfl rfl rfl rfl (⟨by simp, hRc, by (show (0 + (x :: r).length) * 24 ≤ 140737488355328; omega), by (show 0 + (x :: r).length ≤ 9223372036854775807; omega)⟩) (by repeat (first | exact trivial | refine ⟨⟨rfl, rfl⟩, ?_⟩ | refine ⟨trivial, ?_⟩)) ?_ | refine reSD (id := 14) (i := 6) rfl rfl rfl rfl (⟨by simp, hMc, by (show ((x :: r).length + (y :: q).length) * 24 ≤ 140737488355328; omega), by (show (x :: r).length + (y :: q).length ≤ 9223372036854775807; omega)⟩) rfl rfl rfl rfl (by simp) (by repeat (first | exact trivial | refine ⟨rfl, ?_⟩)) (by repeat (first | exact trivial | refine ⟨⟨rfl, rfl⟩, ?_⟩ | refine ⟨trivial, ?_⟩)) ?_ | refine yp b19 e1 ?_ | refine yp b19 e2 ?_ | refine yp b19 e5 ?_ | refine yp b27 e3 ?_ | refine yp b25 e4 ?_ | refine yp b8 hal ?_ | refine yp b28 e6 ?_ | exact zD)
  ·have g1 : decide (k ≥ 0) = true := by simp; omega
   have hlt : j < ats.length := by omega
   have hlt' : j < (ats.map di7).length := by rw [fb8]; exact hlt
   have hd : ((ats.map di7).drop j).reverse = ((ats.map di7).drop (j + 1)).reverse ++ [(ats.map di7)[j]] := by rw [← List.reverse_cons, ← fk7 hlt']
   have hx0 := ez5 hlt';have hxe : (ats.map di7)[j] = di7 ats[j] := List.getElem_map _;rw [hxe] at hd hx0;generalize ats[j] = x at hd hx0;have hx : (ats.map di7)[k.toNat]? = some (di7 x) := by rw [show k.toNat = j by omega]; exact hx0
   have hk0 : 0 ≤ k := by omega
   have hk1 : k < ((ats.map di7).length : Int) := by omega
   have hl : ((ats.map di7).drop (j + 1)).reverse.length ≤ 12 := by simp at hl12 ⊢; omega
   generalize ((ats.map di7).drop (j + 1)).reverse = P at *
   cases P with
   | nil =>
    dsimp only [fB, fBO]
    repeat' (first | refine yq 8 [8,10] ?_ | refine yf 8 0 8 ?_ | refine yf 8 9 1 ?_ | refine yw ?_ | refine rgN ?_ | refine yz ?_ | refine yi (di7 x) hx ?_ | refine rgS (id := 8) (i := 8) rfl rfl rfl rfl (⟨by simp, fun d hd => by (obtain rfl := fa0.1 hd; rfl), by (show (0 + 1) * 136 ≤ 140737488355328; omega), by (show 0 + 1 ≤ 9223372036854775807; omega)⟩) (by repeat (first | exact trivial | refine ⟨⟨rfl, rfl⟩, ?_⟩ | refine ⟨trivial, ?_⟩)) ?_)
    refine ac1 ?_;refine ⟨⟨j, k - 1, by omega, by omega⟩, by dsimp only; omega, ?_⟩;dsimp only;rw [hd];exact (bi5 [0, 1, 2, 3, 4, 6])
   | cons y q =>
    dsimp only [fB, fBO]
    repeat' (first | refine yq 8 [8,10] ?_ | refine yf 8 0 8 ?_ | refine yf 8 9 1 ?_ | refine yw ?_ | refine rgN ?_ | refine yz ?_ | refine yi (di7 x) hx ?_ | refine rgS (id := 8) (i := 8) rfl rfl rfl rfl (⟨by simp, fun d hd => by (obtain rfl := fa0.1 hd; rfl), by (show ((y :: q).length + 1) * 136 ≤ 140737488355328; omega), by (show (y :: q).length + 1 ≤ 9223372036854775807; omega)⟩) (by repeat (first | exact trivial | refine ⟨⟨rfl, rfl⟩, ?_⟩ | refine ⟨trivial, ?_⟩)) ?_)
    refine ac1 ?_;refine ⟨⟨j, k - 1, by omega, by omega⟩, by dsimp only; omega, ?_⟩;dsimp only;rw [hd];exact (bi5 [0, 1, 2, 3, 4, 6])
end Go.Proofs.YtenpjlghikohmaaGreatDoor
