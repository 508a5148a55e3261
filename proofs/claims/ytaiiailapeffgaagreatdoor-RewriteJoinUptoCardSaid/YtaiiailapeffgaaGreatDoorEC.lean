/- How large the values of expressions can get; what the bound on the reading gives; The law's own small functions: Size, few, op, number; and when an evaluation is within bounds; From rows' readings to graphs, expressions and bindings; The worked examples of chapter 22; The worked examples of chapter 22: the law's own text; EvalAll: Eval and Test agree with the reference for every graph, expression and environment within the row's bound; and the chapter's examples hold; Changing the environment or the graph: a variable replaced by a constant, other bindings, graphs that are not read. Conditions: each part's own, as it says. -/
import Derived.Test.YtaiiailapeffgaaGreatDoorEA
import Derived.Test.YtaiiailapeffgaaGreatDoorGC
import Derived.Test.YtaiiailapeffgaaGreatDoorRows
import Derived.Test.YtaiiailapeffgaaGreatDoorEB
import Derived.Test.YtaiiailapeffgaaGreatDoorMC
import Derived.Test.YtaiiailapeffgaaGreatDoorCards
set_option linter.unusedVariables false
set_option linter.unusedSimpArgs false
namespace Go.Proofs.YtaiiailapeffgaaGreatDoor
set_option maxRecDepth 4000
open Go Go.Abs Go.Val Go.RowKit Go.Proofs.Tryz
theorem du5 {H : Type} {d : DataW H} {x : D} (h : az6 d x) : bj3 x ≤ Rows.uptoBulk d := by
 induction h with
 | bool b => simp only [bj3, Rows.uptoBulk]; omega
 | int k n => simp only [bj3, Rows.uptoBulk]; omega
 | str s => simp only [bj3, Rows.uptoBulk]; simp
 | nil => simp only [bj3, bj4, Rows.uptoBulk]; omega
 | sl es sp xs hl _ ih =>
  have key : ∀ (es : List (DataW H)) (xs : List D), es.length = xs.length → (∀ (i : Nat) e x, es[i]? = some e → xs[i]? = some x → bj3 x ≤ Rows.uptoBulk e) → bj4 xs ≤ Rows.uptoBulkAll es := by
   intro es
   induction es with
   | nil => intro xs hl _; cases xs with
    | nil => simp only [bj4, Rows.uptoBulkAll]; omega
    | cons _ _ => simp at hl
   | cons e r ihr => intro xs hl hi; cases xs with
    | nil => simp at hl
    | cons y q =>
     have h1 := hi 0 e y rfl rfl;have h2 := ihr q (by simpa using hl) fun i e x he hx => hi (i + 1) e x (by simpa using he) (by simpa using hx)
     simp only [bj4, Rows.uptoBulkAll];omega
  have := key es xs hl ih;simp only [bj3, Rows.uptoBulk];omega
 | agg ds parts hl _ ih =>
  have key : ∀ (es : List (DataW H)) (xs : List D), es.length = xs.length → (∀ (i : Nat) e x, es[i]? = some e → xs[i]? = some x → bj3 x ≤ Rows.uptoBulk e) → bj4 xs ≤ Rows.uptoBulkAll es := by
   intro es
   induction es with
   | nil => intro xs hl _; cases xs with
    | nil => simp only [bj4, Rows.uptoBulkAll]; omega
    | cons _ _ => simp at hl
   | cons e r ihr => intro xs hl hi; cases xs with
    | nil => simp at hl
    | cons y q =>
     have h1 := hi 0 e y rfl rfl;have h2 := ihr q (by simpa using hl) fun i e x he hx => hi (i + 1) e x (by simpa using he) (by simpa using hx)
     simp only [bj4, Rows.uptoBulkAll];omega
  have := key ds parts hl ih;simp only [bj3, bj7, Rows.uptoBulk];omega
theorem du6 {H : Type} : ∀ (ds : List (DataW H)) (xs : List D), ds.length = xs.length → (∀ (i : Nat) d x, ds[i]? = some d → xs[i]? = some x → az6 d x) → bj4 xs ≤ Rows.uptoBulkAll ds
 | [], [], _, _ => by simp only [bj4, Rows.uptoBulkAll]; omega
 | d :: r, x :: q, hl, h => by
  have h1 := du5 (h 0 d x rfl rfl);have h2 := du6 r q (by simpa using hl) fun i d x hd hx => h (i + 1) d x (by simpa using hd) (by simpa using hx)
  simp only [bj4, Rows.uptoBulkAll];omega
theorem du7 (v : V) : bj3 (enc v) = 5 + v.s.size + bj4 (kids v) := by
 simp only [enc, bj3, bj4];omega
theorem du8 (v : V) : 5 * cp0 v ≤ bj3 (enc v) := by
 refine cc2 (P := fun v => 5 * cp0 v ≤ bj3 (enc v)) (fun k n d s l ih => ?_) v;rw [du7, cp2]
 have key : ∀ l : List V, (∀ x ∈ l, 5 * cp0 x ≤ bj3 (enc x)) → 5 * cp1 l ≤ bj4 (bp7 l) := by
  intro l
  induction l with
  | nil => intro _; simp [cp1]
  | cons a r ihr =>
   intro h;have h1 := h a (by simp);have h2 := ihr fun x hx => h x (by simp [hx])
   simp only [cp1, bp7];rw [bj4];have e : bj3 (.agg [.int a.k, .int a.n, .int a.d, .str a.s, .sl (kids a)]) = bj3 (enc a) := rfl;omega
 have := key l ih;show 5 * (1 + s.size / 50 + cp1 l) ≤ 5 + s.size + bj4 (bp7 l);omega
theorem du9 {α : Type} {f : α → D} {l : List α} {x : α} (h : x ∈ l) : bj3 (f x) ≤ bj4 (l.map f) := bj8 (fr8 h)
theorem dv0 : ∀ (l : List D), (∀ x ∈ l, 1 ≤ bj3 x) → l.length ≤ bj4 l
 | [], _ => by simp
 | a :: r, h => by
  have h1 := h a (by simp);have h2 := dv0 r fun x hx => h x (by simp [hx])
  rw [bj4, fk5];omega
theorem dv1 (e : Ex) : bj3 (cy3 e) = 4 + bj3 (enc e.v) + e.nm.size + bj4 (cy1 e) := by
 rw [du7];simp only [cy3, bj3, bj4];omega
theorem dv2 (e : Ex) : 9 * nd e ≤ bj3 (cy3 e) := by
 refine cz2 (P := fun e => 9 * nd e ≤ bj3 (cy3 e)) (fun op v nm ds ks ih => ?_) e;rw [dv1, du7, dc9]
 have key : ∀ l : List Ex, (∀ x ∈ l, 9 * nd x ≤ bj3 (cy3 x)) → 9 * ndL l ≤ bj4 (cy2 l) := by
  intro l
  induction l with
  | nil => intro _; simp [ndL]
  | cons a r ihr =>
   intro h;have h1 := h a (by simp);have h2 := ihr fun x hx => h x (by simp [hx])
   simp only [ndL, cy2];rw [bj4];have e : bj3 (.agg [.int a.op, .int a.v.k, .int a.v.n, .int a.v.d, .str a.v.s, .sl (kids a.v), .str a.nm, .bool a.ds, .sl (cy1 a)]) = bj3 (cy3 a) := rfl;omega
 have := key ks ih;show 9 * (ndL ks + 1) ≤ 4 + (5 + v.s.size + bj4 (kids v)) + nm.size + bj4 (cy2 ks);omega
theorem dv3 (e : Ex) : dp e ≤ nd e := by
 refine cz2 (P := fun e => dp e ≤ nd e) (fun op v nm ds ks ih => ?_) e;rw [dd4, dc9];show dpL ks + 1 ≤ ndL ks + 1
 have key : ∀ l : List Ex, (∀ x ∈ l, dp x ≤ nd x) → dpL l ≤ ndL l := by
  intro l
  induction l with
  | nil => intro _; simp [dpL]
  | cons a r ihr =>
   intro h;have h1 := h a (by simp);have h2 := ihr fun x hx => h x (by simp [hx])
   simp only [dpL, ndL];omega
 have := key ks ih;omega
theorem dv4 (e : Ex) : 1 ≤ nd e := by rw [dc9]; omega
mutual
def cE (C : Nat) : Ex → Prop
 | .mk _ v _ _ ks => cp0 v ≤ C ∧ cEL C ks
def cEL (C : Nat) : List Ex → Prop
 | [] => True
 | x :: r => cE C x ∧ cEL C r
end
theorem dv5 (e : Ex) : ∀ C, bj3 (cy3 e) ≤ C → cE C e := by
  refine cz2 (P := fun e => ∀ C, bj3 (cy3 e) ≤ C → cE C e) (fun op v nm ds ks ih C h => ?_) e;rw [dv1] at h;have hv := du8 v;simp only [cE]
  refine ⟨by have : 5 * cp0 v ≤ bj3 (enc v) := hv
             have h' : 4 + bj3 (enc v) + nm.size + bj4 (cy2 ks) ≤ C := h;omega, ?_⟩
  have h2 : bj4 (cy2 ks) ≤ C := by
    have h' : 4 + bj3 (enc v) + nm.size + bj4 (cy2 ks) ≤ C := h;omega
  have key : ∀ l : List Ex, (∀ x ∈ l, ∀ C, bj3 (cy3 x) ≤ C → cE C x) → bj4 (cy2 l) ≤ C → cEL C l := by
    intro l
    induction l with
    | nil => intro _ _; simp only [cEL]
    | cons a r ihr =>
      intro hx hb;simp only [cy2] at hb;rw [bj4] at hb;have e : bj3 (.agg [.int a.op, .int a.v.k, .int a.v.n, .int a.v.d, .str a.v.s, .sl (kids a.v), .str a.nm, .bool a.ds, .sl (cy1 a)]) = bj3 (cy3 a) := rfl;simp only [cEL];exact ⟨hx a (by simp) C (by omega), ihr (fun x h => hx x (by simp [h])) (by omega)⟩
  exact key ks ih h2
theorem dv6 {C : Nat} : ∀ {l : List Ex}, cEL C l → ∀ x ∈ l, cE C x
 | a :: r, h, x, hx => by
  simp only [cEL] at h;rcases fl1.1 hx with rfl | hx
  ·exact h.1
  ·exact dv6 h.2 x hx
theorem dv7 {s : ByteArray} (h : s0 s = true) : s.size = 0 := by
 unfold s0 at h;have h1 : s.toList = (⟨#[]⟩ : ByteArray).toList := beq_iff_eq.1 h;rw [ByteArray.toList_eq, ByteArray.toList_eq] at h1;have h2 := congrArg List.length h1;rw [fs3] at h2;exact h2
theorem dv8 {v : V} (h : br7 v = true) : v.s.size ≤ 100 ∧ v.l = [] := by
 have l0 : v.l.length = 0 → v.l = [] := fu1;unfold br7 at h;simp only [fm4, fk3, beq_iff_eq] at h;rcases h with ((((h | h) | h) | h) | h) | h
 ·exact ⟨by have := dv7 h.1.2.1.2; omega, l0 h.1.2.2⟩
 ·exact ⟨by have := dv7 h.1.2.1.2; omega, l0 h.1.2.2⟩
 ·exact ⟨by have := dv7 h.1.2.1.2; omega, l0 h.1.2.2⟩
 ·exact ⟨by have := dv7 h.1.2.1; omega, l0 h.1.2.2⟩
 ·refine ⟨?_, l0 h.1.2.2⟩;have h5 := h.2.2;unfold br6 at h5;rw [fk3] at h5;exact of_decide_eq_true h5.2
 ·exact ⟨by have := dv7 h.1.2.1.2; omega, l0 h.1.2.2⟩
theorem dv9 : ∀ (m : Nat) (v : V), okN m v = true → v.s.size ≤ 100 := by
 intro m v h
 cases m with
 | zero =>
  simp only [okN, fm4, fk3] at h;rcases h with h | h
  ·exact (dv8 h).1
  ·have := dv7 h.1.2.2; omega
 | succ m =>
  simp only [okN, fm4, fk3] at h;rcases h with (h | h) | h
  ·exact (dv8 h).1
  ·have := dv7 h.1.2.2; omega
  ·have := dv7 h.1.2.2; omega
def sm (B : Nat) (w : V) : Prop := cp0 (giv w) ≤ B
theorem dw0 : cp0 br5 = 1 := by decide +kernel
theorem dw1 {B : Nat} {b : Bool} {x y : V} (hx : sm B x) (hy : sm B y) : sm B (bif b then x else y) := by cases b; exact hy; exact hx
theorem dw2 {B : Nat} {w : V} (h1 : 1 ≤ B) (h : cp0 w ≤ B) : sm B w := by
 unfold sm giv
 cases Val.okV w with
 | true => exact h
 | false => rw [cond_false, dw0]; exact h1
theorem dw3 {B : Nat} {w : V} (h3 : 3 ≤ B) (h : w.l = []) : sm B w := by
 unfold sm giv
 cases hv : Val.okV w with
 | true =>
  have := dv9 8 w hv;rw [cond_true, cp2, h];simp only [cp1];omega
 | false => rw [cond_false, dw0]; omega
theorem dw4 {B : Nat} {n d : Int} (h3 : 3 ≤ B) : sm B (br2 n d) := by
 refine dw3 h3 ?_;unfold br2
 cases d == 1 <;> rfl
theorem dw5 : ∀ (a b : List V), cp1 (a ++ b) = cp1 a + cp1 b
 | [], b => by simp [cp1]
 | x :: r, b => by simp only [fs4, cp1, dw5 r b]; omega
theorem dw6 (l : List V) (n : Nat) : cp1 (l.drop n) ≤ cp1 l := by
 have h := dw5 (l.take n) (l.drop n);rw [ft8] at h;omega
theorem dw7 : ∀ l : List V, cp1 (dn1 l) ≤ cp1 l
 | [] => fk9 _
 | [_] => fk9 _
 | x :: y :: r => by have := dw7 r; simp only [dn1, cp1]; omega
theorem dw8 : ∀ l : List ByteArray, ((l.map br3).all (okN 7)) = true → cp1 (l.map br3) ≤ 3 * l.length := by
 intro l
 induction l with
 | nil => intro _; simp [cp1]
 | cons s r ih =>
  intro h;rw [fl5, fn7, fk3] at h;have h1 := dv9 7 _ h.1;have h2 := ih h.2;have h4 : cp0 (br3 s) = 1 + s.size / 50 + 0 := by rw [cp2]; rfl
  have h5 : s.size ≤ 100 := h1;rw [fl5, cp1, h4, fk5];omega
theorem dw9 {l : List V} (h : Val.okV (co7 l) = true) : l.length ≤ 64 ∧ l.all (okN 7) = true := by
 have h' : okN 8 (.mk 8 0 0 ⟨#[]⟩ l) = true := h;rw [ca1] at h';simp only [fk3, decide_eq_true_eq] at h';exact ⟨h'.2.1.2, h'.2.2⟩
theorem dx0 {B : Nat} (hB : 300 ≤ B) (l : List ByteArray) : sm B (co7 (l.map br3)) := by
 unfold sm giv
 cases hv : Val.okV (co7 (l.map br3)) with
 | false => rw [cond_false, dw0]; omega
 | true =>
  rw [cond_true, cp2];obtain ⟨h2, h3⟩ := dw9 hv;have h9 := dw8 l h3;rw [fl4] at h2;have e1 : (co7 (l.map br3)).s.size = 0 := rfl;have e2 : (co7 (l.map br3)).l = l.map br3 := rfl;rw [e1, e2];omega
structure Bnd (C : Nat) (g : Gr) (env : List Bd) : Prop where
 hC : 300 ≤ C
 env : ∀ b ∈ env, cp0 b.v ≤ C
 nod : ∀ n ∈ g.nodes, ∀ p ∈ n.props, cp0 p.v ≤ C
 edg : ∀ e ∈ g.edges, ∀ p ∈ e.props, cp0 p.v ≤ C
theorem dx1 {C : Nat} (h1 : 1 ≤ C) {l : List Pr} (h : ∀ p ∈ l, cp0 p.v ≤ C) (key : ByteArray) : cp0 (cv8 l key) ≤ C := by
 unfold cv8
 cases hf : l.find? fun p => p.key.toList == key.toList with
 | none => show cp0 br5 ≤ C; rw [dw0]; exact h1
 | some p => exact h p (ft3 hf)
theorem dx2 {C : Nat} {g : Gr} {env : List Bd} (h : Bnd C g env) (a : V) (key : ByteArray) : cp0 (dp4 g a key) ≤ C := by
 have hC := h.hC;unfold dp4
 cases hb : do6 g a with
 | true =>
  rw [cond_true];refine dx1 (by omega) ?_ key;unfold do5
  cases a.k == 5 with
  | false => intro p hp; simp [nd0] at hp
  | true =>
   rw [cond_true]
   cases hf : cv6 g.nodes a.n with
   | none => intro p hp; simp [nd0] at hp
   | some n => exact h.nod n (ft3 hf)
 | false =>
  rw [cond_false]
  cases hb2 : do8 g a with
  | true =>
   rw [cond_true];refine dx1 (by omega) ?_ key;unfold do7
   cases a.k == 6 with
   | false => intro p hp; simp [ed0] at hp
   | true =>
    rw [cond_true]
    cases hf : cv7 g.edges a.n with
    | none => intro p hp; simp [ed0] at hp
    | some n => exact h.edg n (ft3 hf)
  | false => rw [cond_false, dw0]; omega
theorem dx3 {B : Nat} {b : Bool} {n d : Int} (h3 : 3 ≤ B) : sm B (dl8 b n d) := dw1 (dw4 h3) (dw3 h3 rfl)
theorem dx4 {B : Nat} {t : Int} (h3 : 3 ≤ B) : sm B (bs6 t) := by
 refine dw3 h3 ?_;unfold bs6
 cases kn t == 1 <;> rfl
theorem sm_ar {B : Nat} (op : Int) (a b : V) (h3 : 3 ≤ B) : sm B (arF op a b) := by
 have nl : sm B br5 := dw3 h3 rfl;unfold arF;exact dw1 (dw3 h3 rfl) (dw1 nl (dw1 (dx3 h3) (dw1 (dx3 h3) (dw1 (dx3 h3) (dw1 (dx3 h3) (dw1 (dw3 h3 rfl) nl))))))
theorem dx5 (l : List V) : cp0 (a0 l) ≤ 1 + cp1 l := by
 cases l with
 | nil => show cp0 br5 ≤ _; rw [dw0]; omega
 | cons a r => show cp0 a ≤ _; simp only [cp1]; omega
theorem dx6 (l : List V) : cp1 (a0 l).l ≤ cp1 l := by
 cases l with
 | nil => show cp1 br5.l ≤ _; decide +kernel
 | cons a r =>
  have := cp2 a;show cp1 a.l ≤ cp1 (a :: r);simp only [cp1];omega
theorem dx7 {l : List V} (h : l ≠ []) : l.getLastD br5 ∈ l := by
 cases l with
 | nil => exact absurd rfl h
 | cons a r => rw [List.getLastD_cons]; exact List.getLastD_mem_cons ..
theorem dx8 {B : Nat} (nm : ByteArray) (a : V) (hB : 3 ≤ B) (h : 1 + cp1 a.l ≤ B) : sm B (dn3 nm a.l) := by
 unfold dn3;refine dw1 (dw3 hB rfl) (dw2 (by omega) ?_);have h1 := dw6 a.l (bif eqS nm dm9 then 1 else 0);have h2 := dw7 (a.l.drop (bif eqS nm dm9 then 1 else 0));rw [cp2];show 1 + (⟨#[]⟩ : ByteArray).size / 50 + cp1 (dn1 (a.l.drop (bif eqS nm dm9 then 1 else 0))) ≤ B;have : (⟨#[]⟩ : ByteArray).size = 0 := rfl;omega
theorem sm_fn {B : Nat} (g : Gr) (nm : ByteArray) (l : List V) (hB : 300 ≤ B) (h : 1 + cp1 l ≤ B) : sm B (fnF g nm l) := by
 have h3 : 3 ≤ B := by omega
 have hl := dx6 l;have nl : sm B br5 := dw3 h3 rfl;have hi : ∀ n, sm B (br1 n) := fun n => dw3 h3 rfl
 have hst : ∀ s, sm B (br3 s) := fun s => dw3 h3 rfl
 have hn : ∀ n, sm B (br4 n) := fun n => dw3 h3 rfl
 have p1 : sm B (dq3 l) := by
  unfold dq3
  cases hf : l.find? fun v => v.k != 0 with
  | none => exact nl
  | some v => exact dw2 (by omega) (by have := cp4 (ft3 hf); show cp0 v ≤ B; omega)
 have p3 : sm B (absV (a0 l)) := dw1 (dw4 h3) nl;have p5 : sm B (ofE nm (do7 g (a0 l))) := dw1 (hst _) (dw1 (hn _) (hn _));have p7 : sm B (szF (a0 l)) := dw1 (hi _) (dw1 (hi _) nl)
 have p9 : sm B ((a0 l).l.headD br5) := by
  refine dw2 (by omega) ?_
  cases hh : (a0 l).l with
  | nil => show cp0 br5 ≤ B; rw [dw0]; omega
  | cons b q =>
   have : cp0 b ≤ cp1 (a0 l).l := cp4 (by rw [hh]; simp);show cp0 b ≤ B;omega
 have p10 : sm B ((a0 l).l.getLastD br5) := by
  refine dw2 (by omega) ?_
  by_cases hh : (a0 l).l = []
  ·rw [hh]; show cp0 br5 ≤ B; rw [dw0]; omega
  ·have := cp4 (dx7 hh); omega
 unfold fnF;exact dw1 p1 (dw1 (dw1 (hi _) nl) (dw1 p3 (dw1 (dw1 (hst _) nl) (dw1 (dw1 p5 nl) (dw1 (dw1 (dx0 hB _) nl) (dw1 p7 (dw1 (dw1 (dx8 nm (a0 l) h3 (by omega)) nl) (dw1 (dw1 (dw1 p9 p10) nl) nl))))))))
theorem sm_ap {C B : Nat} {g : Gr} {env : List Bd} (hb : Bnd C g env) (op : Int) (v : V) (nm : ByteArray) (l : List V) (hv : cp0 v ≤ C) (hC : C ≤ B) (hl : 1 + cp1 l ≤ B) : sm B (apF g env op v nm l) := by
 have h300 := hb.hC;have h3 : 3 ≤ B := by omega
 have nl : sm B br5 := dw3 h3 rfl;have hbo : ∀ b, sm B (br0 b) := fun b => dw3 h3 rfl
 have pv : sm B (do3 env nm) := by
  refine dw2 (by omega) ?_;unfold do3
  cases hf : env.find? fun b => b.name.toList == nm.toList with
  | none => show cp0 br5 ≤ B; rw [dw0]; omega
  | some b => have := hb.env b (ft3 hf); show cp0 b.v ≤ B; omega
 have pp : sm B (dp4 g (a0 l) nm) := dw2 (by omega) (by have := dx2 hb (a0 l) nm; omega)
 have pl : sm B (co7 l) := by
  refine dw2 (by omega) ?_;rw [cp2];have e1 : (co7 l).s.size = 0 := rfl;have e2 : (co7 l).l = l := rfl;rw [e1, e2];omega
 unfold apF;exact dw1 (dw2 (by omega) (by omega)) (dw1 pv (dw1 pp (dw1 (dw1 (hbo _) nl) (dw1 (dx4 h3) (dw1 (dx4 h3) (dw1 (dx4 h3) (dw1 (dw1 (dw4 h3) nl) (dw1 (sm_ar _ _ _ h3) (dw1 (hbo _) (dw1 pl (dw1 (sm_fn g nm l (by omega) hl) (dw1 nl (dx4 h3)))))))))))))
theorem dx9 {C : Nat} {g : Gr} {env : List Bd} (hb : Bnd C g env) (e : Ex) : cE C e → cp0 (evF g env e) ≤ nd e * C := by
 refine cz2 (P := fun e => cE C e → cp0 (evF g env e) ≤ nd e * C) (fun op v nm ds ks ih hc => ?_) e;simp only [cE] at hc;have h300 := hb.hC
 have key : ∀ l : List Ex, (∀ x ∈ l, cE C x → cp0 (evF g env x) ≤ nd x * C) → cEL C l → cp1 (evL g env l) ≤ ndL l * C := by
  intro l
  induction l with
  | nil => intro _ _; simp [evL, cp1]
  | cons a r ihr =>
   intro hx h;simp only [cEL] at h;have h1 := hx a (by simp) h.1;have h2 := ihr (fun x hm => hx x (by simp [hm])) h.2;simp only [evL, cp1, ndL, fo6];omega
 have h1 := key ks ih hc.2;rw [dc9];show cp0 (evF g env (.mk op v nm ds ks)) ≤ (ndL ks + 1) * C;simp only [evF];refine sm_ap (B := (ndL ks + 1) * C) hb op v nm (evL g env ks) hc.1 ?_ ?_
 ·rw [fo6]; omega
 ·rw [fo6]; omega
theorem dy0 {w : Bool} : ∀ {l : List Ex}, dh6 l w = 0 → ∀ x ∈ l, dh5 x w = 0
 | a :: r, h, x, hx => by
  rw [dh6] at h
  cases hc : dh5 a w != 0 with
  | true => rw [hc, cond_true] at h; rw [h] at hc; cases hc
  | false =>
   rw [hc, cond_false] at h;rcases fl1.1 hx with rfl | hx
   ·simpa using hc
   ·exact dy0 h x hx
theorem dy1 {e : Ex} {w : Bool} (h : dh5 e w = 0) : dh4 e w = 0 := by
 cases hc : dh4 e w != 0 with
 | true => have := dh9 rfl hc; rw [h] at this; rw [this] at hc; cases hc
 | false => simpa using hc
theorem dy2 {e : Ex} {w : Bool} (h : dh4 e w = 0) : shp e.op e.ks.length := by
 have hk : kn0 e = (e.ks.length : Int) := by unfold kn0; rw [cy8]
 unfold dh4 at h
 cases c1 : (decide (e.op < 1) || decide (e.op > 24)) || (!db9 e || !dc5 e) with
 | true => rw [c1] at h; simp at h
 | false =>
  rw [c1, cond_false] at h;simp only [Bool.or_eq_false_iff, decide_eq_false_iff_not, Bool.not_eq_false'] at c1;obtain ⟨⟨o1, o2⟩, hop, -⟩ := c1
  cases c2 : (e.op == 1 && !dc7 e.v) with
  | true => rw [c2] at h; simp at h
  | false =>
   rw [c2, cond_false] at h
   cases c3 : nlF e with
   | true => rw [c3] at h; simp at h
   | false =>
    unfold db9 at hop;rw [hk] at hop;refine ⟨⟨by omega, by omega⟩, fun ho => ?_, fun ho => ?_, fun ho => ?_⟩
    ·rcases ho with ho | ho | ho | ho | ho <;> rw [ho] at hop <;> simp at hop <;> omega
    ·have : e.op = 7 ∨ e.op = 8 ∨ e.op = 9 ∨ e.op = 10 ∨ e.op = 11 ∨ e.op = 12 ∨ e.op = 13 ∨ e.op = 14 ∨ e.op = 15 ∨ e.op = 16 ∨ e.op = 17 ∨ e.op = 18 ∨ e.op = 19 ∨ e.op = 20 := by omega
     rcases this with ho | ho | ho | ho | ho | ho | ho | ho | ho | ho | ho | ho | ho | ho <;> rw [ho] at hop <;> simp at hop <;> omega
    ·rw [ho] at hop;unfold nlF at c3;rw [ho] at c3;simp at hop c3
     have hlo : da9 e.nm = 1 ∨ da9 e.nm = 2 ∨ da9 e.nm = 0 := by
      unfold da9
      cases da7 e.nm <;> cases da8 e.nm <;> simp
     rcases hop with hop | hop
     ·exact absurd hop c3
     ·omega
theorem dy3 {C : Nat} {g : Gr} {env : List Bd} (hb : Bnd C g env) (hC : C ≤ 1048576) (e : Ex) : ∀ w, dh5 e w = 0 → nd e ≤ 1000 → cE C e → okE g env e := by
 refine cz2 (P := fun e => ∀ w, dh5 e w = 0 → nd e ≤ 1000 → cE C e → okE g env e) (fun op v nm ds ks ih w hv hn hc => ?_) e;have hs := dy1 hv;have hsh := dy2 hs;have hk := dh8 hs;rw [hv] at hk;have hz := dy0 hk.symm;rw [dc9] at hn;have hn' : ndL ks + 1 ≤ 1000 := hn;have hkc : cEL C ks := by simp only [cE] at hc; exact hc.2
 have hlen : ks.length ≤ ndL ks := by
  have : ∀ l : List Ex, l.length ≤ ndL l := by
   intro l
   induction l with
   | nil => simp
   | cons a r ihr => have := dv4 a; simp only [fk5, ndL]; omega
  exact this ks
 simp only [okE];refine ⟨hsh, by omega, fun _ _ => ?_, ?_⟩
 ·have h1 : cp0 (a0 (evL g env ks)) ≤ 1 + ndL ks * C := by
   have h2 := dx5 (evL g env ks)
   have key : ∀ l : List Ex, cEL C l → cp1 (evL g env l) ≤ ndL l * C := by
    intro l
    induction l with
    | nil => intro _; simp [evL, cp1]
    | cons a r ihr =>
     intro h;simp only [cEL] at h;have h1 := dx9 hb a h.1;have h2 := ihr h.2;simp only [evL, cp1, ndL, fo6];omega
   have := key ks hkc;omega
  have h2 := cp9 (a0 (evL g env ks));have h3 : ndL ks * C ≤ 1000 * 1048576 := Nat.mul_le_mul (by omega) hC;omega
 ·have key : ∀ l : List Ex, (∀ x ∈ l, x ∈ ks) → ndL l ≤ 999 → dt7 g env l := by
   intro l
   induction l with
   | nil => intro _ _; simp only [dt7]
   | cons a r ihr =>
    intro hm hnl;simp only [ndL] at hnl;simp only [dt7];exact ⟨ih a (hm a (by simp)) _ (hz a (hm a (by simp))) (by omega) (dv6 hkc a (hm a (by simp))), ihr (fun x hx => hm x (by simp [hx])) (by omega)⟩
  exact key ks (fun _ h => h) (by omega)
end Go.Proofs.YtaiiailapeffgaaGreatDoor
namespace Go.Proofs.YtaiiailapeffgaaGreatDoor
set_option maxRecDepth 4000
open Go Go.Abs Go.Val Go.RowKit Go.Proofs.Tryz
attribute [local irreducible] go SGo an2 Ev aw0 EvO EvS binOp RGo
def dy4 (n : Int) : Ex := .mk 1 (br1 n) ⟨#[]⟩ false []
def opE (k : Int) (a b : Ex) : Ex := .mk k br5 ⟨#[]⟩ false [a, b]
mutual
def szE : Ex → Int
 | .mk _ _ _ _ ks => szL ks 1
def szL : List Ex → Int → Int
 | [], n => n
 | x :: r, n => bif decide (n ≤ 1000) then szL r (n + szE x) else n
end
theorem dy5 : ∀ (l : List Ex), (∀ x ∈ l, 1 ≤ szE x ∧ szE x ≤ nd x) → ∀ n, n ≤ szL l n ∧ szL l n ≤ n + ndL l
 | [], _, n => by simp [szL, ndL]
 | x :: r, h, n => by
  have h1 := h x (by simp);have h2 := dy5 r (fun y hy => h y (by simp [hy])) (n + szE x);rw [szL, ndL]
  cases decide (n ≤ 1000) with
  | true => rw [cond_true]; omega
  | false => rw [cond_false]; omega
theorem dy6 (e : Ex) : 1 ≤ szE e ∧ szE e ≤ nd e := by
 refine cz2 (P := fun e => 1 ≤ szE e ∧ szE e ≤ nd e) (fun op v nm ds ks ih => ?_) e;have := dy5 ks ih 1;rw [szE, dc9];show _ ∧ szL ks 1 ≤ ((ndL ks + 1 : Nat) : Int);omega
theorem dy7 : ∀ (l : List Ex), (∀ x ∈ l, szE x ≤ 1000 → szE x = nd x) → ∀ n, 0 ≤ n → szL l n ≤ 1000 → szL l n = n + ndL l
 | [], _, n, _, _ => by simp [szL, ndL]
 | x :: r, h, n, hn, hle => by
  have h0 := dy6 x;rw [szL] at hle ⊢;rw [ndL]
  cases hd : decide (n ≤ 1000) with
  | true =>
   rw [hd, cond_true] at hle;rw [cond_true];have h2 := (dy5 r (fun y _ => dy6 y) (n + szE x)).1;have h1 := h x (by simp) (by omega);rw [dy7 r (fun y hy => h y (by simp [hy])) (n + szE x) (by omega) hle];omega
  | false =>
   rw [hd, cond_false] at hle;have := of_decide_eq_false hd;omega
theorem dy8 (e : Ex) : szE e ≤ 1000 → szE e = nd e := by
 refine cz2 (P := fun e => szE e ≤ 1000 → szE e = nd e) (fun op v nm ds ks ih h => ?_) e;rw [szE] at h ⊢;rw [dy7 ks ih 1 (by omega) h, dc9];show _ = ((ndL ks + 1 : Nat) : Int);omega
structure SSz (l : List Ex) (m : Int) where
 i : Nat
 n : Int
 hi : i ≤ l.length
 h1 : 1 ≤ n
 h2 : n + ndL (l.drop i) ≤ m
 ok : szL l 1 = szL (l.drop i) n
theorem dy9 {l : List Ex} {i : Nat} {x : Ex} {n : Int} (h : l[i]? = some x) : szL (l.drop i) n = bif decide (n ≤ 1000) then szL (l.drop (i + 1)) (n + szE x) else n := by
 rw [bz3 h, szL]
theorem dz0 (p : Pr) : bj3 (cu7 p) = 1 + p.key.size + bj3 (enc p.v) := by
 rw [du7];simp only [cu7, bj3, bj4];omega
theorem dz1 (n : Nd) : bj3 (cu8 n) = 3 + bj4 (n.labels.map .str) + bj4 (n.props.map cu7) := by
 simp only [cu8, bj3, bj4];omega
theorem dz2 (e : Ed) : bj3 (cu9 e) = 5 + e.ty.size + bj4 (e.props.map cu7) := by
 simp only [cu9, bj3, bj4];omega
theorem dz3 (g : Gr) : bj3 (cv0 g) = 4 + bj4 (g.nodes.map cu8) + bj4 (g.edges.map cu9) := by
 simp only [cv0, bj3, bj4];omega
theorem dz4 {α : Type} {f : α → D} (l : List α) (h : ∀ x, 1 ≤ bj3 (f x)) : l.length ≤ bj4 (l.map f) := by
 have := dv0 (l.map f) fun x hx => by obtain ⟨y, -, rfl⟩ := fo8.1 hx; exact h y
 rwa [fl4] at this
theorem dz5 {l : List Pr} {B : Nat} (hB : B ≤ 1048576) (h : bj4 (l.map cu7) ≤ B) : cx6 l ∧ ∀ p ∈ l, cp0 p.v ≤ B := by
 have h1 := dz4 (f := cu7) l fun p => by rw [dz0]; omega
 have h2 : ∀ p ∈ l, 5 * cp0 p.v ≤ B := fun p hp => by
  have h3 := du9 (f := cu7) hp;have h4 := du8 p.v;rw [dz0] at h3;omega
 exact ⟨⟨by omega, fun p hp => cp5 p.v (by have := h2 p hp; omega)⟩, fun p hp => by have := h2 p hp; omega⟩
theorem dz6 {g : Gr} (h : bj3 (cv0 g) ≤ 1048576) : do2 g ∧ (∀ n ∈ g.nodes, ∀ p ∈ n.props, cp0 p.v ≤ 1048576) ∧ ∀ e ∈ g.edges, ∀ p ∈ e.props, cp0 p.v ≤ 1048576 := by
 rw [dz3] at h;have hn : ∀ n ∈ g.nodes, bj3 (cu8 n) ≤ 1048576 := fun n hm => by have := du9 (f := cu8) hm; omega
 have he : ∀ e ∈ g.edges, bj3 (cu9 e) ≤ 1048576 := fun n hm => by have := du9 (f := cu9) hm; omega
 have hnp : ∀ n ∈ g.nodes, bj4 (n.props.map cu7) ≤ 1048576 := fun n hm => by have := hn n hm; rw [dz1] at this; omega
 have hep : ∀ e ∈ g.edges, bj4 (e.props.map cu7) ≤ 1048576 := fun n hm => by have := he n hm; rw [dz2] at this; omega
 refine ⟨⟨fun n hm => ⟨?_, (dz5 (fk9 _) (hnp n hm)).1⟩, fun e hm => (dz5 (fk9 _) (hep e hm)).1⟩, fun n hm => (dz5 (fk9 _) (hnp n hm)).2, fun e hm => (dz5 (fk9 _) (hep e hm)).2⟩;have h1 := dz4 (f := D.str) n.labels fun s => by simp only [bj3]; omega
 have h2 := hn n hm;rw [dz1] at h2;omega
theorem dz7 {e : Ex} (h : di3 e = 0) : dh5 e false = 0 := by
 unfold di3 at h
 cases h1 : decide (dp e > 24) with
 | true => rw [h1] at h; simp at h
 | false =>
  rw [h1, cond_false] at h
  cases h2 : decide (nd e > 300) with
  | true => rw [h2] at h; simp at h
  | false => rw [h2, cond_false] at h; exact h
theorem dz8 {g : Gr} {env : List Bd} {e : Ex} (h1 : bj3 (cv0 g) ≤ 1048576) (h2 : env.length ≤ 2000000) (h3 : ∀ b ∈ env, cp0 b.v ≤ 1048576) (h4 : cE 1048576 e) (hn : nd e ≤ 1000) : EvOK g env e := by
 obtain ⟨g1, g2, g3⟩ := dz6 h1;have := dv3 e;exact ⟨g1, h2, by omega, by omega, fun hc => dy3 (C := 1048576) ⟨by omega, h3, g2, g3⟩ (fk9 _) e false (dz7 hc) hn h4⟩
end Go.Proofs.YtaiiailapeffgaaGreatDoor
namespace Go.Proofs.YtaiiailapeffgaaGreatDoor
set_option maxRecDepth 4000
open Go Go.Abs Go.Val Go.RowKit Go.ChangeShapes Go.WideShapes Go.Proofs.Tryz
theorem ty_E : ∀ {t : TypeId} {x : D}, az5 Tryz.prog t x → (t = 27 → ∃ v, x = cy3 v) ∧ (t = 25 → ∃ l, x = .sl (cy2 l)) := by
 intro t x h
 induction h with
 | bool b h => exact ⟨fun e => (by subst e; rw [underlying27] at h; cases h), fun e => (by subst e; rw [underlying25] at h; cases h)⟩
 | int n h => exact ⟨fun e => (by subst e; rw [underlying27] at h; cases h), fun e => (by subst e; rw [underlying25] at h; cases h)⟩
 | str s h => exact ⟨fun e => (by subst e; rw [underlying27] at h; cases h), fun e => (by subst e; rw [underlying25] at h; cases h)⟩
 | arr ps h _ _ => exact ⟨fun e => (by subst e; rw [underlying27] at h; cases h), fun e => (by subst e; rw [underlying25] at h; cases h)⟩
 | sl xs h hx ih =>
  refine ⟨fun e => (by subst e; rw [underlying27] at h; cases h), fun e => ?_⟩;subst e;rw [underlying25] at h
  cases h
  have : ∀ ys : List D, (∀ y ∈ ys, ∃ v, y = cy3 v) → ∃ l, ys = cy2 l := by
   intro ys
   induction ys with
   | nil => exact fun _ => ⟨[], by simp [cy2]⟩
   | cons y r ihr =>
    intro hy;obtain ⟨v, rfl⟩ := hy y (by simp);obtain ⟨l, rfl⟩ := ihr fun z hz => hy z (by simp [hz])
    exact ⟨v :: l, by simp [cy2, cy3]⟩
  obtain ⟨l, rfl⟩ := this xs fun y hy => (ih y hy).1 rfl
  exact ⟨l, rfl⟩
 | struct parts h hl hp ih =>
  refine ⟨fun e => ?_, fun e => (by subst e; rw [underlying25] at h; cases h)⟩;subst e;rw [underlying27] at h
  cases h
  match parts, hl with
  | [p0, p1, p2, p3, p4], _ =>
   obtain ⟨k, rfl⟩ := az5.int_inv underlying3 (hp 0 _ p0 rfl rfl);obtain ⟨v, rfl⟩ := co9 (hp 1 _ p1 rfl rfl);obtain ⟨s, rfl⟩ := az5.str_inv underlying9 (hp 2 _ p2 rfl rfl);obtain ⟨b, rfl⟩ := az5.bool_inv underlying4 (hp 3 _ p3 rfl rfl);obtain ⟨l, rfl⟩ := (ih 4 _ p4 rfl rfl).2 rfl;exact ⟨.mk k v s b l, rfl⟩
theorem dz9 {x : D} (h : az5 Tryz.prog 27 x) : ∃ v, x = cy3 v := (ty_E h).1 rfl
def tys2 : List TypeId := [3, 9, 4, 29, 22, 24, 25, 27, 270, 162, 241, 118, 169, 81, 164, 82, 84]
theorem tys2_ok : az8 Tryz.prog tys2 = true := by kernel_rfl
end Go.Proofs.YtaiiailapeffgaaGreatDoor
namespace Go.Proofs.YtaiiailapeffgaaGreatDoor
set_option maxRecDepth 4000
open Go Go.Abs Go.Val Go.RowKit Go.Proofs.Tryz
attribute [local irreducible] go SGo an2 Ev aw0 EvO EvS binOp RGo
def g0 : Gr := ⟨[], [], 0, 0⟩
def nullE : Ex := .mk 1 br5 ⟨#[]⟩ false []
def strA : Ex := .mk 1 (br3 ⟨#[97]⟩) ⟨#[]⟩ false []
def ea0 : Ex := .mk 22 br5 ⟨#[]⟩ false [dy4 1, nullE]
theorem w1 : du2 g0 [] (opE 10 (dy4 7) (dy4 2)) = .mk 3 7 2 ⟨#[]⟩ [] := by kernel_rfl
theorem w2 : du2 g0 [] (opE 10 (dy4 6) (dy4 2)) = .mk 2 3 0 ⟨#[]⟩ [] := by kernel_rfl
theorem w3 : du2 g0 [] (opE 7 strA strA) = .mk 4 0 0 ⟨#[97, 97]⟩ [] := by kernel_rfl
theorem w4 : du2 g0 [] (opE 20 (dy4 1) ea0) = .mk 1 1 0 ⟨#[]⟩ [] := by kernel_rfl
theorem w5 : du2 g0 [] (opE 10 (dy4 1) (dy4 0)) = .mk 0 0 0 ⟨#[]⟩ [] := by kernel_rfl
theorem x1 : bs5 (du2 g0 [] (opE 20 (dy4 2) ea0)) = 1 := by kernel_rfl
theorem x2 : bs5 (du2 g0 [] (opE 14 (dy4 1) strA)) = 1 := by kernel_rfl
theorem x3 : bs5 (du2 g0 [] (opE 12 (dy4 1) strA)) = 0 := by kernel_rfl
end Go.Proofs.YtaiiailapeffgaaGreatDoor
namespace Go.Proofs.YtaiiailapeffgaaGreatDoor
set_option maxRecDepth 4000
open Go Go.Abs Go.Val Go.RowKit Go.ChangeShapes Go.WideShapes Go.Proofs.Tryz
attribute [local irreducible] go SGo an2 Ev aw0 EvO EvS
theorem ea1 (v : V) : bs5 v = 0 ∨ bs5 v = 1 ∨ bs5 v = 2 := by
 unfold bs5 tt
 cases v.k == 1 && Val.okV v with
 | false => exact .inr (.inl rfl)
 | true => cases v.n == 1 <;> simp
end Go.Proofs.YtaiiailapeffgaaGreatDoor
