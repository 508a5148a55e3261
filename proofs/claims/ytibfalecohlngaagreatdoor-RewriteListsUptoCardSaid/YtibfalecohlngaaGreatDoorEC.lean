/- How large the values of expressions can get; what the bound on the reading gives; The law's own small functions: Size, few, op, number; and when an evaluation is within bounds; From rows' readings to graphs, expressions and bindings; The worked examples of chapter 22; The worked examples of chapter 22: the law's own text; EvalAll: Eval and Test agree with the reference for every graph, expression and environment within the row's bound; and the chapter's examples hold; Changing the environment or the graph: a variable replaced by a constant, other bindings, graphs that are not read. Conditions: each part's own, as it says. -/
import Derived.Test.YtibfalecohlngaaGreatDoorEA
import Derived.Test.YtibfalecohlngaaGreatDoorGC
import Derived.Test.YtibfalecohlngaaGreatDoorRows
import Derived.Test.YtibfalecohlngaaGreatDoorEB
import Derived.Test.YtibfalecohlngaaGreatDoorMC
import Derived.Test.YtibfalecohlngaaGreatDoorCards
set_option linter.unusedVariables false
set_option linter.unusedSimpArgs false
namespace Go.Proofs.YtibfalecohlngaaGreatDoor
set_option maxRecDepth 4000
open Go Go.Abs Go.Val Go.RowKit Go.Proofs.Tryz
theorem ee0 {H : Type} {d : DataW H} {x : D} (h : az6 d x) : bj2 x ≤ Rows.uptoBulk d := by
 induction h with
 | bool b => simp only [bj2, Rows.uptoBulk]; omega
 | int k n => simp only [bj2, Rows.uptoBulk]; omega
 | str s => simp only [bj2, Rows.uptoBulk]; simp
 | nil => simp only [bj2, bj3, Rows.uptoBulk]; omega
 | sl es sp xs hl _ ih =>
  have key : ∀ (es : List (DataW H)) (xs : List D), es.length = xs.length → (∀ (i : Nat) e x, es[i]? = some e → xs[i]? = some x → bj2 x ≤ Rows.uptoBulk e) → bj3 xs ≤ Rows.uptoBulkAll es := by
   intro es
   induction es with
   | nil => intro xs hl _; cases xs with
    | nil => simp only [bj3, Rows.uptoBulkAll]; omega
    | cons _ _ => simp at hl
   | cons e r ihr => intro xs hl hi; cases xs with
    | nil => simp at hl
    | cons y q =>
     have h1 := hi 0 e y rfl rfl;have h2 := ihr q (by simpa using hl) fun i e x he hx => hi (i + 1) e x (by simpa using he) (by simpa using hx)
     simp only [bj3, Rows.uptoBulkAll];omega
  have := key es xs hl ih;simp only [bj2, Rows.uptoBulk];omega
 | agg ds parts hl _ ih =>
  have key : ∀ (es : List (DataW H)) (xs : List D), es.length = xs.length → (∀ (i : Nat) e x, es[i]? = some e → xs[i]? = some x → bj2 x ≤ Rows.uptoBulk e) → bj3 xs ≤ Rows.uptoBulkAll es := by
   intro es
   induction es with
   | nil => intro xs hl _; cases xs with
    | nil => simp only [bj3, Rows.uptoBulkAll]; omega
    | cons _ _ => simp at hl
   | cons e r ihr => intro xs hl hi; cases xs with
    | nil => simp at hl
    | cons y q =>
     have h1 := hi 0 e y rfl rfl;have h2 := ihr q (by simpa using hl) fun i e x he hx => hi (i + 1) e x (by simpa using he) (by simpa using hx)
     simp only [bj3, Rows.uptoBulkAll];omega
  have := key ds parts hl ih;simp only [bj2, bj6, Rows.uptoBulk];omega
theorem ee1 {H : Type} : ∀ (ds : List (DataW H)) (xs : List D), ds.length = xs.length → (∀ (i : Nat) d x, ds[i]? = some d → xs[i]? = some x → az6 d x) → bj3 xs ≤ Rows.uptoBulkAll ds
 | [], [], _, _ => by simp only [bj3, Rows.uptoBulkAll]; omega
 | d :: r, x :: q, hl, h => by
  have h1 := ee0 (h 0 d x rfl rfl);have h2 := ee1 r q (by simpa using hl) fun i d x hd hx => h (i + 1) d x (by simpa using hd) (by simpa using hx)
  simp only [bj3, Rows.uptoBulkAll];omega
theorem ee2 (v : V) : bj2 (enc v) = 5 + v.s.size + bj3 (kids v) := by
 simp only [enc, bj2, bj3];omega
theorem ee3 (v : V) : 5 * cu8 v ≤ bj2 (enc v) := by
 refine cg5 (P := fun v => 5 * cu8 v ≤ bj2 (enc v)) (fun k n d s l ih => ?_) v;rw [ee2, cv0]
 have key : ∀ l : List V, (∀ x ∈ l, 5 * cu8 x ≤ bj2 (enc x)) → 5 * cu9 l ≤ bj3 (bo1 l) := by
  intro l
  induction l with
  | nil => intro _; simp [cu9]
  | cons a r ihr =>
   intro h;have h1 := h a (by simp);have h2 := ihr fun x hx => h x (by simp [hx])
   simp only [cu9, bo1];rw [bj3];have e : bj2 (.agg [.int a.k, .int a.n, .int a.d, .str a.s, .sl (kids a)]) = bj2 (enc a) := rfl;omega
 have := key l ih;show 5 * (1 + s.size / 50 + cu9 l) ≤ 5 + s.size + bj3 (bo1 l);omega
theorem ee4 {α : Type} {f : α → D} {l : List α} {x : α} (h : x ∈ l) : bj2 (f x) ≤ bj3 (l.map f) := bj7 (fn2 h)
theorem ee5 : ∀ (l : List D), (∀ x ∈ l, 1 ≤ bj2 x) → l.length ≤ bj3 l
 | [], _ => by simp
 | a :: r, h => by
  have h1 := h a (by simp);have h2 := ee5 r fun x hx => h x (by simp [hx])
  rw [bj3, fh9];omega
theorem ee6 (e : Ex) : bj2 (dg0 e) = 4 + bj2 (enc e.v) + e.nm.size + bj3 (df8 e) := by
 rw [ee2];simp only [dg0, bj2, bj3];omega
theorem ee7 (e : Ex) : 9 * nd e ≤ bj2 (dg0 e) := by
 refine dg9 (P := fun e => 9 * nd e ≤ bj2 (dg0 e)) (fun op v nm ds ks ih => ?_) e;rw [ee6, ee2, dk6]
 have key : ∀ l : List Ex, (∀ x ∈ l, 9 * nd x ≤ bj2 (dg0 x)) → 9 * ndL l ≤ bj3 (df9 l) := by
  intro l
  induction l with
  | nil => intro _; simp [ndL]
  | cons a r ihr =>
   intro h;have h1 := h a (by simp);have h2 := ihr fun x hx => h x (by simp [hx])
   simp only [ndL, df9];rw [bj3];have e : bj2 (.agg [.int a.op, .int a.v.k, .int a.v.n, .int a.v.d, .str a.v.s, .sl (kids a.v), .str a.nm, .bool a.ds, .sl (df8 a)]) = bj2 (dg0 a) := rfl;omega
 have := key ks ih;show 9 * (ndL ks + 1) ≤ 4 + (5 + v.s.size + bj3 (kids v)) + nm.size + bj3 (df9 ks);omega
theorem ee8 (e : Ex) : dp e ≤ nd e := by
 refine dg9 (P := fun e => dp e ≤ nd e) (fun op v nm ds ks ih => ?_) e;rw [dl1, dk6];show dpL ks + 1 ≤ ndL ks + 1
 have key : ∀ l : List Ex, (∀ x ∈ l, dp x ≤ nd x) → dpL l ≤ ndL l := by
  intro l
  induction l with
  | nil => intro _; simp [dpL]
  | cons a r ihr =>
   intro h;have h1 := h a (by simp);have h2 := ihr fun x hx => h x (by simp [hx])
   simp only [dpL, ndL];omega
 have := key ks ih;omega
theorem ee9 (e : Ex) : 1 ≤ nd e := by rw [dk6]; omega
mutual
def cE (C : Nat) : Ex → Prop
 | .mk _ v _ _ ks => cu8 v ≤ C ∧ cEL C ks
def cEL (C : Nat) : List Ex → Prop
 | [] => True
 | x :: r => cE C x ∧ cEL C r
end
theorem ef0 (e : Ex) : ∀ C, bj2 (dg0 e) ≤ C → cE C e := by
  refine dg9 (P := fun e => ∀ C, bj2 (dg0 e) ≤ C → cE C e) (fun op v nm ds ks ih C h => ?_) e;rw [ee6] at h;have hv := ee3 v;simp only [cE]
  refine ⟨by have : 5 * cu8 v ≤ bj2 (enc v) := hv
             have h' : 4 + bj2 (enc v) + nm.size + bj3 (df9 ks) ≤ C := h;omega, ?_⟩
  have h2 : bj3 (df9 ks) ≤ C := by
    have h' : 4 + bj2 (enc v) + nm.size + bj3 (df9 ks) ≤ C := h;omega
  have key : ∀ l : List Ex, (∀ x ∈ l, ∀ C, bj2 (dg0 x) ≤ C → cE C x) → bj3 (df9 l) ≤ C → cEL C l := by
    intro l
    induction l with
    | nil => intro _ _; simp only [cEL]
    | cons a r ihr =>
      intro hx hb;simp only [df9] at hb;rw [bj3] at hb;have e : bj2 (.agg [.int a.op, .int a.v.k, .int a.v.n, .int a.v.d, .str a.v.s, .sl (kids a.v), .str a.nm, .bool a.ds, .sl (df8 a)]) = bj2 (dg0 a) := rfl;simp only [cEL];exact ⟨hx a (by simp) C (by omega), ihr (fun x h => hx x (by simp [h])) (by omega)⟩
  exact key ks ih h2
theorem ef1 {C : Nat} : ∀ {l : List Ex}, cEL C l → ∀ x ∈ l, cE C x
 | a :: r, h, x, hx => by
  simp only [cEL] at h;rcases fh7.1 hx with rfl | hx
  ·exact h.1
  ·exact ef1 h.2 x hx
theorem ef2 {s : ByteArray} (h : s0 s = true) : s.size = 0 := by
 unfold s0 at h;have h1 : s.toList = (⟨#[]⟩ : ByteArray).toList := beq_iff_eq.1 h;rw [ByteArray.toList_eq, ByteArray.toList_eq] at h1;have h2 := congrArg List.length h1;rw [fo6] at h2;exact h2
theorem ef3 {v : V} (h : bq1 v = true) : v.s.size ≤ 100 ∧ v.l = [] := by
 have l0 : v.l.length = 0 → v.l = [] := fp7;unfold bq1 at h;simp only [fi1, fg6, beq_iff_eq] at h;rcases h with ((((h | h) | h) | h) | h) | h
 ·exact ⟨by have := ef2 h.1.2.1.2; omega, l0 h.1.2.2⟩
 ·exact ⟨by have := ef2 h.1.2.1.2; omega, l0 h.1.2.2⟩
 ·exact ⟨by have := ef2 h.1.2.1.2; omega, l0 h.1.2.2⟩
 ·exact ⟨by have := ef2 h.1.2.1; omega, l0 h.1.2.2⟩
 ·refine ⟨?_, l0 h.1.2.2⟩;have h5 := h.2.2;unfold bq0 at h5;rw [fg6] at h5;exact of_decide_eq_true h5.2
 ·exact ⟨by have := ef2 h.1.2.1.2; omega, l0 h.1.2.2⟩
theorem ef4 : ∀ (m : Nat) (v : V), okN m v = true → v.s.size ≤ 100 := by
 intro m v h
 cases m with
 | zero =>
  simp only [okN, fi1, fg6] at h;rcases h with h | h
  ·exact (ef3 h).1
  ·have := ef2 h.1.2.2; omega
 | succ m =>
  simp only [okN, fi1, fg6] at h;rcases h with (h | h) | h
  ·exact (ef3 h).1
  ·have := ef2 h.1.2.2; omega
  ·have := ef2 h.1.2.2; omega
def sm (B : Nat) (w : V) : Prop := cu8 (giv w) ≤ B
theorem ef5 : cu8 bp9 = 1 := by decide +kernel
theorem ef6 {B : Nat} {b : Bool} {x y : V} (hx : sm B x) (hy : sm B y) : sm B (bif b then x else y) := by cases b; exact hy; exact hx
theorem ef7 {B : Nat} {w : V} (h1 : 1 ≤ B) (h : cu8 w ≤ B) : sm B w := by
 unfold sm giv
 cases Val.okV w with
 | true => exact h
 | false => rw [cond_false, ef5]; exact h1
theorem ef8 {B : Nat} {w : V} (h3 : 3 ≤ B) (h : w.l = []) : sm B w := by
 unfold sm giv
 cases hv : Val.okV w with
 | true =>
  have := ef4 8 w hv;rw [cond_true, cv0, h];simp only [cu9];omega
 | false => rw [cond_false, ef5]; omega
theorem ef9 {B : Nat} {n d : Int} (h3 : 3 ≤ B) : sm B (bp6 n d) := by
 refine ef8 h3 ?_;unfold bp6
 cases d == 1 <;> rfl
theorem eg0 : ∀ (a b : List V), cu9 (a ++ b) = cu9 a + cu9 b
 | [], b => by simp [cu9]
 | x :: r, b => by simp only [fp4, cu9, eg0 r b]; omega
theorem eg1 (l : List V) (n : Nat) : cu9 (l.drop n) ≤ cu9 l := by
 have h := eg0 (l.take n) (l.drop n);rw [List.take_append_drop] at h;omega
theorem eg2 : ∀ l : List V, cu9 (dt3 l) ≤ cu9 l
 | [] => fh5 _
 | [_] => fh5 _
 | x :: y :: r => by have := eg2 r; simp only [dt3, cu9]; omega
theorem eg3 : ∀ l : List ByteArray, ((l.map bp7).all (okN 7)) = true → cu9 (l.map bp7) ≤ 3 * l.length := by
 intro l
 induction l with
 | nil => intro _; simp [cu9]
 | cons s r ih =>
  intro h;rw [fj0, fk0, fg6] at h;have h1 := ef4 7 _ h.1;have h2 := ih h.2;have h4 : cu8 (bp7 s) = 1 + s.size / 50 + 0 := by rw [cv0]; rfl
  have h5 : s.size ≤ 100 := h1;rw [fj0, cu9, h4, fh9];omega
theorem eg4 {l : List V} (h : Val.okV (cu3 l) = true) : l.length ≤ 64 ∧ l.all (okN 7) = true := by
 have h' : okN 8 (.mk 8 0 0 ⟨#[]⟩ l) = true := h;rw [ce3] at h';simp only [fg6, decide_eq_true_eq] at h';exact ⟨h'.2.1.2, h'.2.2⟩
theorem eg5 {B : Nat} (hB : 300 ≤ B) (l : List ByteArray) : sm B (cu3 (l.map bp7)) := by
 unfold sm giv
 cases hv : Val.okV (cu3 (l.map bp7)) with
 | false => rw [cond_false, ef5]; omega
 | true =>
  rw [cond_true, cv0];obtain ⟨h2, h3⟩ := eg4 hv;have h9 := eg3 l h3;rw [fj8] at h2;have e1 : (cu3 (l.map bp7)).s.size = 0 := rfl;have e2 : (cu3 (l.map bp7)).l = l.map bp7 := rfl;rw [e1, e2];omega
structure Bnd (C : Nat) (g : Gr) (env : List Bd) : Prop where
 hC : 300 ≤ C
 env : ∀ b ∈ env, cu8 b.v ≤ C
 nod : ∀ n ∈ g.nodes, ∀ p ∈ n.props, cu8 p.v ≤ C
 edg : ∀ e ∈ g.edges, ∀ p ∈ e.props, cu8 p.v ≤ C
theorem eg6 {C : Nat} (h1 : 1 ≤ C) {l : List Pr} (h : ∀ p ∈ l, cu8 p.v ≤ C) (key : ByteArray) : cu8 (dd1 l key) ≤ C := by
 unfold dd1
 cases hf : l.find? fun p => p.key.toList == key.toList with
 | none => show cu8 bp9 ≤ C; rw [ef5]; exact h1
 | some p => exact h p (fp6 hf)
theorem eg7 {C : Nat} {g : Gr} {env : List Bd} (h : Bnd C g env) (a : V) (key : ByteArray) : cu8 (dv6 g a key) ≤ C := by
 have hC := h.hC;unfold dv6
 cases hb : du8 g a with
 | true =>
  rw [cond_true];refine eg6 (by omega) ?_ key;unfold du7
  cases a.k == 5 with
  | false => intro p hp; simp [nd0] at hp
  | true =>
   rw [cond_true]
   cases hf : dc9 g.nodes a.n with
   | none => intro p hp; simp [nd0] at hp
   | some n => exact h.nod n (fp6 hf)
 | false =>
  rw [cond_false]
  cases hb2 : dv0 g a with
  | true =>
   rw [cond_true];refine eg6 (by omega) ?_ key;unfold du9
   cases a.k == 6 with
   | false => intro p hp; simp [ed0] at hp
   | true =>
    rw [cond_true]
    cases hf : dd0 g.edges a.n with
    | none => intro p hp; simp [ed0] at hp
    | some n => exact h.edg n (fp6 hf)
  | false => rw [cond_false, ef5]; omega
theorem eg8 {B : Nat} {b : Bool} {n d : Int} (h3 : 3 ≤ B) : sm B (ds0 b n d) := ef6 (ef9 h3) (ef8 h3 rfl)
theorem eg9 {B : Nat} {t : Int} (h3 : 3 ≤ B) : sm B (bq9 t) := by
 refine ef8 h3 ?_;unfold bq9
 cases kn t == 1 <;> rfl
theorem sm_ar {B : Nat} (op : Int) (a b : V) (h3 : 3 ≤ B) : sm B (arF op a b) := by
 have nl : sm B bp9 := ef8 h3 rfl;unfold arF;exact ef6 (ef8 h3 rfl) (ef6 nl (ef6 (eg8 h3) (ef6 (eg8 h3) (ef6 (eg8 h3) (ef6 (eg8 h3) (ef6 (ef8 h3 rfl) nl))))))
theorem eh0 (l : List V) : cu8 (a0 l) ≤ 1 + cu9 l := by
 cases l with
 | nil => show cu8 bp9 ≤ _; rw [ef5]; omega
 | cons a r => show cu8 a ≤ _; simp only [cu9]; omega
theorem eh1 (l : List V) : cu9 (a0 l).l ≤ cu9 l := by
 cases l with
 | nil => show cu9 bp9.l ≤ _; decide +kernel
 | cons a r =>
  have := cv0 a;show cu9 a.l ≤ cu9 (a :: r);simp only [cu9];omega
theorem eh2 {l : List V} (h : l ≠ []) : l.getLastD bp9 ∈ l := by
 cases l with
 | nil => exact absurd rfl h
 | cons a r => rw [List.getLastD_cons]; exact List.getLastD_mem_cons ..
theorem eh3 {B : Nat} (nm : ByteArray) (a : V) (hB : 3 ≤ B) (h : 1 + cu9 a.l ≤ B) : sm B (dt5 nm a.l) := by
 unfold dt5;refine ef6 (ef8 hB rfl) (ef7 (by omega) ?_);have h1 := eg1 a.l (bif eqS nm dt1 then 1 else 0);have h2 := eg2 (a.l.drop (bif eqS nm dt1 then 1 else 0));rw [cv0];show 1 + (⟨#[]⟩ : ByteArray).size / 50 + cu9 (dt3 (a.l.drop (bif eqS nm dt1 then 1 else 0))) ≤ B;have : (⟨#[]⟩ : ByteArray).size = 0 := rfl;omega
theorem sm_fn {B : Nat} (g : Gr) (nm : ByteArray) (l : List V) (hB : 300 ≤ B) (h : 1 + cu9 l ≤ B) : sm B (fnF g nm l) := by
 have h3 : 3 ≤ B := by omega
 have hl := eh1 l;have nl : sm B bp9 := ef8 h3 rfl;have hi : ∀ n, sm B (bp5 n) := fun n => ef8 h3 rfl
 have hst : ∀ s, sm B (bp7 s) := fun s => ef8 h3 rfl
 have hn : ∀ n, sm B (bp8 n) := fun n => ef8 h3 rfl
 have p1 : sm B (dw5 l) := by
  unfold dw5
  cases hf : l.find? fun v => v.k != 0 with
  | none => exact nl
  | some v => exact ef7 (by omega) (by have := cv2 (fp6 hf); show cu8 v ≤ B; omega)
 have p3 : sm B (dw6 (a0 l)) := ef6 (ef9 h3) nl;have p5 : sm B (ofE nm (du9 g (a0 l))) := ef6 (hst _) (ef6 (hn _) (hn _));have p7 : sm B (szF (a0 l)) := ef6 (hi _) (ef6 (hi _) nl)
 have p9 : sm B ((a0 l).l.headD bp9) := by
  refine ef7 (by omega) ?_
  cases hh : (a0 l).l with
  | nil => show cu8 bp9 ≤ B; rw [ef5]; omega
  | cons b q =>
   have : cu8 b ≤ cu9 (a0 l).l := cv2 (by rw [hh]; simp);show cu8 b ≤ B;omega
 have p10 : sm B ((a0 l).l.getLastD bp9) := by
  refine ef7 (by omega) ?_
  by_cases hh : (a0 l).l = []
  ·rw [hh]; show cu8 bp9 ≤ B; rw [ef5]; omega
  ·have := cv2 (eh2 hh); omega
 unfold fnF;exact ef6 p1 (ef6 (ef6 (hi _) nl) (ef6 p3 (ef6 (ef6 (hst _) nl) (ef6 (ef6 p5 nl) (ef6 (ef6 (eg5 hB _) nl) (ef6 p7 (ef6 (ef6 (eh3 nm (a0 l) h3 (by omega)) nl) (ef6 (ef6 (ef6 p9 p10) nl) nl))))))))
theorem sm_ap {C B : Nat} {g : Gr} {env : List Bd} (hb : Bnd C g env) (op : Int) (v : V) (nm : ByteArray) (l : List V) (hv : cu8 v ≤ C) (hC : C ≤ B) (hl : 1 + cu9 l ≤ B) : sm B (apF g env op v nm l) := by
 have h300 := hb.hC;have h3 : 3 ≤ B := by omega
 have nl : sm B bp9 := ef8 h3 rfl;have hbo : ∀ b, sm B (bp4 b) := fun b => ef8 h3 rfl
 have pv : sm B (du5 env nm) := by
  refine ef7 (by omega) ?_;unfold du5
  cases hf : env.find? fun b => b.name.toList == nm.toList with
  | none => show cu8 bp9 ≤ B; rw [ef5]; omega
  | some b => have := hb.env b (fp6 hf); show cu8 b.v ≤ B; omega
 have pp : sm B (dv6 g (a0 l) nm) := ef7 (by omega) (by have := eg7 hb (a0 l) nm; omega)
 have pl : sm B (cu3 l) := by
  refine ef7 (by omega) ?_;rw [cv0];have e1 : (cu3 l).s.size = 0 := rfl;have e2 : (cu3 l).l = l := rfl;rw [e1, e2];omega
 unfold apF;exact ef6 (ef7 (by omega) (by omega)) (ef6 pv (ef6 pp (ef6 (ef6 (hbo _) nl) (ef6 (eg9 h3) (ef6 (eg9 h3) (ef6 (eg9 h3) (ef6 (ef6 (ef9 h3) nl) (ef6 (sm_ar _ _ _ h3) (ef6 (hbo _) (ef6 pl (ef6 (sm_fn g nm l (by omega) hl) (ef6 nl (eg9 h3)))))))))))))
theorem eh4 {C : Nat} {g : Gr} {env : List Bd} (hb : Bnd C g env) (e : Ex) : cE C e → cu8 (evF g env e) ≤ nd e * C := by
 refine dg9 (P := fun e => cE C e → cu8 (evF g env e) ≤ nd e * C) (fun op v nm ds ks ih hc => ?_) e;simp only [cE] at hc;have h300 := hb.hC
 have key : ∀ l : List Ex, (∀ x ∈ l, cE C x → cu8 (evF g env x) ≤ nd x * C) → cEL C l → cu9 (evL g env l) ≤ ndL l * C := by
  intro l
  induction l with
  | nil => intro _ _; simp [evL, cu9]
  | cons a r ihr =>
   intro hx h;simp only [cEL] at h;have h1 := hx a (by simp) h.1;have h2 := ihr (fun x hm => hx x (by simp [hm])) h.2;simp only [evL, cu9, ndL, fk7];omega
 have h1 := key ks ih hc.2;rw [dk6];show cu8 (evF g env (.mk op v nm ds ks)) ≤ (ndL ks + 1) * C;simp only [evF];refine sm_ap (B := (ndL ks + 1) * C) hb op v nm (evL g env ks) hc.1 ?_ ?_
 ·rw [fk7]; omega
 ·rw [fk7]; omega
theorem eh5 {w : Bool} : ∀ {l : List Ex}, dp3 l w = 0 → ∀ x ∈ l, dp2 x w = 0
 | a :: r, h, x, hx => by
  rw [dp3] at h
  cases hc : dp2 a w != 0 with
  | true => rw [hc, cond_true] at h; rw [h] at hc; cases hc
  | false =>
   rw [hc, cond_false] at h;rcases fh7.1 hx with rfl | hx
   ·simpa using hc
   ·exact eh5 h x hx
theorem eh6 {e : Ex} {w : Bool} (h : dp2 e w = 0) : dp1 e w = 0 := by
 cases hc : dp1 e w != 0 with
 | true => have := dp6 rfl hc; rw [h] at this; rw [this] at hc; cases hc
 | false => simpa using hc
theorem eh7 {e : Ex} {w : Bool} (h : dp1 e w = 0) : shp e.op e.ks.length := by
 have hk : kn0 e = (e.ks.length : Int) := by unfold kn0; rw [dg5]
 unfold dp1 at h
 cases c1 : (decide (e.op < 1) || decide (e.op > 24)) || (!dj6 e || !dk2 e) with
 | true => rw [c1] at h; simp at h
 | false =>
  rw [c1, cond_false] at h;simp only [fp5, decide_eq_false_iff_not, Bool.not_eq_false'] at c1;obtain ⟨⟨o1, o2⟩, hop, -⟩ := c1
  cases c2 : (e.op == 1 && !dk4 e.v) with
  | true => rw [c2] at h; simp at h
  | false =>
   rw [c2, cond_false] at h
   cases c3 : nlF e with
   | true => rw [c3] at h; simp at h
   | false =>
    unfold dj6 at hop;rw [hk] at hop;refine ⟨⟨by omega, by omega⟩, fun ho => ?_, fun ho => ?_, fun ho => ?_⟩
    ·rcases ho with ho | ho | ho | ho | ho <;> rw [ho] at hop <;> simp at hop <;> omega
    ·have : e.op = 7 ∨ e.op = 8 ∨ e.op = 9 ∨ e.op = 10 ∨ e.op = 11 ∨ e.op = 12 ∨ e.op = 13 ∨ e.op = 14 ∨ e.op = 15 ∨ e.op = 16 ∨ e.op = 17 ∨ e.op = 18 ∨ e.op = 19 ∨ e.op = 20 := by omega
     rcases this with ho | ho | ho | ho | ho | ho | ho | ho | ho | ho | ho | ho | ho | ho <;> rw [ho] at hop <;> simp at hop <;> omega
    ·rw [ho] at hop;unfold nlF at c3;rw [ho] at c3;simp at hop c3
     have hlo : di6 e.nm = 1 ∨ di6 e.nm = 2 ∨ di6 e.nm = 0 := by
      unfold di6
      cases di4 e.nm <;> cases di5 e.nm <;> simp
     rcases hop with hop | hop
     ·exact absurd hop c3
     ·omega
theorem eh8 {C : Nat} {g : Gr} {env : List Bd} (hb : Bnd C g env) (hC : C ≤ 1048576) (e : Ex) : ∀ w, dp2 e w = 0 → nd e ≤ 1000 → cE C e → okE g env e := by
 refine dg9 (P := fun e => ∀ w, dp2 e w = 0 → nd e ≤ 1000 → cE C e → okE g env e) (fun op v nm ds ks ih w hv hn hc => ?_) e;have hs := eh6 hv;have hsh := eh7 hs;have hk := dp5 hs;rw [hv] at hk;have hz := eh5 hk.symm;rw [dk6] at hn;have hn' : ndL ks + 1 ≤ 1000 := hn;have hkc : cEL C ks := by simp only [cE] at hc; exact hc.2
 have hlen : ks.length ≤ ndL ks := by
  have : ∀ l : List Ex, l.length ≤ ndL l := by
   intro l
   induction l with
   | nil => simp
   | cons a r ihr => have := ee9 a; simp only [fh9, ndL]; omega
  exact this ks
 simp only [okE];refine ⟨hsh, by omega, fun _ _ => ?_, ?_⟩
 ·have h1 : cu8 (a0 (evL g env ks)) ≤ 1 + ndL ks * C := by
   have h2 := eh0 (evL g env ks)
   have key : ∀ l : List Ex, cEL C l → cu9 (evL g env l) ≤ ndL l * C := by
    intro l
    induction l with
    | nil => intro _; simp [evL, cu9]
    | cons a r ihr =>
     intro h;simp only [cEL] at h;have h1 := eh4 hb a h.1;have h2 := ihr h.2;simp only [evL, cu9, ndL, fk7];omega
   have := key ks hkc;omega
  have h2 := cv8 (a0 (evL g env ks));have h3 : ndL ks * C ≤ 1000 * 1048576 := Nat.mul_le_mul (by omega) hC;omega
 ·have key : ∀ l : List Ex, (∀ x ∈ l, x ∈ ks) → ndL l ≤ 999 → ea0 g env l := by
   intro l
   induction l with
   | nil => intro _ _; simp only [ea0]
   | cons a r ihr =>
    intro hm hnl;simp only [ndL] at hnl;simp only [ea0];exact ⟨ih a (hm a (by simp)) _ (hz a (hm a (by simp))) (by omega) (ef1 hkc a (hm a (by simp))), ihr (fun x hx => hm x (by simp [hx])) (by omega)⟩
  exact key ks (fun _ h => h) (by omega)
end Go.Proofs.YtibfalecohlngaaGreatDoor
namespace Go.Proofs.YtibfalecohlngaaGreatDoor
set_option maxRecDepth 4000
open Go Go.Abs Go.Val Go.RowKit Go.Proofs.Tryz
attribute [local irreducible] go SGo an2 Ev aw0 EvO EvS binOp RGo
def eh9 (n : Int) : Ex := .mk 1 (bp5 n) ⟨#[]⟩ false []
def opE (k : Int) (a b : Ex) : Ex := .mk k bp9 ⟨#[]⟩ false [a, b]
mutual
def szE : Ex → Int
 | .mk _ _ _ _ ks => szL ks 1
def szL : List Ex → Int → Int
 | [], n => n
 | x :: r, n => bif decide (n ≤ 1000) then szL r (n + szE x) else n
end
theorem ei0 : ∀ (l : List Ex), (∀ x ∈ l, 1 ≤ szE x ∧ szE x ≤ nd x) → ∀ n, n ≤ szL l n ∧ szL l n ≤ n + ndL l
 | [], _, n => by simp [szL, ndL]
 | x :: r, h, n => by
  have h1 := h x (by simp);have h2 := ei0 r (fun y hy => h y (by simp [hy])) (n + szE x);rw [szL, ndL]
  cases decide (n ≤ 1000) with
  | true => rw [cond_true]; omega
  | false => rw [cond_false]; omega
theorem ei1 (e : Ex) : 1 ≤ szE e ∧ szE e ≤ nd e := by
 refine dg9 (P := fun e => 1 ≤ szE e ∧ szE e ≤ nd e) (fun op v nm ds ks ih => ?_) e;have := ei0 ks ih 1;rw [szE, dk6];show _ ∧ szL ks 1 ≤ ((ndL ks + 1 : Nat) : Int);omega
theorem ei2 : ∀ (l : List Ex), (∀ x ∈ l, szE x ≤ 1000 → szE x = nd x) → ∀ n, 0 ≤ n → szL l n ≤ 1000 → szL l n = n + ndL l
 | [], _, n, _, _ => by simp [szL, ndL]
 | x :: r, h, n, hn, hle => by
  have h0 := ei1 x;rw [szL] at hle ⊢;rw [ndL]
  cases hd : decide (n ≤ 1000) with
  | true =>
   rw [hd, cond_true] at hle;rw [cond_true];have h2 := (ei0 r (fun y _ => ei1 y) (n + szE x)).1;have h1 := h x (by simp) (by omega);rw [ei2 r (fun y hy => h y (by simp [hy])) (n + szE x) (by omega) hle];omega
  | false =>
   rw [hd, cond_false] at hle;have := of_decide_eq_false hd;omega
theorem ei3 (e : Ex) : szE e ≤ 1000 → szE e = nd e := by
 refine dg9 (P := fun e => szE e ≤ 1000 → szE e = nd e) (fun op v nm ds ks ih h => ?_) e;rw [szE] at h ⊢;rw [ei2 ks ih 1 (by omega) h, dk6];show _ = ((ndL ks + 1 : Nat) : Int);omega
structure SSz (l : List Ex) (m : Int) where
 i : Nat
 n : Int
 hi : i ≤ l.length
 h1 : 1 ≤ n
 h2 : n + ndL (l.drop i) ≤ m
 ok : szL l 1 = szL (l.drop i) n
theorem ei4 {l : List Ex} {i : Nat} {x : Ex} {n : Int} (h : l[i]? = some x) : szL (l.drop i) n = bif decide (n ≤ 1000) then szL (l.drop (i + 1)) (n + szE x) else n := by
 rw [cd5 h, szL]
theorem ei5 (b : Bd) : bj2 (dc4 b) = 1 + b.name.size + bj2 (enc b.v) := by
 rw [ee2];simp only [dc4, bj2, bj3];omega
theorem ei6 (p : Pr) : bj2 (dc0 p) = 1 + p.key.size + bj2 (enc p.v) := by
 rw [ee2];simp only [dc0, bj2, bj3];omega
theorem ei7 (n : Nd) : bj2 (dc1 n) = 3 + bj3 (n.labels.map .str) + bj3 (n.props.map dc0) := by
 simp only [dc1, bj2, bj3];omega
theorem ei8 (e : Ed) : bj2 (dc2 e) = 5 + e.ty.size + bj3 (e.props.map dc0) := by
 simp only [dc2, bj2, bj3];omega
theorem ei9 (g : Gr) : bj2 (dc3 g) = 4 + bj3 (g.nodes.map dc1) + bj3 (g.edges.map dc2) := by
 simp only [dc3, bj2, bj3];omega
theorem ej0 {α : Type} {f : α → D} (l : List α) (h : ∀ x, 1 ≤ bj2 (f x)) : l.length ≤ bj3 (l.map f) := by
 have := ee5 (l.map f) fun x hx => by obtain ⟨y, -, rfl⟩ := fk8.1 hx; exact h y
 rwa [fj8] at this
theorem ej1 {l : List Pr} {B : Nat} (hB : B ≤ 1048576) (h : bj3 (l.map dc0) ≤ B) : df3 l ∧ ∀ p ∈ l, cu8 p.v ≤ B := by
 have h1 := ej0 (f := dc0) l fun p => by rw [ei6]; omega
 have h2 : ∀ p ∈ l, 5 * cu8 p.v ≤ B := fun p hp => by
  have h3 := ee4 (f := dc0) hp;have h4 := ee3 p.v;rw [ei6] at h3;omega
 exact ⟨⟨by omega, fun p hp => cv3 p.v (by have := h2 p hp; omega)⟩, fun p hp => by have := h2 p hp; omega⟩
theorem ej2 {g : Gr} (h : bj2 (dc3 g) ≤ 1048576) : du4 g ∧ (∀ n ∈ g.nodes, ∀ p ∈ n.props, cu8 p.v ≤ 1048576) ∧ ∀ e ∈ g.edges, ∀ p ∈ e.props, cu8 p.v ≤ 1048576 := by
 rw [ei9] at h;have hn : ∀ n ∈ g.nodes, bj2 (dc1 n) ≤ 1048576 := fun n hm => by have := ee4 (f := dc1) hm; omega
 have he : ∀ e ∈ g.edges, bj2 (dc2 e) ≤ 1048576 := fun n hm => by have := ee4 (f := dc2) hm; omega
 have hnp : ∀ n ∈ g.nodes, bj3 (n.props.map dc0) ≤ 1048576 := fun n hm => by have := hn n hm; rw [ei7] at this; omega
 have hep : ∀ e ∈ g.edges, bj3 (e.props.map dc0) ≤ 1048576 := fun n hm => by have := he n hm; rw [ei8] at this; omega
 refine ⟨⟨fun n hm => ⟨?_, (ej1 (fh5 _) (hnp n hm)).1⟩, fun e hm => (ej1 (fh5 _) (hep e hm)).1⟩, fun n hm => (ej1 (fh5 _) (hnp n hm)).2, fun e hm => (ej1 (fh5 _) (hep e hm)).2⟩;have h1 := ej0 (f := D.str) n.labels fun s => by simp only [bj2]; omega
 have h2 := hn n hm;rw [ei7] at h2;omega
theorem ej3 {env : List Bd} (h : bj3 (env.map dc4) ≤ 1048576) : env.length ≤ 1048576 ∧ ∀ b ∈ env, cu8 b.v ≤ 1048576 := by
 have h1 := ej0 (f := dc4) env fun b => by rw [ei5]; omega
 refine ⟨by omega, fun b hb => ?_⟩;have h3 := ee4 (f := dc4) hb;have h4 := ee3 b.v;rw [ei5] at h3;omega
theorem ej4 {e : Ex} (h : dq0 e = 0) : dp2 e false = 0 := by
 unfold dq0 at h
 cases h1 : decide (dp e > 24) with
 | true => rw [h1] at h; simp at h
 | false =>
  rw [h1, cond_false] at h
  cases h2 : decide (nd e > 300) with
  | true => rw [h2] at h; simp at h
  | false => rw [h2, cond_false] at h; exact h
theorem ej5 {g : Gr} {env : List Bd} {e : Ex} (h1 : bj2 (dc3 g) ≤ 1048576) (h2 : env.length ≤ 2000000) (h3 : ∀ b ∈ env, cu8 b.v ≤ 1048576) (h4 : cE 1048576 e) (hn : nd e ≤ 1000) : ed6 g env e := by
 obtain ⟨g1, g2, g3⟩ := ej2 h1;have := ee8 e;exact ⟨g1, h2, by omega, by omega, fun hc => eh8 (C := 1048576) ⟨by omega, h3, g2, g3⟩ (fh5 _) e false (ej4 hc) hn h4⟩
end Go.Proofs.YtibfalecohlngaaGreatDoor
namespace Go.Proofs.YtibfalecohlngaaGreatDoor
set_option maxRecDepth 4000
open Go Go.Abs Go.Val Go.RowKit Go.ChangeShapes Go.WideShapes Go.Proofs.Tryz
theorem ty_E : ∀ {t : TypeId} {x : D}, az5 Tryz.prog t x → (t = 27 → ∃ v, x = dg0 v) ∧ (t = 25 → ∃ l, x = .sl (df9 l)) := by
 intro t x h
 induction h with
 | bool b h => exact ⟨fun e => (by subst e; rw [underlying27] at h; cases h), fun e => (by subst e; rw [underlying25] at h; cases h)⟩
 | int n h => exact ⟨fun e => (by subst e; rw [underlying27] at h; cases h), fun e => (by subst e; rw [underlying25] at h; cases h)⟩
 | str s h => exact ⟨fun e => (by subst e; rw [underlying27] at h; cases h), fun e => (by subst e; rw [underlying25] at h; cases h)⟩
 | arr ps h _ _ => exact ⟨fun e => (by subst e; rw [underlying27] at h; cases h), fun e => (by subst e; rw [underlying25] at h; cases h)⟩
 | sl xs h hx ih =>
  refine ⟨fun e => (by subst e; rw [underlying27] at h; cases h), fun e => ?_⟩;subst e;rw [underlying25] at h
  cases h
  have : ∀ ys : List D, (∀ y ∈ ys, ∃ v, y = dg0 v) → ∃ l, ys = df9 l := by
   intro ys
   induction ys with
   | nil => exact fun _ => ⟨[], by simp [df9]⟩
   | cons y r ihr =>
    intro hy;obtain ⟨v, rfl⟩ := hy y (by simp);obtain ⟨l, rfl⟩ := ihr fun z hz => hy z (by simp [hz])
    exact ⟨v :: l, by simp [df9, dg0]⟩
  obtain ⟨l, rfl⟩ := this xs fun y hy => (ih y hy).1 rfl
  exact ⟨l, rfl⟩
 | struct parts h hl hp ih =>
  refine ⟨fun e => ?_, fun e => (by subst e; rw [underlying25] at h; cases h)⟩;subst e;rw [underlying27] at h
  cases h
  match parts, hl with
  | [p0, p1, p2, p3, p4], _ =>
   obtain ⟨k, rfl⟩ := az5.int_inv underlying3 (hp 0 _ p0 rfl rfl);obtain ⟨v, rfl⟩ := cu6 (hp 1 _ p1 rfl rfl);obtain ⟨s, rfl⟩ := az5.str_inv underlying9 (hp 2 _ p2 rfl rfl);obtain ⟨b, rfl⟩ := az5.bool_inv underlying4 (hp 3 _ p3 rfl rfl);obtain ⟨l, rfl⟩ := (ih 4 _ p4 rfl rfl).2 rfl;exact ⟨.mk k v s b l, rfl⟩
theorem ej6 {x : D} (h : az5 Tryz.prog 27 x) : ∃ v, x = dg0 v := (ty_E h).1 rfl
theorem ej7 {α : Type} {f : α → D} : ∀ {ys : List D}, (∀ y ∈ ys, ∃ v, y = f v) → ∃ l : List α, ys = l.map f
 | [], _ => ⟨[], rfl⟩
 | y :: r, h => by
  obtain ⟨v, hv⟩ := h y (by simp);obtain ⟨l, hl⟩ := ej7 (ys := r) fun z hz => h z (by simp [hz])
  exact ⟨v :: l, by rw [hv, hl]; rfl⟩
theorem ej8 {x : D} (h : az5 Tryz.prog 52 x) : ∃ l : List ByteArray, x = .sl (l.map .str) := by
 obtain ⟨xs, rfl, hx⟩ := az5.sl_inv underlying52 h;obtain ⟨l, rfl⟩ := ej7 (f := D.str) fun y hy => az5.str_inv underlying9 (hx y hy)
 exact ⟨l, rfl⟩
theorem ty_pr {x : D} (h : az5 Tryz.prog 167 x) : ∃ p, x = dc0 p := by
 obtain ⟨parts, rfl, hl, hp⟩ := az5.struct_inv underlying167 h
 match parts, hl with
 | [p0, p1], _ =>
  obtain ⟨k, rfl⟩ := az5.str_inv underlying9 (hp 0 _ p0 rfl rfl);obtain ⟨v, rfl⟩ := cu6 (hp 1 _ p1 rfl rfl);exact ⟨⟨k, v⟩, rfl⟩
theorem ej9 {x : D} (h : az5 Tryz.prog 121 x) : ∃ l : List Pr, x = .sl (l.map dc0) := by
 obtain ⟨xs, rfl, hx⟩ := az5.sl_inv underlying121 h;obtain ⟨l, rfl⟩ := ej7 (f := dc0) fun y hy => ty_pr (hx y hy)
 exact ⟨l, rfl⟩
theorem ek0 {x : D} (h : az5 Tryz.prog 86 x) : ∃ p, x = dc4 p := by
 obtain ⟨parts, rfl, hl, hp⟩ := az5.struct_inv underlying86 h
 match parts, hl with
 | [p0, p1], _ =>
  obtain ⟨k, rfl⟩ := az5.str_inv underlying9 (hp 0 _ p0 rfl rfl);obtain ⟨v, rfl⟩ := cu6 (hp 1 _ p1 rfl rfl);exact ⟨⟨k, v⟩, rfl⟩
theorem ek1 {x : D} (h : az5 Tryz.prog 41 x) : ∃ l : List Bd, x = .sl (l.map dc4) := by
 obtain ⟨xs, rfl, hx⟩ := az5.sl_inv underlying41 h;obtain ⟨l, rfl⟩ := ej7 (f := dc4) fun y hy => ek0 (hx y hy)
 exact ⟨l, rfl⟩
theorem ek2 {x : D} (h : az5 Tryz.prog 124 x) : ∃ p, x = dc1 p := by
 obtain ⟨parts, rfl, hl, hp⟩ := az5.struct_inv underlying124 h
 match parts, hl with
 | [p0, p1, p2], _ =>
  obtain ⟨k, rfl⟩ := az5.int_inv underlying3 (hp 0 _ p0 rfl rfl);obtain ⟨l, rfl⟩ := ej8 (hp 1 _ p1 rfl rfl);obtain ⟨v, rfl⟩ := ej9 (hp 2 _ p2 rfl rfl);exact ⟨⟨k, l, v⟩, rfl⟩
theorem ek3 {x : D} (h : az5 Tryz.prog 156 x) : ∃ p, x = dc2 p := by
 obtain ⟨parts, rfl, hl, hp⟩ := az5.struct_inv underlying156 h
 match parts, hl with
 | [p0, p1, p2, p3, p4], _ =>
  obtain ⟨k, rfl⟩ := az5.int_inv underlying3 (hp 0 _ p0 rfl rfl);obtain ⟨m, rfl⟩ := az5.int_inv underlying3 (hp 1 _ p1 rfl rfl);obtain ⟨n, rfl⟩ := az5.int_inv underlying3 (hp 2 _ p2 rfl rfl);obtain ⟨s, rfl⟩ := az5.str_inv underlying9 (hp 3 _ p3 rfl rfl);obtain ⟨v, rfl⟩ := ej9 (hp 4 _ p4 rfl rfl);exact ⟨⟨k, m, n, s, v⟩, rfl⟩
theorem ek4 {x : D} (h : az5 Tryz.prog 40 x) : ∃ p, x = dc3 p := by
 obtain ⟨parts, rfl, hl, hp⟩ := az5.struct_inv underlying40 h
 match parts, hl with
 | [p0, p1, p2, p3], _ =>
  obtain ⟨xs, rfl, hx⟩ := az5.sl_inv underlying37 (hp 0 _ p0 rfl rfl);obtain ⟨l, rfl⟩ := ej7 (f := dc1) fun y hy => ek2 (hx y hy)
  obtain ⟨ys, rfl, hy⟩ := az5.sl_inv underlying38 (hp 1 _ p1 rfl rfl);obtain ⟨m, rfl⟩ := ej7 (f := dc2) fun z hz => ek3 (hy z hz)
  obtain ⟨k, rfl⟩ := az5.int_inv underlying3 (hp 2 _ p2 rfl rfl);obtain ⟨n, rfl⟩ := az5.int_inv underlying3 (hp 3 _ p3 rfl rfl);exact ⟨⟨l, m, k, n⟩, rfl⟩
def tys2 : List TypeId := [3, 9, 4, 52, 22, 24, 25, 27, 167, 121, 86, 41, 124, 37, 156, 38, 40]
theorem tys2_ok : az8 Tryz.prog tys2 = true := by kernel_rfl
end Go.Proofs.YtibfalecohlngaaGreatDoor
namespace Go.Proofs.YtibfalecohlngaaGreatDoor
set_option maxRecDepth 4000
open Go Go.Abs Go.Val Go.RowKit Go.Proofs.Tryz
attribute [local irreducible] go SGo an2 Ev aw0 EvO EvS binOp RGo
def g0 : Gr := ⟨[], [], 0, 0⟩
def nullE : Ex := .mk 1 bp9 ⟨#[]⟩ false []
def strA : Ex := .mk 1 (bp7 ⟨#[97]⟩) ⟨#[]⟩ false []
def ek5 : Ex := .mk 22 bp9 ⟨#[]⟩ false [eh9 1, nullE]
theorem w1 : ed3 g0 [] (opE 10 (eh9 7) (eh9 2)) = .mk 3 7 2 ⟨#[]⟩ [] := by kernel_rfl
theorem w2 : ed3 g0 [] (opE 10 (eh9 6) (eh9 2)) = .mk 2 3 0 ⟨#[]⟩ [] := by kernel_rfl
theorem w3 : ed3 g0 [] (opE 7 strA strA) = .mk 4 0 0 ⟨#[97, 97]⟩ [] := by kernel_rfl
theorem w4 : ed3 g0 [] (opE 20 (eh9 1) ek5) = .mk 1 1 0 ⟨#[]⟩ [] := by kernel_rfl
theorem w5 : ed3 g0 [] (opE 10 (eh9 1) (eh9 0)) = .mk 0 0 0 ⟨#[]⟩ [] := by kernel_rfl
theorem x1 : bq8 (ed3 g0 [] (opE 20 (eh9 2) ek5)) = 1 := by kernel_rfl
theorem x2 : bq8 (ed3 g0 [] (opE 14 (eh9 1) strA)) = 1 := by kernel_rfl
theorem x3 : bq8 (ed3 g0 [] (opE 12 (eh9 1) strA)) = 0 := by kernel_rfl
end Go.Proofs.YtibfalecohlngaaGreatDoor
namespace Go.Proofs.YtibfalecohlngaaGreatDoor
set_option maxRecDepth 4000
open Go Go.Abs Go.Val Go.RowKit Go.ChangeShapes Go.WideShapes Go.Proofs.Tryz
attribute [local irreducible] go SGo an2 Ev aw0 EvO EvS
theorem ek6 (v : V) : bq8 v = 0 ∨ bq8 v = 1 ∨ bq8 v = 2 := by
 unfold bq8 tt
 cases v.k == 1 && Val.okV v with
 | false => exact .inr (.inl rfl)
 | true => cases v.n == 1 <;> simp
theorem kn_0 {t : Int} (h : kn t = 0) : t = 0 := by
 unfold kn at h
 by_cases h0 : t = 0
 ·exact h0
 ·by_cases h2 : t = 2
  ·subst h2; revert h; decide
  ·rw [beq_eq_false_iff_ne.2 h0, beq_eq_false_iff_ne.2 h2] at h; simp at h
theorem kn_2 {t : Int} (h : kn t = 2) : t = 2 := by
 unfold kn at h
 by_cases h2 : t = 2
 ·exact h2
 ·by_cases h0 : t = 0
  ·subst h0; revert h; decide
  ·rw [beq_eq_false_iff_ne.2 h0, beq_eq_false_iff_ne.2 h2] at h; simp at h
theorem ek7 (t : Int) : bq8 (giv (bq9 t)) = kn t := by
 rcases bp3 t with h | h | h
 ·obtain rfl := kn_0 h;decide +kernel
 ·have e : bq9 t = bp9 := by unfold bq9; rw [h]; rfl
  rw [e, h]; decide +kernel
 ·obtain rfl := kn_2 h;decide +kernel
theorem ek8 {t : Int} (h : t = 0 ∨ t = 1 ∨ t = 2) : kn t = t := by rcases h with rfl | rfl | rfl <;> rfl
theorem ek9 {g : Gr} {env : List Bd} {e : Ex} (h : dq0 e = 0) : ed3 g env e = evF g env e := by unfold ed3; rw [h]; rfl
theorem el0 {g h : Gr} {env env' : List Bd} : ∀ l : List Ex, (∀ x ∈ l, evF g env x = evF h env' x) → evL g env l = evL h env' l
 | [], _ => by simp only [evL]
 | a :: r, hx => by simp only [evL]; rw [hx a (by simp), el0 r fun x h => hx x (by simp [h])]
end Go.Proofs.YtibfalecohlngaaGreatDoor
