/- Values of closed expressions: neither graph nor bindings matter, for no node, edge or path can come up; EvalLogic: De Morgan's laws and double negation, within the row's bound; and the chapter's examples hold; Folding of expressions in plain Lean: it keeps checks, size, value and closedness, and folding again changes nothing; Expressions compared with themselves, by the specification; Which expressions are closed, constants of a truth value, of a truth value; which values can be written: by both texts; The law's own small functions: size, light, op, number, name; Copies, folding, conjuncts and. Conditions: each part's own, as it says. -/
import Derived.Test.YtibfalecohlngaaGreatDoorEC
import Derived.Test.YtibfalecohlngaaGreatDoorMC
import Derived.Test.YtibfalecohlngaaGreatDoorMF
import Derived.Test.YtibfalecohlngaaGreatDoorGC
set_option linter.unusedVariables false
set_option linter.unusedSimpArgs false
namespace Go.Proofs.YtibfalecohlngaaGreatDoor
set_option maxRecDepth 4000
open Go Go.Abs Go.Val Go.RowKit Go.Proofs.Tryz
mutual
def el1 : Ex → Bool
 | .mk op _ _ _ ks => !(op == 2 || op == 24) && el2 ks
def el2 : List Ex → Bool
 | [] => true
 | x :: r => el1 x && el2 r
end
mutual
def el3 : V → Bool
 | .mk k _ _ _ l => !(k == 5 || (k == 6 || k == 7)) && el4 l
def el4 : List V → Bool
 | [] => true
 | v :: r => el3 v && el4 r
end
theorem el5 : ∀ {l : List Ex}, el2 l = true → ∀ x ∈ l, el1 x = true
 | [], _, x, h => by cases h
 | a :: r, h, x, hx => by
  rw [el2, fg6] at h;rcases fh7.1 hx with rfl | hx
  ·exact h.1
  ·exact el5 h.2 x hx
theorem el6 : ∀ l : List Ex, el2 l = l.all el1
 | [] => rfl
 | a :: r => by rw [el2, fk0, el6 r]
theorem el7 : ∀ {l : List V}, el4 l = true → ∀ x ∈ l, el3 x = true
 | [], _, x, h => by cases h
 | a :: r, h, x, hx => by
  rw [el4, fg6] at h;rcases fh7.1 hx with rfl | hx
  ·exact h.1
  ·exact el7 h.2 x hx
theorem el8 : ∀ {l : List V}, (∀ x ∈ l, el3 x = true) → el4 l = true
 | [], _ => rfl
 | a :: r, h => by
  rw [el4, fg6];exact ⟨h a (by simp), el8 fun x hx => h x (by simp [hx])⟩
theorem el9 {v : V} (h : el3 v = true) : (v.k == 5) = false ∧ (v.k == 6) = false ∧ (v.k == 7) = false ∧ el4 v.l = true := by
 obtain ⟨k, n, d, s, l⟩ := v;rw [el3, fg6, Bool.not_eq_true', fp5, fp5] at h;exact ⟨h.1.1, h.1.2.1, h.1.2.2, h.2⟩
theorem em0 {v : V} (hk : v.k = 0 ∨ v.k = 1 ∨ v.k = 2 ∨ v.k = 3 ∨ v.k = 4) (hl : v.l = []) : el3 v = true := by
 obtain ⟨k, n, d, s, l⟩ := v;have hl : l = [] := hl;subst hl;have hk : k = 0 ∨ k = 1 ∨ k = 2 ∨ k = 3 ∨ k = 4 := hk;rw [el3];rcases hk with rfl | rfl | rfl | rfl | rfl <;> rfl
theorem em1 : el3 bp9 = true := em0 (.inl rfl) rfl
theorem em2 (b : Bool) : el3 (bp4 b) = true := em0 (.inr (.inl rfl)) rfl
theorem em3 (n : Int) : el3 (bp5 n) = true := em0 (.inr (.inr (.inl rfl))) rfl
theorem em4 (s : ByteArray) : el3 (bp7 s) = true := em0 (.inr (.inr (.inr (.inr rfl)))) rfl
theorem em5 {b : Bool} {x y : V} (hx : el3 x = true) (hy : el3 y = true) : el3 (bif b then x else y) = true := by cases b; exact hy; exact hx
theorem em6 (n d : Int) : el3 (bp6 n d) = true := em5 (em3 n) (em0 (.inr (.inr (.inr (.inl rfl)))) rfl)
theorem em7 (t : Int) : el3 (bq9 t) = true := em5 em1 (em2 _)
theorem em8 {v : V} (h : el3 v = true) : el3 (giv v) = true := em5 h em1
theorem em9 {l : List V} (h : ∀ x ∈ l, el3 x = true) : el3 (cu3 l) = true := by
 unfold cu3;rw [el3, el8 h]; rfl
theorem en0 {l : List V} (h : ∀ x ∈ l, el3 x = true) : el3 (a0 l) = true := by
 unfold a0
 cases l with
 | nil => exact em1
 | cons a r => exact h a (by simp)
theorem en1 {a : V} (h : el3 a = true) (g : Gr) : du8 g a = false := by unfold du8; rw [(el9 h).1]; rfl
theorem en2 {a : V} (h : el3 a = true) (g : Gr) : dv0 g a = false := by unfold dv0; rw [(el9 h).2.1]; rfl
theorem en3 {a : V} (h : el3 a = true) (g : Gr) (key : ByteArray) : dv6 g a key = bp9 := by unfold dv6; rw [en1 h, en2 h]; rfl
theorem en4 {l : List V} (h : ∀ x ∈ l, el3 x = true) (g h' : Gr) (nm : ByteArray) : fnF g nm l = fnF h' nm l ∧ el3 (fnF g nm l) = true := by
 have h0 := en0 h;obtain ⟨k5, k6, k7, kl⟩ := el9 h0;unfold fnF;rw [en1 h0, en2 h0, en1 h0, en2 h0, k5, k6, k7];refine ⟨rfl, em5 ?_ (em5 em1 (em5 ?_ (em5 ?_ (em5 em1 (em5 em1 (em5 ?_ (em5 em1 (em5 ?_ em1))))))))⟩
 ·unfold dw5;split
  ·rename_i v hv
   exact h v (fp6 hv)
  ·exact em1
 ·exact em5 (em6 _ _) em1
 ·exact em5 (em4 _) em1
 ·unfold szF
  repeat (first | exact em1 | exact em3 _ | refine em5 ?_ ?_)
 ·refine em5 (em5 ?_ ?_) em1
  ·cases hl : (a0 l).l with
   | nil => exact em1
   | cons a r => exact el7 (by rw [hl] at kl; exact kl) a (by simp)
  ·cases hl : (a0 l).l with
   | nil => exact em1
   | cons a r =>
    refine el7 (l := a :: r) (by rw [hl] at kl; exact kl) _ ?_;exact eh2 (by simp)
theorem en5 (op : Int) (a b : V) : el3 (arF op a b) = true := by
 unfold arF ds0
 repeat (first | exact em1 | exact em3 _ | exact em4 _ | exact em6 _ _ | refine em5 ?_ ?_)
theorem en6 {l : List V} (hl : ∀ x ∈ l, el3 x = true) {op : Int} (h2 : op ≠ 2) (g h : Gr) (env env' : List Bd) (v : V) (nm : ByteArray) (hv : op = 1 → el3 v = true) :
  apF g env op v nm l = apF h env' op v nm l ∧ el3 (apF g env op v nm l) = true := by
 have h0 := en0 hl;obtain ⟨f1, f2⟩ := en4 hl g h nm;unfold apF;rw [show (op == 2) = false by simpa using h2, en3 h0, en3 h0, en1 h0, en1 h0, f1];rw [f1] at f2;refine ⟨rfl, ?_⟩
 cases h1 : op == 1 with
 | true => exact hv (by simpa using h1)
 | false =>
  simp only [cond_false]
  repeat (first | exact em1 | exact em7 _ | exact em2 _ | exact em6 _ _ | exact en5 _ _ _ | exact em9 hl | exact f2 | refine em5 ?_ ?_)
theorem en7 {v : V} (h : (v.k == 1 || (v.k == 2 || v.k == 4)) = true) (ho : Val.okV v = true) : v.l = [] := by
 simp only [fi1, beq_iff_eq] at h;unfold Val.okV at ho;have ho : Val.okN (7 + 1) v = true := ho;rw [Val.okN] at ho;simp only [bq1, fg6, fi1, beq_iff_eq, decide_eq_true_eq] at ho;have : v.l.length = 0 := by omega
 exact fp7 this
theorem en8 {v : V} (h : dk4 v = true) : el3 v = true := by
 unfold dk4 at h;rw [fi1, fg6] at h;rcases h with h | ⟨h1, h2⟩
 ·unfold dj3 at h;simp only [fg6, beq_iff_eq] at h;refine em0 (.inl h.1) ?_;have := h.2.2.2.2;unfold l0 at this;rw [bo6] at this
  cases hl : v.l with
  | nil => rfl
  | cons a r => rw [hl] at this; simp at this; omega
 ·have hl := en7 h1 h2;simp only [fi1, beq_iff_eq] at h1;refine em0 ?_ hl;rcases h1 with h | h | h
  ·exact .inr (.inl h)
  ·exact .inr (.inr (.inl h))
  ·exact .inr (.inr (.inr (.inr h)))
theorem en9 {e : Ex} {w : Bool} (h : dp1 e w = 0) (h1 : e.op = 1) : dk4 e.v = true := by
 unfold dp1 at h
 cases c1 : (decide (e.op < 1) || decide (e.op > 24)) || (!dj6 e || !dk2 e) with
 | true => rw [c1] at h; simp at h
 | false =>
  rw [c1, cond_false] at h
  cases c2 : (e.op == 1 && !dk4 e.v) with
  | true => rw [c2] at h; simp at h
  | false =>
   rw [show (e.op == 1) = true by simpa using h1, fh3] at c2;simpa using c2
theorem eo0 {op : Int} {v : V} {nm : ByteArray} {ds : Bool} {ks : List Ex} {w : Bool} (h : dp2 (.mk op v nm ds ks) w = 0) : ∀ x ∈ ks, dp2 x (w || op == 24) = 0 := by
 have h0 := eh6 h;have h1 := dp5 (e := .mk op v nm ds ks) (w := w) h0;rw [h] at h1;exact eh5 h1.symm
theorem eo1 (e : Ex) : ∀ w, dp2 e w = 0 → el1 e = true → ∀ (g h : Gr) (env env' : List Bd), evF g env e = evF h env' e ∧ el3 (evF g env e) = true := by
 refine dg9 (P := fun e => ∀ w, dp2 e w = 0 → el1 e = true → ∀ (g h : Gr) (env env' : List Bd), evF g env e = evF h env' e ∧ el3 (evF g env e) = true) (fun op v nm ds ks ih w hv hc g h env env' => ?_) e;have hk := eo0 hv;have hs := eh6 hv;rw [el1, fg6, Bool.not_eq_true', fp5] at hc;have hcl := el5 hc.2;have h2 : op ≠ 2 := by simpa using hc.1.1
 have hevl : evL g env ks = evL h env' ks := el0 ks fun x hx => (ih x hx _ (hk x hx) (hcl x hx) g h env env').1
 have hpl : ∀ x ∈ evL g env ks, el3 x = true := fun x hx => by
  rw [dz7] at hx;obtain ⟨y, hy, rfl⟩ := fk8.1 hx;exact (ih y hy _ (hk y hy) (hcl y hy) g h env env').2
 have ha := en6 hpl h2 g h env env' v nm fun h1 => en8 (en9 hs h1)
 simp only [evF];rw [← hevl, ha.1];rw [ha.1] at ha;exact ⟨rfl, em8 ha.2⟩
end Go.Proofs.YtibfalecohlngaaGreatDoor
namespace Go.Proofs.YtibfalecohlngaaGreatDoor
set_option maxRecDepth 4000
open Go Go.Abs Go.Val Go.RowKit Go.ChangeShapes Go.WideShapes Go.Proofs.Tryz
attribute [local irreducible] go SGo an2 Ev aw0 EvO EvS
theorem eo2 : isS ⟨#[]⟩ ⟨#[]⟩ = true := by decide +kernel
theorem eo3 {e : Ex} (h : dq0 e = 0) : dp e ≤ 24 ∧ nd e ≤ 300 ∧ dp2 e false = 0 := by
 have hv := ej4 h;unfold dq0 at h
 cases h1 : decide (dp e > 24) with
 | true => rw [h1] at h; simp at h
 | false =>
  rw [h1, cond_false] at h
  cases h2 : decide (nd e > 300) with
  | true => rw [h2] at h; simp at h
  | false =>
   have := of_decide_eq_false h1;have := of_decide_eq_false h2;exact ⟨by omega, by omega, hv⟩
theorem eo4 {e : Ex} (h1 : dp e ≤ 24) (h2 : nd e ≤ 300) (h3 : dp2 e false = 0) : dq0 e = 0 := by
 unfold dq0;rw [show decide (dp e > 24) = false by simp; omega, show decide (nd e > 300) = false by simp; omega, h3];rfl
end Go.Proofs.YtibfalecohlngaaGreatDoor
namespace Go.Proofs.YtibfalecohlngaaGreatDoor
set_option maxRecDepth 4000
open Go Go.Abs Go.Val Go.RowKit Go.Proofs.Tryz
def gZ : Gr := ⟨[], [], 0, 0⟩
def eo5 (v : V) : Bool := v.k == 0 || (v.k == 1 || (v.k == 4 || (v.k == 2 && decide (v.n ≥ 0))))
def eo6 (op : Int) : Bool := op == 4 || (op == 5 || ((decide (op ≥ 12) && decide (op ≤ 19)) || (op == 20 || op == 21)))
def isX (e : Ex) (n : Int) : Bool := e.op == 1 && (e.v.k == 1 && e.v.n == n)
def eo7 (v : V) : Ex := .mk 1 v ⟨#[]⟩ false []
def eo8 (op : Int) : Int := bif op == 18 then 1 else 0
def eo9 (op : Int) (v : V) (nm : ByteArray) (ds : Bool) (ks : List Ex) : Ex :=
 match ks with
 | [a, b] => bif op == 18 || op == 19 then (bif isX a (eo8 op) && eo6 b.op then b else bif isX b (eo8 op) && eo6 a.op then a else .mk op v nm ds [a, b]) else .mk op v nm ds [a, b]
 | l => .mk op v nm ds l
mutual
def ep0 : Ex → Ex
 | .mk op v nm ds ks => bif el1 (.mk op v nm ds ks) && eo5 (ed3 gZ [] (.mk op v nm ds ks)) then eo7 (ed3 gZ [] (.mk op v nm ds ks)) else eo9 op v nm ds (ep1 ks)
def ep1 : List Ex → List Ex
 | [] => []
 | x :: r => ep0 x :: ep1 r
end
theorem ep2 : ∀ l : List Ex, ep1 l = l.map ep0
 | [] => rfl
 | x :: r => by rw [ep1, fj0, ep2 r]
theorem ep3 (op : Int) (v : V) (nm : ByteArray) (ds : Bool) (ks : List Ex) : eo9 op v nm ds ks = .mk op v nm ds ks ∨
  ∃ a b, ks = [a, b] ∧ (op = 18 ∨ op = 19) ∧ ((isX a (eo8 op) = true ∧ eo6 b.op = true ∧ eo9 op v nm ds ks = b) ∨ (isX b (eo8 op) = true ∧ eo6 a.op = true ∧ eo9 op v nm ds ks = a)) := by
 match ks with
 | [] => exact .inl rfl
 | [_] => exact .inl rfl
 | _ :: _ :: _ :: _ => exact .inl rfl
 | [a, b] =>
  unfold eo9;dsimp only
  cases c1 : op == 18 || op == 19 with
  | false => exact .inl rfl
  | true =>
   have ho : op = 18 ∨ op = 19 := by simpa using c1
   rw [cond_true]
   cases c2 : isX a (eo8 op) && eo6 b.op with
   | true =>
    rw [fg6] at c2;exact .inr ⟨a, b, rfl, ho, .inl ⟨c2.1, c2.2, rfl⟩⟩
   | false =>
    rw [cond_false]
    cases c3 : isX b (eo8 op) && eo6 a.op with
    | true =>
     rw [fg6] at c3;exact .inr ⟨a, b, rfl, ho, .inr ⟨c3.1, c3.2, rfl⟩⟩
    | false => exact .inl rfl
theorem ep4 {e : Ex} (h : dp1 e true = 0) : dp1 e false = 0 ∧ e.op ≠ 24 := by
 unfold dp1 at h ⊢
 cases c1 : (decide (e.op < 1) || decide (e.op > 24)) || (!dj6 e || !dk2 e) with
 | true => rw [c1] at h; simp at h
 | false =>
 cases c2 : (e.op == 1 && !dk4 e.v) with
 | true => rw [c1, c2] at h; simp at h
 | false =>
 cases c3 : nlF e with
 | true => rw [c1, c2, c3] at h; simp at h
 | false =>
 cases c4 : e.op == 24 with
 | true => rw [c1, c2, c3, c4] at h; simp at h
 | false => exact ⟨rfl, by simpa using c4⟩
theorem ep5 {w : Bool} : ∀ {l : List Ex}, (∀ x ∈ l, dp2 x w = 0) → dp3 l w = 0
 | [], _ => rfl
 | x :: r, h => by
  rw [dp3, h x (by simp)];exact ep5 fun y hy => h y (by simp [hy])
theorem ep6 (e : Ex) : dp2 e true = 0 → dp2 e false = 0 := by
 refine dg9 (P := fun e => dp2 e true = 0 → dp2 e false = 0) (fun op v nm ds ks ih h => ?_) e;obtain ⟨h1, h2⟩ := ep4 (eh6 h);have h3 := eo0 h;rw [dp5 h1, show (false || (Ex.mk op v nm ds ks).op == 24) = false by simpa using h2];exact ep5 fun x hx => ih x hx (by simpa using h3 x hx)
theorem ep7 {e : Ex} {w : Bool} (h : dp2 e w = 0) : dp2 e false = 0 := by
 cases w with
 | true => exact ep6 e h
 | false => exact h
theorem ep8 {op : Int} {v : V} {nm : ByteArray} {ds : Bool} {ks : List Ex} (h : dq0 (.mk op v nm ds ks) = 0) : ∀ x ∈ ks, dq0 x = 0 := by
 obtain ⟨h1, h2, h3⟩ := eo3 h;intro x hx;have d1 := dl2 hx;have d2 := dk7 hx;rw [dl1] at h1;rw [dk6] at h2;have h1 : dpL ks + 1 ≤ 24 := h1;have h2 : ndL ks + 1 ≤ 300 := h2;exact eo4 (by omega) (by omega) (ep7 (eo0 h3 x hx))
theorem ep9 {op : Int} {v : V} {nm : ByteArray} {ds : Bool} {ks ks' : List Ex} (h : ks.length = ks'.length) (w : Bool) : dp1 (.mk op v nm ds ks) w = dp1 (.mk op v nm ds ks') w := by
 have hk : kn0 (.mk op v nm ds ks) = kn0 (.mk op v nm ds ks') := by
  unfold kn0;rw [dg5, dg5];exact congrArg (fun n : Nat => (n : Int)) h
 unfold dp1 dj6 dk2 nlF;rw [hk];rfl
theorem eq0 {v : V} (ho : Val.okV v = true) (hw : eo5 v = true) : dk4 v = true := by
 unfold eo5 at hw;simp only [fi1, fg6, beq_iff_eq, decide_eq_true_eq] at hw;unfold dk4;rw [ho];rcases hw with h | h | h | ⟨h, -⟩
 ·have hb : dj3 v = true := by
   unfold Val.okV at ho;have ho : Val.okN (7 + 1) v = true := ho;rw [Val.okN] at ho;simp only [bq1, fg6, fi1, beq_iff_eq, decide_eq_true_eq] at ho
   have hf : (v.d = 0 ∧ s0 v.s = true) ∧ v.l.length = 0 ∧ v.n = 0 := by
    rcases ho with (((((((ho | ho) | ho) | ho) | ho) | ho) | ho) | ho)
    ·exact ⟨⟨ho.1.2.1.1, ho.1.2.1.2⟩, ho.1.2.2, ho.2⟩
    all_goals (exfalso; omega)
   unfold dj3 l0;rw [h, hf.1.1, hf.1.2, hf.2.2, bo6, hf.2.1];rfl
  rw [hb]; rfl
 ·rw [h]; simp
 ·rw [h]; simp
 ·rw [h]; simp
theorem eq1 {v : V} (h : dk4 v = true) (w : Bool) : dp1 (eo7 v) w = 0 := by
 have hk : kn0 (eo7 v) = 0 := by unfold kn0; rw [dg5]; rfl
 have h1 : dj6 (eo7 v) = true := by unfold dj6; rw [hk]; rfl
 have h2 : dk2 (eo7 v) = true := by
  unfold dk2;show (((1 : Int) == 1 || dj3 v) && ((dk0 1 || isS ⟨#[]⟩ ⟨#[]⟩) && ((1 : Int) == 24 || !false))) = true;rw [eo2]; simp
 unfold dp1;rw [h1, h2, show (eo7 v).v = v from rfl, h];rfl
theorem eq2 {v : V} (h : dk4 v = true) (w : Bool) : dp2 (eo7 v) w = 0 := by
 rw [dp5 (eq1 h w)];rfl
theorem eq3 {v : V} (h : dk4 v = true) : dq0 (eo7 v) = 0 := eo4 (show (1 : Nat) ≤ 24 by decide) (show (1 : Nat) ≤ 300 by decide) (eq2 h false)
theorem eq4 {v : V} (h : Val.okV v = true) : giv v = v := by unfold giv; rw [h]; rfl
theorem eq5 (g : Gr) (env : List Bd) {v : V} (h : Val.okV v = true) : evF g env (eo7 v) = v := by
 show giv (apF g env 1 v ⟨#[]⟩ []) = v;exact eq4 h
theorem eq6 (t : Int) : Val.okV (bq9 t) = true := by
 unfold bq9
 cases kn t == 1 with
 | true => exact (by decide +kernel : Val.okV bp9 = true)
 | false =>
  cases t == 2 with
  | true => exact (by decide +kernel : Val.okV (bp4 true) = true)
  | false => exact (by decide +kernel : Val.okV (bp4 false) = true)
theorem eq7 (t : Int) : giv (bq9 t) = bq9 t := eq4 (eq6 t)
theorem kn_kn (t : Int) : kn (kn t) = kn t := ek8 (by rcases bp3 t with h | h | h <;> omega)
theorem vT_kn (t : Int) : bq9 (kn t) = bq9 t := by
 unfold bq9;rw [kn_kn];rcases bp3 t with h | h | h
 ·rw [h, kn_0 h]
 ·rw [h]; rfl
 ·rw [h, kn_2 h]
theorem eq8 (t : Int) : bq9 (bq8 (bq9 t)) = bq9 t := by
 have := ek7 t;rw [eq7] at this;rw [this, vT_kn]
theorem eq9 (b : Bool) : bp4 b = bq9 (tt b) := by cases b <;> rfl
theorem er0 : bp9 = bq9 1 := rfl
theorem er1 {e : Ex} (h : eo6 e.op = true) (g : Gr) (env : List Bd) : evF g env e = bq9 (bq8 (evF g env e)) := by
 obtain ⟨op, v, nm, ds, ks⟩ := e;have h : eo6 op = true := h
 have key : ∃ t, evF g env (.mk op v nm ds ks) = bq9 t := by
  have hg : ∃ t, apF g env op v nm (evL g env ks) = bq9 t := by
   unfold eo6 at h;simp only [fi1, fg6, beq_iff_eq, decide_eq_true_eq] at h;have hc : op = 4 ∨ op = 5 ∨ op = 12 ∨ op = 13 ∨ op = 14 ∨ op = 15 ∨ op = 16 ∨ op = 17 ∨ op = 18 ∨ op = 19 ∨ op = 20 ∨ op = 21 := by omega
   generalize evL g env ks = l;rcases hc with rfl | rfl | rfl | rfl | rfl | rfl | rfl | rfl | rfl | rfl | rfl | rfl
   ·show ∃ t, (bif du8 g (a0 l) then bp4 (dd4 (du7 g (a0 l)).labels nm) else bp9) = bq9 t
    cases du8 g (a0 l) with
    | true => exact ⟨_, eq9 _⟩
    | false => exact ⟨_, er0⟩
   ·exact ⟨_, rfl⟩
   ·exact ⟨_, rfl⟩
   ·exact ⟨_, rfl⟩
   ·exact ⟨_, rfl⟩
   ·exact ⟨_, rfl⟩
   ·exact ⟨_, rfl⟩
   ·exact ⟨_, rfl⟩
   ·exact ⟨_, rfl⟩
   ·exact ⟨_, rfl⟩
   ·exact ⟨_, rfl⟩
   ·exact ⟨_, eq9 _⟩
  obtain ⟨t, ht⟩ := hg;exact ⟨t, by simp only [evF]; rw [ht, eq7]⟩
 obtain ⟨t, ht⟩ := key;rw [ht, eq8]
theorem er2 {e : Ex} {w : Bool} {n : Int} (hn : n = 0 ∨ n = 1) (hx : isX e n = true) (hv : dp2 e w = 0) (g : Gr) (env : List Bd) : bq8 (evF g env e) = 2 * n := by
 unfold isX at hx;simp only [fg6, beq_iff_eq] at hx;obtain ⟨h1, h2, h3⟩ := hx;have hc := en9 (eh6 hv) h1
 have ho : Val.okV e.v = true := by
  unfold dk4 at hc;rw [fi1, fg6] at hc;rcases hc with hc | hc
  ·unfold dj3 at hc;simp only [fg6, beq_iff_eq] at hc;omega
  ·exact hc.2
 obtain ⟨op, v, nm, ds, ks⟩ := e;have h1 : op = 1 := h1;subst h1
 have he : evF g env (.mk 1 v nm ds ks) = v := by
  show giv v = v;exact eq4 ho
 rw [he];have ho : Val.okV v = true := ho;have h2 : v.k = 1 := h2;have h3 : v.n = n := h3;unfold bq8;rw [h2, ho, h3];rcases hn with rfl | rfl <;> rfl
theorem min2 {v : V} : min (2 : Int) (bq8 v) = bq8 v := by rcases ek6 v with h | h | h <;> rw [h] <;> rfl
theorem min2' {v : V} : min (bq8 v) (2 : Int) = bq8 v := by rcases ek6 v with h | h | h <;> rw [h] <;> rfl
theorem max0 {v : V} : max (0 : Int) (bq8 v) = bq8 v := by rcases ek6 v with h | h | h <;> rw [h] <;> rfl
theorem max0' {v : V} : max (bq8 v) (0 : Int) = bq8 v := by rcases ek6 v with h | h | h <;> rw [h] <;> rfl
theorem er3 (g : Gr) (env : List Bd) (v : V) (nm : ByteArray) (ds : Bool) (a b : Ex) (op : Int) (ho : op = 18 ∨ op = 19) :
  evF g env (.mk op v nm ds [a, b]) = bq9 (bif op == 18 then min (bq8 (evF g env a)) (bq8 (evF g env b)) else max (bq8 (evF g env a)) (bq8 (evF g env b))) := by
 have ka := ek8 (ek6 (evF g env a));have kb := ek8 (ek6 (evF g env b));rcases ho with rfl | rfl
 ·have : evF g env (.mk 18 v nm ds [a, b]) = giv (bq9 (min (kn (bq8 (evF g env a))) (kn (bq8 (evF g env b))))) := by simp only [evF, evL]; rfl
  rw [this, ka, kb, eq7]; rfl
 ·have : evF g env (.mk 19 v nm ds [a, b]) = giv (bq9 (max (kn (bq8 (evF g env a))) (kn (bq8 (evF g env b))))) := by simp only [evF, evL]; rfl
  rw [this, ka, kb, eq7]; rfl
structure er4 (e : Ex) : Prop where
 vis : ∀ w, dp2 e w = 0 → dp2 (ep0 e) w = 0
 nd : nd (ep0 e) ≤ nd e
 dp : dp (ep0 e) ≤ dp e
 val : ∀ (g : Gr) (env : List Bd), evF g env (ep0 e) = evF g env e
 cl : el1 (ep0 e) = el1 e
 idem : ep0 (ep0 e) = ep0 e
theorem er4.chk {e : Ex} (h : er4 e) (hc : dq0 e = 0) : dq0 (ep0 e) = 0 := by
 obtain ⟨h1, h2, h3⟩ := eo3 hc;have a := h.nd;have b := h.dp;exact eo4 (by omega) (by omega) (h.vis false h3)
theorem er5 {e : Ex} {w : Bool} {n : Int} (hx : isX e n = true) (hv : dp2 e w = 0) : el1 e = true := by
 unfold isX at hx;rw [fg6, beq_iff_eq] at hx;have hs := eh6 hv;obtain ⟨op, v, nm, ds, ks⟩ := e;have h1 : op = 1 := hx.1;subst h1
 have hk : ks = [] := by
  unfold dp1 at hs
  cases c1 : (decide ((Ex.mk 1 v nm ds ks).op < 1) || decide ((Ex.mk 1 v nm ds ks).op > 24)) || (!dj6 (.mk 1 v nm ds ks) || !dk2 (.mk 1 v nm ds ks)) with
  | true => rw [c1] at hs; simp at hs
  | false =>
   simp only [fp5, Bool.not_eq_false'] at c1;have ho := c1.2.1;unfold dj6 kn0 at ho;rw [dg5] at ho;have ho : ((ks.length : Int) == 0) = true := ho;have : (ks.length : Int) = 0 := by simpa using ho
   exact fp7 (by omega)
 subst hk;rfl
theorem er6 {f : Ex → Ex} : ∀ {l : List Ex}, (∀ x ∈ l, nd (f x) ≤ nd x) → ndL (l.map f) ≤ ndL l
 | [], _ => fh5 _
 | x :: r, h => by
  have h1 := h x (by simp);have h2 := er6 (l := r) fun y hy => h y (by simp [hy])
  simp only [fj0, ndL]; omega
theorem er7 {f : Ex → Ex} : ∀ {l : List Ex}, (∀ x ∈ l, dp (f x) ≤ dp x) → dpL (l.map f) ≤ dpL l
 | [], _ => fh5 _
 | x :: r, h => by
  have h1 := h x (by simp);have h2 := er7 (l := r) fun y hy => h y (by simp [hy])
  simp only [fj0, dpL]; omega
theorem er8 (op : Int) (v : V) (nm : ByteArray) (ds : Bool) (ks : List Ex) : ep0 (.mk op v nm ds ks) = bif el1 (.mk op v nm ds ks) && eo5 (ed3 gZ [] (.mk op v nm ds ks)) then eo7 (ed3 gZ [] (.mk op v nm ds ks)) else eo9 op v nm ds (ks.map ep0) := by
 rw [ep0, ep2]
theorem fold_cst {v : V} (h : dk4 v = true) (ho : Val.okV v = true) (hw : eo5 v = true) : ep0 (eo7 v) = eo7 v := by
 have hv : ed3 gZ [] (eo7 v) = v := by rw [ek9 (eq3 h), eq5 gZ [] ho]
 show ep0 (.mk 1 v ⟨#[]⟩ false []) = _;rw [er8];rw [show ed3 gZ [] (.mk 1 v ⟨#[]⟩ false []) = v from hv, hw];rfl
theorem fold_ok (e : Ex) : dq0 e = 0 → er4 e := by
 refine dg9 (P := fun e => dq0 e = 0 → er4 e) (fun op v nm ds ks ih hc => ?_) e;obtain ⟨h1, h2, h3⟩ := eo3 hc;have hkc := ep8 hc;have hk : ∀ x ∈ ks, er4 x := fun x hx => ih x hx (hkc x hx)
 have hval := ek9 (g := gZ) (env := []) hc
 cases hcl : el1 (.mk op v nm ds ks) && eo5 (ed3 gZ [] (.mk op v nm ds ks)) with
 | true =>
  have hf : ep0 (.mk op v nm ds ks) = eo7 (ed3 gZ [] (.mk op v nm ds ks)) := by rw [er8, hcl]; rfl
  rw [fg6] at hcl;have ho : Val.okV (ed3 gZ [] (.mk op v nm ds ks)) = true := ed5 _ _ _;have hco := eq0 ho hcl.2;refine ⟨fun w _ => by rw [hf]; exact eq2 hco w, ?_, ?_, fun g env => ?_, ?_, ?_⟩
  ·rw [hf, dk6, dk6];show 0 + 1 ≤ _;omega
  ·rw [hf, dl1, dl1];show 0 + 1 ≤ _;omega
  ·rw [hf, eq5 g env ho, hval];exact (eo1 _ false h3 hcl.1 gZ g [] env).1
  ·rw [hf, hcl.1]; rfl
  ·rw [hf]; exact fold_cst hco ho hcl.2
 | false =>
  have hf : ep0 (.mk op v nm ds ks) = eo9 op v nm ds (ks.map ep0) := by rw [er8, hcl]; rfl
  have hnd : ndL (ks.map ep0) ≤ ndL ks := er6 fun x hx => (hk x hx).nd
  have hdp : dpL (ks.map ep0) ≤ dpL ks := er7 fun x hx => (hk x hx).dp
  rcases ep3 op v nm ds (ks.map ep0) with hm | ⟨a, b, hab, hop, hx⟩
  ·rw [hm] at hf
   have hclo : el1 (.mk op v nm ds (ks.map ep0)) = el1 (.mk op v nm ds ks) := by
    have : ∀ l : List Ex, (∀ x ∈ l, er4 x) → el2 (l.map ep0) = el2 l := by
     intro l
     induction l with
     | nil => intro _; rfl
     | cons x r ihr =>
      intro h;rw [fj0, el2, el2, (h x (by simp)).cl, ihr fun y hy => h y (by simp [hy])]
    rw [el1, el1, this ks hk]
   have hvv : ∀ (g : Gr) (env : List Bd), evF g env (.mk op v nm ds (ks.map ep0)) = evF g env (.mk op v nm ds ks) := fun g env => by
    have : evL g env (ks.map ep0) = evL g env ks := by
     rw [dz7, dz7, List.map_map];exact fq4 fun x hx => (hk x hx).val g env
    simp only [evF];rw [this]
   have hvs : ∀ w, dp2 (.mk op v nm ds ks) w = 0 → dp2 (.mk op v nm ds (ks.map ep0)) w = 0 := fun w hw => by
    have hs := eh6 hw;rw [ep9 (ks' := ks.map ep0) (by rw [fj8])] at hs;rw [dp5 hs];refine ep5 fun y hy => ?_
    have hy : y ∈ ks.map ep0 := hy;obtain ⟨x, hx, rfl⟩ := fk8.1 hy;exact (hk x hx).vis _ (eo0 hw x hx)
   have n1 : nd (.mk op v nm ds (ks.map ep0)) ≤ nd (.mk op v nm ds ks) := by
    rw [dk6, dk6];show ndL (ks.map ep0) + 1 ≤ ndL ks + 1;omega
   have d1 : dp (.mk op v nm ds (ks.map ep0)) ≤ dp (.mk op v nm ds ks) := by
    rw [dl1, dl1];show dpL (ks.map ep0) + 1 ≤ dpL ks + 1;omega
   refine ⟨fun w hw => by rw [hf]; exact hvs w hw, by rw [hf]; exact n1, by rw [hf]; exact d1, fun g env => by rw [hf]; exact hvv g env, by rw [hf]; exact hclo, ?_⟩;rw [hf, er8];have hcx : dq0 (.mk op v nm ds (ks.map ep0)) = 0 := eo4 (by omega) (by omega) (hvs false h3);rw [ek9 hcx, hvv, hclo, ← hval, hcl, cond_false, List.map_map];have : ks.map (ep0 ∘ ep0) = ks.map ep0 := fq4 fun x hx => (hk x hx).idem
   rw [this, hm]
  ·have hn : eo8 op = 0 ∨ eo8 op = 1 := by
    rcases hop with rfl | rfl
    ·exact .inr rfl
    ·exact .inl rfl
   obtain ⟨a0, b0, rfl, ha, hb⟩ : ∃ a0 b0, ks = [a0, b0] ∧ ep0 a0 = a ∧ ep0 b0 = b := by
    match ks, hab with
    | [a0, b0], hab =>
     rw [fj0, fj0, fn5] at hab;injection hab with e1 e2
     injection e2 with e2 _
     exact ⟨a0, b0, rfl, e1, e2⟩
   have ka := hk a0 (by simp);have kb := hk b0 (by simp);have hvk := eo0 h3
   have w24 : ∀ w, (w || op == 24) = w := fun w => by
    rcases hop with rfl | rfl <;> simp
   have va : dp2 a false = 0 := by rw [← ha]; exact ka.vis false (by have := hvk a0 (by simp); rwa [w24] at this)
   have vb : dp2 b false = 0 := by rw [← hb]; exact kb.vis false (by have := hvk b0 (by simp); rwa [w24] at this)
   have hnn : nd a0 + (nd b0 + 0) + 1 = nd (.mk op v nm ds [a0, b0]) := rfl;have hdd : max (dp a0) (max (dp b0) 0) + 1 = dp (.mk op v nm ds [a0, b0]) := rfl
   have hcc : el1 (.mk op v nm ds [a0, b0]) = (el1 a0 && el1 b0) := by
    rw [el1, el2, el2, el2, fm4];rcases hop with rfl | rfl <;> rfl
   rcases hx with ⟨x1, x2, x3⟩ | ⟨x1, x2, x3⟩
   ·rw [x3] at hf;refine ⟨fun w hw => ?_, ?_, ?_, fun g env => ?_, ?_, ?_⟩
    ·rw [hf, ← hb];refine kb.vis w ?_;have := eo0 hw b0 (by simp);rwa [w24] at this
    ·rw [hf, ← hb, ← hnn]; have := kb.nd; omega
    ·rw [hf, ← hb, ← hdd]; have := kb.dp; omega
    ·rw [hf, er3 g env v nm ds a0 b0 op hop, ← ka.val g env, ← kb.val g env, ha, hb, er2 hn x1 va g env];have hbv := er1 x2 g env;rcases hop with rfl | rfl
     ·show evF g env b = bq9 (min (2 * eo8 18) (bq8 (evF g env b)));rw [show 2 * eo8 18 = 2 from rfl, min2]; exact hbv
     ·show evF g env b = bq9 (max (2 * eo8 19) (bq8 (evF g env b)));rw [show 2 * eo8 19 = 0 from rfl, max0]; exact hbv
    ·have hca : el1 a0 = true := by rw [← ka.cl, ha]; exact er5 x1 va
     rw [hf, hcc, hca, fh3, ← hb, kb.cl]
    ·rw [hf, ← hb, kb.idem]
   ·rw [x3] at hf;refine ⟨fun w hw => ?_, ?_, ?_, fun g env => ?_, ?_, ?_⟩
    ·rw [hf, ← ha];refine ka.vis w ?_;have := eo0 hw a0 (by simp);rwa [w24] at this
    ·rw [hf, ← ha, ← hnn]; have := ka.nd; omega
    ·rw [hf, ← ha, ← hdd]; have := ka.dp; omega
    ·rw [hf, er3 g env v nm ds a0 b0 op hop, ← ka.val g env, ← kb.val g env, ha, hb, er2 hn x1 vb g env];have hav := er1 x2 g env;rcases hop with rfl | rfl
     ·show evF g env a = bq9 (min (bq8 (evF g env a)) (2 * eo8 18));rw [show 2 * eo8 18 = 2 from rfl, min2']; exact hav
     ·show evF g env a = bq9 (max (bq8 (evF g env a)) (2 * eo8 19));rw [show 2 * eo8 19 = 0 from rfl, max0']; exact hav
    ·have hcb : el1 b0 = true := by rw [← kb.cl, hb]; exact er5 x1 vb
     rw [hf, hcc, hcb, fm4, ← ha, ka.cl]
    ·rw [hf, ← ha, ka.idem]
mutual
def er9 : Ex → List Ex
 | .mk op v nm ds ks => bif op == 18 && ks.length == 2 then es0 ks else [.mk op v nm ds ks]
def es0 : List Ex → List Ex
 | [] => []
 | x :: r => er9 x ++ es0 r
end
def es1 (a b : Ex) : Ex := .mk 18 bp9 ⟨#[]⟩ false [a, b]
def es2 : List Ex → Ex
 | [] => eo7 (bp4 true)
 | x :: r => r.foldl es1 x
def mnT (g : Gr) (env : List Bd) (l : List Ex) : Int := l.foldr (fun x t => min (bq8 (evF g env x)) t) 2
theorem es3 (g : Gr) (env : List Bd) : ∀ (a b : List Ex), mnT g env (a ++ b) = min (mnT g env a) (mnT g env b)
 | [], b => by
  show mnT g env b = min 2 (mnT g env b)
  have : mnT g env b ≤ 2 := by
   cases b with
   | nil => exact Int.le_refl _
   | cons x r =>
    have h : bq8 (evF g env x) ≤ 2 := by rcases ek6 (evF g env x) with h | h | h <;> omega
    exact Int.le_trans (Int.min_le_left _ _) h
  omega
 | x :: a, b => by
  have := es3 g env a b;show min (bq8 (evF g env x)) (mnT g env (a ++ b)) = min (min (bq8 (evF g env x)) (mnT g env a)) (mnT g env b);rw [this, Int.min_assoc]
theorem es4 (g : Gr) (env : List Bd) (x : Ex) : mnT g env [x] = bq8 (evF g env x) := min2'
theorem es5 (g : Gr) (env : List Bd) (v : V) (nm : ByteArray) (ds : Bool) (a b : Ex) : bq8 (evF g env (.mk 18 v nm ds [a, b])) = min (bq8 (evF g env a)) (bq8 (evF g env b)) := by
 rw [er3 g env v nm ds a b 18 (.inl rfl)];have := ek7 (min (bq8 (evF g env a)) (bq8 (evF g env b)));rw [eq7] at this;show bq8 (bq9 (min _ _)) = _;rw [this];refine ek8 ?_;rcases ek6 (evF g env a) with h | h | h <;> rcases ek6 (evF g env b) with h' | h' | h' <;> rw [h, h'] <;> decide
theorem es6 (g : Gr) (env : List Bd) (e : Ex) : mnT g env (er9 e) = bq8 (evF g env e) := by
 refine dg9 (P := fun e => mnT g env (er9 e) = bq8 (evF g env e)) (fun op v nm ds ks ih => ?_) e;rw [er9]
 cases hc : op == 18 && ks.length == 2 with
 | false => exact es4 g env _
 | true =>
  rw [fg6, beq_iff_eq, beq_iff_eq] at hc;obtain ⟨rfl, h2⟩ := hc
  match ks, h2, ih with
  | [a, b], _, ih =>
   rw [cond_true, es0, es0, es0, fn1, es3, ih a (by simp), ih b (by simp), es5]
theorem es7 (g : Gr) (env : List Bd) : ∀ (r : List Ex) (x : Ex), bq8 (evF g env (r.foldl es1 x)) = min (bq8 (evF g env x)) (mnT g env r)
 | [], x => min2'.symm
 | y :: r, x => by
  rw [fo7, es7 g env r (es1 x y)];show min (bq8 (evF g env (.mk 18 bp9 ⟨#[]⟩ false [x, y]))) (mnT g env r) = min (bq8 (evF g env x)) (min (bq8 (evF g env y)) (mnT g env r));rw [es5, Int.min_assoc]
theorem es8 (e : Ex) : er9 e ≠ [] := by
 refine dg9 (P := fun e => er9 e ≠ []) (fun op v nm ds ks ih => ?_) e;rw [er9]
 cases hc : op == 18 && ks.length == 2 with
 | false => simp
 | true =>
  rw [fg6, beq_iff_eq, beq_iff_eq] at hc
  match ks, hc.2, ih with
  | [a, b], _, ih =>
   rw [cond_true, es0];intro h;exact ih a (by simp) (List.append_eq_nil_iff.1 h).1
theorem es9 (g : Gr) (env : List Bd) (e : Ex) : bq8 (evF g env (es2 (er9 e))) = bq8 (evF g env e) := by
 have h := es6 g env e;have hne := es8 e
 cases hl : er9 e with
 | nil => exact absurd hl hne
 | cons x r =>
  rw [hl] at h;show bq8 (evF g env (r.foldl es1 x)) = _;rw [es7];exact h
theorem et0 {e : Ex} (h : e.op ≠ 18) : er9 e = [e] := by
 obtain ⟨op, v, nm, ds, ks⟩ := e;have h : op ≠ 18 := h;rw [er9, show (op == 18) = false by simpa using h];rfl
theorem et1 (a b : Ex) : er9 (es1 a b) = er9 a ++ er9 b := by
 show er9 (.mk 18 bp9 ⟨#[]⟩ false [a, b]) = _;rw [er9];show es0 [a, b] = _;rw [es0, es0, es0, fn1]
theorem et2 : ∀ (r : List Ex) (x : Ex), (∀ y ∈ r, y.op ≠ 18) → er9 (r.foldl es1 x) = er9 x ++ r
 | [], x, _ => by simp
 | y :: r, x, h => by
  rw [fo7, et2 r (es1 x y) fun z hz => h z (by simp [hz]), et1, et0 (h y (by simp)), fj1];rfl
theorem et3 {l : List Ex} (h0 : l ≠ []) (h : ∀ y ∈ l, y.op ≠ 18) : er9 (es2 l) = l := by
 cases l with
 | nil => exact absurd rfl h0
 | cons x r =>
  show er9 (r.foldl es1 x) = _;rw [et2 r x fun y hy => h y (by simp [hy]), et0 (h x (by simp))];rfl
end Go.Proofs.YtibfalecohlngaaGreatDoor
namespace Go.Proofs.YtibfalecohlngaaGreatDoor
set_option maxRecDepth 4000
open Go Go.Abs Go.Val Go.RowKit Go.Proofs.Tryz
attribute [local irreducible] go SGo an2 Ev aw0 EvO EvS RGo cr5
theorem et4 (a : V) : cr5 a a = 0 := by have := cw9 a a; omega
structure SSx (n : Nat) where
 i : Nat
 hi : i ≤ n
theorem et5 (l : List Ex) (h : ∀ x ∈ l, Ev E 8 [dg0 x, dg0 x] (.d (.bool true))) : Ev E 11 [.sl (df9 l), .sl (df9 l)] (.d (.bool true)) := Ev.fit fun hfit => by
 obtain ⟨hmax, -⟩ := dg8 (hfit (.sl (df9 l)) (by simp));have hle : (df9 l).length = l.length := dg6 l;have g0 : (((df9 l).length : Int) != ((df9 l).length : Int)) = false := by simp
 refine ye2 func11 ntmps11 fun _ _ _=>?_
 repeat' (refine yz ?_)
 refine ac7 (α := SSx l.length) (fun p => ⟨[(0, .d (.sl (df9 l))), (1, .d (.sl (df9 l))), (5, .d (.int p.i))], []⟩) (fun p => l.length - p.i) ⟨0, by omega⟩ (zle 0) ?_;rintro ⟨i, hi⟩;dsimp only;rcases fg7 i l.length with hlt | hge
 ·have q1 : decide ((i : Int) < ((df9 l).length : Int)) = true := by rw [hle]; simpa using hlt
  have hx0 := fg5 hlt;generalize l[i] = x at hx0;have hx : (df9 l)[(i : Int).toNat]? = some (dg0 x) := dg4 (by rw [fh0]; exact hx0);have hs := h x (fg9 hx0)
  repeat' (first | refine yz ?_ | refine yi (dg0 x) hx ?_ | refine yp b8 hs ?_)
  refine ac1 ?_;exact ⟨⟨i + 1, by omega⟩, by dsimp only; omega, (zle 0)⟩
 ·have q1 : decide ((i : Int) < ((df9 l).length : Int)) = false := by rw [hle]; simp; omega
  repeat' (first | refine yz ?_ | exact zD)
theorem et6 (e : Ex) : Ev E 8 [dg0 e, dg0 e] (.d (.bool true)) := by
 refine dg9 (P := fun e => Ev E 8 [dg0 e, dg0 e] (.d (.bool true))) (fun op v nm ds ks ih => ?_) e;have h1 := cs1 v v;rw [et4] at h1;have h2 := et5 ks ih;have g1 : (op == op) = true := beq_self_eq_true _;have g2 : (nm.toList == nm.toList) = true := beq_self_eq_true _;have g3 : (ds == ds) = true := beq_self_eq_true _;have g4 : ((0 : Int) == 0) = true := rfl;obtain ⟨vk, vn, vd, vS, vl⟩ := v;show Ev E 8 [.agg [.int op, .int vk, .int vn, .int vd, .str vS, .sl (bo1 vl), .str nm, .bool ds, .sl (df9 ks)], .agg [.int op, .int vk, .int vn, .int vd, .str vS, .sl (bo1 vl), .str nm, .bool ds, .sl (df9 ks)]] (.d (.bool true));refine ye2 func8 ntmps8 fun _ _ _=>?_
 repeat' (first | refine yz ?_ | refine yp b24 h1 ?_ | refine yp b11 h2 ?_ | refine yx ?_ | exact zD)
theorem et7 (l : List Ex) : Ev E 11 [.sl (df9 l), .sl (df9 l)] (.d (.bool true)) := et5 l fun x _ => et6 x
end Go.Proofs.YtibfalecohlngaaGreatDoor
namespace Go.Proofs.YtibfalecohlngaaGreatDoor
set_option maxRecDepth 4000
open Go Go.Abs Go.Val Go.RowKit Go.Proofs.Tryz
attribute [local irreducible] go SGo an2 Ev aw0 EvO EvS RGo
theorem et8 {l : List Ex} : (l.any fun x => !el1 x) = !el2 l := by
 rw [el6]
 induction l with
 | nil => rfl
 | cons x r ih => rw [List.any_cons, fk0, ih]; cases el1 x <;> simp
theorem et9 (e : Ex) (h : Ev E 50 [dg0 e] (.d (.bool (el1 e)))) : Ev E 85 [dg0 e] (.d (.bool (!el1 e))) := by
 refine ye1 func85 ntmps85 fun _ _ _=>?_
 repeat' (first | refine yz ?_ | refine yp b50 h ?_ | exact zD)
theorem eu0 (e : Ex) : Ev E 50 [dg0 e] (.d (.bool (el1 e))) := by
 refine dg9 (P := fun e => Ev E 50 [dg0 e] (.d (.bool (el1 e)))) (fun op v nm ds ks ih => ?_) e;have h := dr0 85 b85 (fun x => !el1 x) ks fun x hx => et9 x (ih x hx)
 rw [et8, ← dg1] at h;obtain ⟨vk, vn, vd, vS, vl⟩ := v;show Ev E 50 [.agg [.int op, .int vk, .int vn, .int vd, .str vS, .sl (bo1 vl), .str nm, .bool ds, .sl (df9 ks)]] _;rw [el1]
 cases c1 : op == 2 with
 | true =>
  refine ye1 func50 ntmps50 fun _ _ _=>?_
  repeat' (first | refine yz ?_ | refine yx ?_ | exact zD)
 | false =>
  cases c2 : op == 24 with
  | true =>
   refine ye1 func50 ntmps50 fun _ _ _=>?_
   repeat' (first | refine yz ?_ | refine yx ?_ | exact zD)
  | false =>
   show Ev E 50 _ (.d (.bool (el2 ks)));rw [← Bool.not_not (el2 ks)];refine ye1 func50 ntmps50 fun _ _ _=>?_
   repeat' (first | refine yz ?_ | refine yp b84 h ?_ | refine yx ?_ | exact zD)
structure SCx (l : List Ex) where
 i : Nat
 hi : i ≤ l.length
 ok : el2 l = el2 (l.drop i)
theorem eu1 {l : List Ex} {i : Nat} {x : Ex} (h : l[i]? = some x) : el2 (l.drop i) = (el1 x && el2 (l.drop (i + 1))) := by
 rw [cd5 h, el2]
theorem eu2 (e : Ex) : Ev E 55 [dg0 e] (.d (.bool (el1 e))) := by
 refine dg9 (P := fun e => Ev E 55 [dg0 e] (.d (.bool (el1 e)))) (fun op v nm ds ks ih => ?_) e;refine Ev.fit fun hfit => ?_
 obtain ⟨-, -, -, hmax, -⟩ := dg7 (hfit (dg0 (.mk op v nm ds ks)) (by simp));have hmax : ks.length ≤ 9223372036854775807 := hmax;have hlen : (df8 (.mk op v nm ds ks)).length = ks.length := dg5 _;have hkg : ∀ (i : Nat) (x : Ex), ks[i]? = some x → (df8 (.mk op v nm ds ks))[(i : Int).toNat]? = some (dg0 x) := fun i x h => dg3 (e := .mk op v nm ds ks) (by rw [fh0]; exact h)
 have hop : (Ex.mk op v nm ds ks).op = op := rfl;have hcl : el1 (.mk op v nm ds ks) = (!(op == 2 || op == 24) && el2 ks) := by rw [el1]
 rw [hcl];generalize Ex.mk op v nm ds ks = e at *;rw [← hop]
 cases c1 : e.op == 2 with
 | true =>
  refine ye1 func55 ntmps55 fun _ _ _=>?_
  repeat' (first | refine yz ?_ | refine yx ?_ | exact zD)
 | false =>
  cases c2 : e.op == 24 with
  | true =>
   refine ye1 func55 ntmps55 fun _ _ _=>?_
   repeat' (first | refine yz ?_ | refine yx ?_ | exact zD)
  | false =>
   show Ev E 55 _ (.d (.bool (el2 ks)));refine ye1 func55 ntmps55 fun _ _ _=>?_
   repeat' (first | refine yz ?_ | refine yx ?_)
   refine ac7 (α := SCx ks) (fun p => ⟨[(1, .ptr 0 0), (3, .d (.int p.i))], [.var 27 (.w (.d (dg0 e)))]⟩) (fun p => ks.length - p.i) ⟨0, by omega, rfl⟩ (zle 1) ?_;rintro ⟨i, hi, ok⟩;dsimp only;rcases fg7 i ks.length with hlt | hge
   ·have g1 : decide ((i : Int) < ((df8 e).length : Int)) = true := by rw [hlen]; simpa using hlt
    have hx0 := fg5 hlt;generalize ks[i] = x at hx0;have hx := hkg i x hx0;have hc := ih x (fg9 hx0);rw [ok, eu1 hx0]
    cases hz : el1 x with
    | false =>
     rw [hz] at hc
     repeat' (first | refine yz ?_ | refine yi (dg0 x) hx ?_ | refine yp b55 hc ?_ | exact zD)
    | true =>
     rw [hz] at hc
     repeat' (first | refine yz ?_ | refine yi (dg0 x) hx ?_ | refine yp b55 hc ?_)
     refine ac1 ?_;exact ⟨⟨i + 1, by omega, by rw [ok, eu1 hx0, hz]; rfl⟩, by dsimp only; omega, (zle 1)⟩
   ·have g1 : decide ((i : Int) < ((df8 e).length : Int)) = false := by rw [hlen]; simp; omega
    rw [ok, fh6 hge]
    repeat' (first | refine yz ?_ | exact zD)
theorem eu3 (v : V) : Ev E 52 [enc v] (.d (.bool (eo5 v))) := by
 refine ye1 func52 ntmps52 fun _ _ _=>?_
 repeat' (first | refine yz ?_ | (refine yy ?_ ?_ <;> intro _) | (refine qV rfl ?_ ?_ <;> intro _))
 all_goals (refine congrArg D.bool ?_; simp_all [eo5])
theorem eu4 (v : V) : Ev E 56 [enc v] (.d (.bool (eo5 v))) := by
 refine ye1 func56 ntmps56 fun _ _ _=>?_
 repeat' (first | refine yz ?_ | (refine yy ?_ ?_ <;> intro _))
 all_goals (refine congrArg D.bool ?_; simp_all [eo5])
theorem eu5 (e : Ex) : Ev E 54 [dg0 e] (.d (.bool (eo6 e.op))) := by
 refine ye1 func54 ntmps54 fun _ _ _=>?_
 repeat' (first | refine yz ?_ | (refine qV rfl ?_ ?_ <;> intro _))
 all_goals (refine congrArg D.bool ?_; simp_all [eo6] <;> omega)
set_option maxHeartbeats 8000000 in
theorem eu6 (e : Ex) : Ev E 58 [dg0 e] (.d (.bool (eo6 e.op))) := by
 unfold eo6
 cases c1 : e.op == 4 <;> cases c2 : e.op == 5 <;> cases c3 : decide (e.op ≥ 12) <;> cases c4 : decide (e.op ≤ 19) <;> cases c5 : e.op == 20 <;> cases c6 : e.op == 21
 all_goals
  refine ye1 func58 ntmps58 fun _ _ _=>?_
  repeat' (first | refine yz ?_ | refine yx ?_ | exact zD)
 all_goals (refine congrArg D.bool ?_; rw [c6]; rfl)
theorem eu7 (e : Ex) (n : Int) : Ev E 53 [dg0 e, .int n] (.d (.bool (isX e n))) := by
 refine ye2 func53 ntmps53 fun _ _ _=>?_
 repeat' (first | refine yz ?_ | (refine yy ?_ ?_ <;> intro _))
 all_goals (refine congrArg D.bool ?_; simp_all [isX])
theorem eu8 (e : Ex) (n : Int) : Ev E 57 [dg0 e, .int n] (.d (.bool (isX e n))) := by
 refine ye2 func57 ntmps57 fun _ _ _=>?_
 repeat' (first | refine yz ?_ | (refine yy ?_ ?_ <;> intro _))
 all_goals (refine congrArg D.bool ?_; simp_all [isX])
theorem eu9 (n : Int) : Ev E 29 [.int n] (.d (dg0 (eo7 (.mk 1 n 0 ⟨#[]⟩ [])))) := by
 refine ye1 func29 ntmps29 fun _ _ _=>?_
 repeat' (first | refine yz ?_ | exact zD)
attribute [local irreducible] binOp
def ev0 (s : ByteArray) : Ex := .mk 2 bp9 s false []
theorem ev1 (n : Int) : Ev E 22 [.int n] (.d (dg0 (eh9 n))) := by
 refine ye1 func22 ntmps22 fun _ _ _=>?_
 repeat' (first | refine yz ?_ | exact zD)
theorem ev2 (s : ByteArray) : Ev E 21 [.str s] (.d (dg0 (ev0 s))) := by
 refine ye1 func21 ntmps21 fun _ _ _=>?_
 repeat' (first | refine yz ?_ | exact zD)
theorem ev3 (k : Int) (a b : Ex) : Ev E 20 [.int k, dg0 a, dg0 b] (.d (dg0 (opE k a b))) := by
 refine ye3 func20 ntmps20 fun _ _ _=>?_
 repeat' (first | refine yz ?_ | exact zD)
theorem ev4 (e : Ex) : nd e ≤ 2000000 → Ev E 17 [dg0 e] (.d (.int (szE e))) := by
 refine dg9 (P := fun e => nd e ≤ 2000000 → Ev E 17 [dg0 e] (.d (.int (szE e)))) (fun op v nm ds ks ih hn => ?_) e;have hlen : (df8 (.mk op v nm ds ks)).length = ks.length := dg5 _;have hkg : ∀ (i : Nat) (x : Ex), ks[i]? = some x → (df8 (.mk op v nm ds ks))[(i : Int).toNat]? = some (dg0 x) := fun i x h => dg3 (e := .mk op v nm ds ks) (by rw [fh0]; exact h)
 rw [dk6] at hn;have hn' : ndL ks + 1 ≤ 2000000 := hn
 have hkl : ks.length ≤ ndL ks := by
  have : ∀ l : List Ex, l.length ≤ ndL l := by
   intro l
   induction l with
   | nil => simp
   | cons a r ihr => have := ee9 a; simp only [fh9, ndL]; omega
  exact this ks
 rw [szE];generalize Ex.mk op v nm ds ks = e at *;refine ye1 func17 ntmps17 fun _ _ _=>?_
 repeat' (refine yz ?_)
 refine ac7 (α := SSz ks (1 + ndL ks)) (fun p => ⟨[(1, .ptr 0 0), (3, .d (.int p.n)), (4, .d (.int p.i))], [.var 27 (.w (.d (dg0 e)))]⟩) (fun p => ks.length - p.i) ⟨0, 1, by omega, by omega, by rw [fm6]; omega, rfl⟩ (zle 1) ?_;rintro ⟨i, n, hi, h1, h2, ok⟩;dsimp only;rcases fg7 i ks.length with hlt | hge
 ·have g1 : decide ((i : Int) < ((df8 e).length : Int)) = true := by rw [hlen]; simpa using hlt
  have hx0 := fg5 hlt;generalize ks[i] = x at hx0;have hx := hkg i x hx0;have hnd : ndL (ks.drop i) = nd x + ndL (ks.drop (i + 1)) := dk8 hx0;have hcx := ih x (fg9 hx0) (by omega);have hs := ei1 x;rw [ei4 hx0] at ok
  cases hd : decide (n ≤ 1000) with
  | true =>
   rw [hd, cond_true] at ok
   repeat' (first | refine yz ?_ | refine yi (dg0 x) hx ?_ | refine yp b17 hcx ?_ | refine yx ?_)
   refine ac1 ?_;exact ⟨⟨i + 1, n + szE x, by omega, by omega, by omega, ok⟩, by dsimp only; omega, (zle 1)⟩
  | false =>
   rw [hd, cond_false] at ok;rw [ok]
   repeat' (first | refine yz ?_ | refine yx ?_ | exact zD)
 ·have g1 : decide ((i : Int) < ((df8 e).length : Int)) = false := by rw [hlen]; simp; omega
  rw [fh6 hge, szL] at ok;rw [ok]
  repeat' (first | refine yz ?_ | refine yx ?_ | exact zD)
def ev5 : List Ex → Int → Bool
 | [], _ => true
 | x :: r, n => bif decide (n + szE x > 600) then false else ev5 r (n + szE x)
structure SLg (l : List Ex) where
 i : Nat
 n : Int
 hi : i ≤ l.length
 h0 : 0 ≤ n
 h1 : n ≤ 600
 ok : ev5 l 0 = ev5 (l.drop i) n
theorem ev6 {l : List Ex} {i : Nat} {x : Ex} {n : Int} (h : l[i]? = some x) : ev5 (l.drop i) n = bif decide (n + szE x > 600) then false else ev5 (l.drop (i + 1)) (n + szE x) := by
 rw [cd5 h, ev5]
theorem ev7 (l : List Ex) (hn : ∀ x ∈ l, nd x ≤ 2000000) : Ev E 6 [.sl (df9 l)] (.d (.bool (ev5 l 0))) := Ev.fit fun hfit => by
 obtain ⟨hmax, -⟩ := dg8 (hfit (.sl (df9 l)) (by simp));have hle : (df9 l).length = l.length := dg6 l;refine ye1 func6 ntmps6 fun _ _ _=>?_
 repeat' (refine yz ?_)
 refine ac7 (α := SLg l) (fun p => ⟨[(0, .d (.sl (df9 l))), (3, .d (.int p.n)), (4, .d (.int p.i))], []⟩) (fun p => l.length - p.i) ⟨0, 0, by omega, by omega, by omega, rfl⟩ (zle 0) ?_;rintro ⟨i, n, hi, h0, h1, ok⟩;dsimp only;rcases fg7 i l.length with hlt | hge
 ·have g1 : decide ((i : Int) < ((df9 l).length : Int)) = true := by rw [hle]; simpa using hlt
  have hx0 := fg5 hlt;generalize l[i] = x at hx0;have hx : (df9 l)[(i : Int).toNat]? = some (dg0 x) := dg4 (by rw [fh0]; exact hx0);have hm := hn x (fg9 hx0);have hs := ev4 x hm;have hz := ei1 x;rw [ev6 hx0] at ok
  cases hd : decide (n + szE x > 600) with
  | true =>
   rw [hd, cond_true] at ok;rw [ok]
   repeat' (first | refine yz ?_ | refine yi (dg0 x) hx ?_ | refine yp b17 hs ?_ | exact zD)
  | false =>
   rw [hd, cond_false] at ok;have := of_decide_eq_false hd
   repeat' (first | refine yz ?_ | refine yi (dg0 x) hx ?_ | refine yp b17 hs ?_)
   refine ac1 ?_;exact ⟨⟨i + 1, n + szE x, by omega, by omega, by omega, ok⟩, by dsimp only; omega, (zle 0)⟩
 ·have g1 : decide ((i : Int) < ((df9 l).length : Int)) = false := by rw [hle]; simp; omega
  rw [fh6 hge, ev5] at ok;rw [ok]
  repeat' (first | refine yz ?_ | exact zD)
theorem ev8 : ∀ {l : List Ex} {n : Int}, 0 ≤ n → ev5 l n = true → ∀ x ∈ l, nd x ≤ 600
 | [], _, _, _, x, h => by cases h
 | a :: r, n, hn, h, x, hx => by
  rw [ev5] at h;have hz := ei1 a
  cases hd : decide (n + szE a > 600) with
  | true => rw [hd] at h; cases h
  | false =>
   rw [hd, cond_false] at h;have h1 := of_decide_eq_false hd;rcases fh7.1 hx with rfl | hx
   ·have := ei3 x (by omega);omega
   ·exact ev8 (by omega) h x hx
end Go.Proofs.YtibfalecohlngaaGreatDoor
namespace Go.Proofs.YtibfalecohlngaaGreatDoor
set_option maxRecDepth 4000
open Go Go.Abs Go.Val Go.RowKit Go.Proofs.Tryz
attribute [local irreducible] go SGo an2 Ev aw0 EvO EvS RGo
abbrev eXU (op vk vn vd : Int) (vS : ByteArray) (vl : List D) (nm : ByteArray) (ds : Bool) (x : X) : aa5 := .var 27 (.cs [.d (.int op), .d (.int vk), .d (.int vn), .d (.int vd), .d (.str vS), .d (.sl vl), .d (.str nm), .d (.bool ds), x])
abbrev zXU : aa5 := .var 27 (.cs [.d (.int 0), .d (.int 0), .d (.int 0), .d (.int 0), .d (.str ⟨#[]⟩), .nilS, .d (.str ⟨#[]⟩), .d (.bool false), .nilS])
abbrev oXU (e : D) : aa5 := .var 27 (.w (.d e))
abbrev rXU (l : List D) : aa5 := .row 27 9 l
theorem ev9 (l : List Ex) : ∀ d ∈ df9 l, d.cells.length = 9 := fun d hd => by
 rw [dg1] at hd;obtain ⟨u, -, rfl⟩ := fk8.1 hd;rfl
theorem ew0 : ∀ l : List Ex, l.length ≤ ndL l
 | [] => fh5 _
 | a :: r => by
  have h1 := ee9 a;have h2 := ew0 r;simp only [fh9, ndL]; omega
theorem ew1 : Ev E 49 [.sl []] (.d (.sl [])) := by
 refine ye1 func49 ntmps49 fun _ _ _=>?_
 repeat' (first | refine yz ?_ | (refine ay6 rfl (fun _ => ?_) ?_) | refine az3 rfl rfl rfl rfl rfl rfl rfl rfl ?_ | exact zD)
theorem ew2 (l : List Ex) (h0 : l ≠ []) (hn : l.length ≤ 2000000) : EvO E 49 [.sl (df9 l)] 27 9 (df9 l) := by
 have hle : (df9 l).length = l.length := dg6 _;have hne : df9 l ≠ [] := by rw [dg1]; simpa using h0
 refine az4 func49 ntmps49 rfl rfl fun w0 F0 O => ?_
 repeat' (first | refine az0 rfl rfl rfl rfl rfl rfl rfl (by decide) (by decide) ?_ | refine yz ?_ | (refine ay6 rfl (fun h => absurd h hne) ?_))
 refine qS rfl ⟨hne, ev9 l, by (show (0 + (df9 l).length) * 120 ≤ 140737488355328; omega), by (show 0 + (df9 l).length ≤ 9223372036854775807; omega)⟩ ?_
 repeat' (first | refine yz ?_ | exact zL)
theorem ew3 (e : Ex) : nd e ≤ 2000000 → Ev E 26 [dg0 e] (.d (dg0 e)) := by
 refine dg9 (P := fun e => nd e ≤ 2000000 → Ev E 26 [dg0 e] (.d (dg0 e))) (fun op v nm ds ks ih hn => ?_) e;rw [dk6] at hn;have hn' : ndL ks + 1 ≤ 2000000 := hn;have hkl := ew0 ks;have hnx : ∀ x ∈ ks, Ev E 26 [dg0 x] (.d (dg0 x)) := fun x hx => ih x hx (by have := dk7 hx; omega)
 obtain ⟨vk, vn, vd, vS, vl⟩ := v;show Ev E 26 [.agg [.int op, .int vk, .int vn, .int vd, .str vS, .sl (bo1 vl), .str nm, .bool ds, .sl (df9 ks)]] (.d (.agg [.int op, .int vk, .int vn, .int vd, .str vS, .sl (bo1 vl), .str nm, .bool ds, .sl (df9 ks)]));have hle : (df9 ks).length = ks.length := dg6 _;generalize bo1 vl = VL
 by_cases h0 : ks = []
 ·subst h0;show Ev E 26 [.agg [.int op, .int vk, .int vn, .int vd, .str vS, .sl VL, .str nm, .bool ds, .sl []]] (.d (.agg [.int op, .int vk, .int vn, .int vd, .str vS, .sl VL, .str nm, .bool ds, .sl []]));refine ye1 func26 ntmps26 fun _ _ _=>?_
  repeat' (first | refine yz ?_ | refine yp b49 ew1 ?_)
  refine ac7 (α := Unit) (fun _ => ⟨[(1, .ptr 0 0), (2, .ptr 1 0), (10, .d (.sl [])), (11, .d (.int 0)), (12, .d (.int 0))], [eXU op vk vn vd vS VL nm ds (.d (.sl [])), zXU]⟩) (fun _ => 0) () (zle 2) ?_;rintro -;have g1 : decide ((0 : Int) < 0) = false := rfl
  repeat' (first | refine yz ?_ | exact zD)
 ·have hc := ew2 ks h0 (by omega);refine ye1 func26 ntmps26 fun _ _ _=>?_
  repeat' (first | refine yz ?_ | refine ay9 rfl rfl rfl rfl rfl rfl b49 (hc) ?_)
  refine ac7 (α := Fin (ks.length + 1)) (fun p => ⟨[(1, .ptr 0 0), (2, .ptr 1 0), (10, .own 2), (11, .d (.int (df9 ks).length)), (12, .d (.int p.val))], [eXU op vk vn vd vS VL nm ds (.own 2), zXU, rXU (df9 ks)]⟩) (fun p => ks.length - p.val) ⟨0, by omega⟩ (zle 3) ?_;rintro ⟨i, hi⟩;dsimp only;rcases fg7 i ks.length with hlt | hge
  ·have g1 : decide ((i : Int) < ((df9 ks).length : Int)) = true := by rw [hle]; simpa using hlt
   have hx0 := fg5 hlt;generalize ks[i] = x at hx0;have hx : (df9 ks)[(i : Int).toNat]? = some (dg0 x) := dg4 (by rw [fh0]; exact hx0);have hcx := hnx x (fg9 hx0);have hset : (df9 ks).set (i : Int).toNat (ar1 (dg0 x) 0 (dg0 x)) = df9 ks := df1 hx
   repeat' (first | refine yq 5 [6] ?_ | refine yf 5 0 6 ?_ | refine yw ?_ | refine rgN ?_ | refine yz ?_ | refine qW (dg0 x) rfl rfl rfl rfl rfl rfl hx rfl ?_ | refine yp b26 hcx ?_)
   refine ac1 ?_;refine ⟨⟨i + 1, by omega⟩, by dsimp only; omega, ?_⟩;show Le _ ⟨_, [_, _, rXU ((df9 ks).set (i : Int).toNat (ar1 (dg0 x) 0 (dg0 x))), _]⟩ _;rw [hset];exact (zle 3)
  ·have g1 : decide ((i : Int) < ((df9 ks).length : Int)) = false := by rw [hle]; simp; omega
   repeat' (refine yz ?_)
   refine be7 2 rfl ?_
   repeat' (first | refine yz ?_ | exact zD)
attribute [local irreducible] RGw
theorem ew4 (e : Ex) : (er9 e).length ≤ nd e := by
 refine dg9 (P := fun e => (er9 e).length ≤ nd e) (fun op v nm ds ks ih => ?_) e;rw [er9, dk6];show _ ≤ ndL ks + 1
 have key : ∀ l : List Ex, (∀ x ∈ l, (er9 x).length ≤ nd x) → (es0 l).length ≤ ndL l := by
  intro l
  induction l with
  | nil => intro _; exact fh5 _
  | cons a r ihr =>
   intro h;have h1 := h a (by simp);have h2 := ihr fun x hx => h x (by simp [hx])
   simp only [es0, fi3, ndL]; omega
 have hk := key ks ih
 cases op == 18 && ks.length == 2 with
 | true => rw [cond_true]; omega
 | false => rw [cond_false]; simp
theorem ew5 (a b : List Ex) : df9 (a ++ b) = df9 a ++ df9 b := by simp only [dg1, fm7]
theorem ew6 (e : Ex) : nd e ≤ 1000000 → EvO E 12 [dg0 e] 27 9 (df9 (er9 e)) := by
 refine dg9 (P := fun e => nd e ≤ 1000000 → EvO E 12 [dg0 e] 27 9 (df9 (er9 e))) (fun op v nm ds ks ih hn => ?_) e;have hcl := ew3 (.mk op v nm ds ks) (by omega);rw [dk6] at hn;have hn' : ndL ks + 1 ≤ 1000000 := hn;have hlen : (df9 ks).length = ks.length := dg6 ks;have hE : dg0 (.mk op v nm ds ks) = .agg [.int op, .int v.k, .int v.n, .int v.d, .str v.s, .sl (kids v), .str nm, .bool ds, .sl (df9 ks)] := rfl;have hone : (bif op == 18 && ks.length == 2 then es0 ks else [Ex.mk op v nm ds ks]) = er9 (.mk op v nm ds ks) := by rw [er9]
 rw [← hone];rw [hE] at hcl ⊢
 cases c1 : op != 18 with
 | true =>
  have c1' : (op == 18) = false := by simpa using c1
  rw [c1', fi6, cond_false];show EvO E _ _ _ _ [dg0 (.mk op v nm ds ks)];rw [hE];refine az4 func12 ntmps12 rfl rfl fun w0 F0 O => ?_
  repeat' (first | refine az0 rfl rfl rfl rfl rfl rfl rfl (by decide) (by decide) ?_ | refine yz ?_ | refine yp b26 hcl ?_ | refine yx ?_ | exact zL)
 | false =>
  obtain rfl : op = 18 := by simpa using c1
  by_cases h2 : ks.length = 2
  ·match ks, h2, ih with
   | [a, b], _, ih =>
    have hm : ndL [a, b] = nd a + nd b := by simp [ndL]
    have ha := ih a (by simp) (by omega);have hb := (ih b (by simp) (by omega)).ev;have la := ew4 a;have lb := ew4 b;have k0 : (df9 [a, b])[((0 : Int)).toNat]? = some (dg0 a) := rfl;have k1 : (df9 [a, b])[((1 : Int)).toNat]? = some (dg0 b) := rfl;have hbl : (df9 (er9 b)).length = (er9 b).length := dg6 _;have hal : (df9 (er9 a)).length = (er9 a).length := dg6 _;have hbn : df9 (er9 b) ≠ [] := by rw [dg1]; simpa using es8 b
    have hbc := ev9 (er9 b);have g2 : (((df9 [a, b]).length : Int) != 2) = false := rfl;rw [show (bif (18 : Int) == 18 && [a, b].length == 2 then es0 [a, b] else [Ex.mk 18 v nm ds [a, b]]) = er9 a ++ er9 b by show es0 [a, b] = _; rw [es0, es0, es0, fn1], ew5];generalize df9 (er9 a) = A at *;generalize df9 (er9 b) = B at *;refine az4 func12 ntmps12 rfl rfl fun w0 F0 O => ?_
    repeat' (first | refine qErT (id := 3) [4,10] [] (by kernel_rfl) (by kernel_rfl) (by repeat (first | exact trivial | refine ⟨⟨rfl, rfl⟩, ?_⟩ | refine ⟨trivial, ?_⟩)) ?_ | refine reF (id := 3) (i := 0) 4 (by kernel_rfl) rfl ?_ | (refine reV (id := 3) (i := 5) rfl rfl rfl rfl rfl rfl ?_ ?_; (first | exact True.intro | rfl | assumption | omega | (simp only [inR]; omega) | ((show _ ≤ (9223372036854775807 : Nat)); (try simp only [ByteArray.size_append]); omega) | exact av0 (by omega) (by omega) | exact av1 (by omega) (by omega) | exact ⟨rfl, by decide, by decide⟩)) | (refine reV (id := 3) (i := 6) rfl rfl rfl rfl rfl rfl ?_ ?_; (first | exact True.intro | rfl | assumption | omega | (simp only [inR]; omega) | ((show _ ≤ (9223372036854775807 : Nat)); (try simp only [ByteArray.size_append]); omega) | exact av0 (by omega) (by omega) | exact av1 (by omega) (by omega) | exact ⟨rfl, by decide, by decide⟩)) | (refine reV (id := 3) (i := 8) rfl rfl rfl rfl rfl rfl ?_ ?_; (first | exact True.intro | rfl | assumption | omega | (simp only [inR]; omega) | ((show _ ≤ (9223372036854775807 : Nat)); (try simp only [ByteArray.size_append]); omega) | exact av0 (by omega) (by omega) | exact av1 (by omega) (by omega) | exact ⟨rfl, by decide, by decide⟩)) | refine reF (id := 3) (i := 9) 1 (by kernel_rfl) rfl ?_ | refine reF (id := 3) (i := 11) 1 (by kernel_rfl) rfl ?_ | refine reN ?_ | refine yz ?_ | refine yi (dg0 a) k0 ?_ | refine reI (id := 3) (i := 7) (dg0 b) rfl rfl rfl rfl rfl rfl rfl rfl rfl rfl (by first | omega | decide) k1 ?_ | refine bn6 (id := 3) (i := 4) rfl rfl rfl rfl rfl rfl b12 rfl (ha) (by repeat (first | exact trivial | refine ⟨⟨rfl, rfl⟩, ?_⟩ | refine ⟨trivial, ?_⟩)) ?_ | refine yp b12 hb ?_ | refine reS (id := 3) (i := 10) rfl rfl rfl rfl (⟨hbn, hbc, by (show (A.length + B.length) * 120 ≤ 140737488355328; omega), by (show A.length + B.length ≤ 9223372036854775807; omega)⟩) (by repeat (first | exact trivial | refine ⟨⟨rfl, rfl⟩, ?_⟩ | refine ⟨trivial, ?_⟩)) ?_ | exact zL)
  ·have g2 : ((df9 ks).length : Int) != 2 := by rw [hlen, bne_iff_ne]; omega
   have h2' : (ks.length == 2) = false := by simpa using h2
   rw [h2', fk4, cond_false];show EvO E _ _ _ _ [dg0 (.mk 18 v nm ds ks)];rw [hE];refine az4 func12 ntmps12 rfl rfl fun w0 F0 O => ?_
   repeat' (first | refine az0 rfl rfl rfl rfl rfl rfl rfl (by decide) (by decide) ?_ | refine yz ?_ | refine yp b26 hcl ?_ | exact zL)
theorem ew7 (e : Ex) : nd e ≤ 1000000 → EvO E 13 [dg0 e] 27 9 (df9 (er9 e)) := by
 refine dg9 (P := fun e => nd e ≤ 1000000 → EvO E 13 [dg0 e] 27 9 (df9 (er9 e))) (fun op v nm ds ks ih hn => ?_) e;rw [dk6] at hn;have hn' : ndL ks + 1 ≤ 1000000 := hn;have hlen : (df9 ks).length = ks.length := dg6 ks;have hE : dg0 (.mk op v nm ds ks) = .agg [.int op, .int v.k, .int v.n, .int v.d, .str v.s, .sl (kids v), .str nm, .bool ds, .sl (df9 ks)] := rfl;have hone : (bif op == 18 && ks.length == 2 then es0 ks else [Ex.mk op v nm ds ks]) = er9 (.mk op v nm ds ks) := by rw [er9]
 rw [← hone];rw [hE]
 cases c1 : op != 18 with
 | true =>
  have c1' : (op == 18) = false := by simpa using c1
  rw [c1', fi6, cond_false];show EvO E _ _ _ _ [dg0 (.mk op v nm ds ks)];rw [hE];refine az4 func13 ntmps13 rfl rfl fun w0 F0 O => ?_
  repeat' (first | refine az0 rfl rfl rfl rfl rfl rfl rfl (by decide) (by decide) ?_ | refine yz ?_ | refine yx ?_ | exact zL)
 | false =>
  obtain rfl : op = 18 := by simpa using c1
  by_cases h2 : ks.length = 2
  ·match ks, h2, ih with
   | [a, b], _, ih =>
    have hm : ndL [a, b] = nd a + nd b := by simp [ndL]
    have ha := ih a (by simp) (by omega);have hb := (ih b (by simp) (by omega)).ev;have la := ew4 a;have lb := ew4 b;have k0 : (df9 [a, b])[((0 : Int)).toNat]? = some (dg0 a) := rfl;have k1 : (df9 [a, b])[((1 : Int)).toNat]? = some (dg0 b) := rfl;have hbl : (df9 (er9 b)).length = (er9 b).length := dg6 _;have hal : (df9 (er9 a)).length = (er9 a).length := dg6 _;have hbn : df9 (er9 b) ≠ [] := by rw [dg1]; simpa using es8 b
    have hbc := ev9 (er9 b);have g2 : (((df9 [a, b]).length : Int) != 2) = false := rfl;rw [show (bif (18 : Int) == 18 && [a, b].length == 2 then es0 [a, b] else [Ex.mk 18 v nm ds [a, b]]) = er9 a ++ er9 b by show es0 [a, b] = _; rw [es0, es0, es0, fn1], ew5];generalize df9 (er9 a) = A at *;generalize df9 (er9 b) = B at *;refine az4 func13 ntmps13 rfl rfl fun w0 F0 O => ?_
    repeat' (first | refine qErT (id := 3) [4,10] [] (by kernel_rfl) (by kernel_rfl) (by repeat (first | exact trivial | refine ⟨⟨rfl, rfl⟩, ?_⟩ | refine ⟨trivial, ?_⟩)) ?_ | refine reF (id := 3) (i := 0) 4 (by kernel_rfl) rfl ?_ | (refine reV (id := 3) (i := 5) rfl rfl rfl rfl rfl rfl ?_ ?_; (first | exact True.intro | rfl | assumption | omega | (simp only [inR]; omega) | ((show _ ≤ (9223372036854775807 : Nat)); (try simp only [ByteArray.size_append]); omega) | exact av0 (by omega) (by omega) | exact av1 (by omega) (by omega) | exact ⟨rfl, by decide, by decide⟩)) | (refine reV (id := 3) (i := 6) rfl rfl rfl rfl rfl rfl ?_ ?_; (first | exact True.intro | rfl | assumption | omega | (simp only [inR]; omega) | ((show _ ≤ (9223372036854775807 : Nat)); (try simp only [ByteArray.size_append]); omega) | exact av0 (by omega) (by omega) | exact av1 (by omega) (by omega) | exact ⟨rfl, by decide, by decide⟩)) | (refine reV (id := 3) (i := 8) rfl rfl rfl rfl rfl rfl ?_ ?_; (first | exact True.intro | rfl | assumption | omega | (simp only [inR]; omega) | ((show _ ≤ (9223372036854775807 : Nat)); (try simp only [ByteArray.size_append]); omega) | exact av0 (by omega) (by omega) | exact av1 (by omega) (by omega) | exact ⟨rfl, by decide, by decide⟩)) | refine reF (id := 3) (i := 9) 1 (by kernel_rfl) rfl ?_ | refine reF (id := 3) (i := 11) 1 (by kernel_rfl) rfl ?_ | refine reN ?_ | refine yz ?_ | refine yi (dg0 a) k0 ?_ | refine reI (id := 3) (i := 7) (dg0 b) rfl rfl rfl rfl rfl rfl rfl rfl rfl rfl (by first | omega | decide) k1 ?_ | refine bn6 (id := 3) (i := 4) rfl rfl rfl rfl rfl rfl b13 rfl (ha) (by repeat (first | exact trivial | refine ⟨⟨rfl, rfl⟩, ?_⟩ | refine ⟨trivial, ?_⟩)) ?_ | refine yp b13 hb ?_ | refine reS (id := 3) (i := 10) rfl rfl rfl rfl (⟨hbn, hbc, by (show (A.length + B.length) * 120 ≤ 140737488355328; omega), by (show A.length + B.length ≤ 9223372036854775807; omega)⟩) (by repeat (first | exact trivial | refine ⟨⟨rfl, rfl⟩, ?_⟩ | refine ⟨trivial, ?_⟩)) ?_ | exact zL)
  ·have g2 : ((df9 ks).length : Int) != 2 := by rw [hlen, bne_iff_ne]; omega
   have h2' : (ks.length == 2) = false := by simpa using h2
   rw [h2', fk4, cond_false];show EvO E _ _ _ _ [dg0 (.mk 18 v nm ds ks)];rw [hE];refine az4 func13 ntmps13 rfl rfl fun w0 F0 O => ?_
   repeat' (first | refine az0 rfl rfl rfl rfl rfl rfl rfl (by decide) (by decide) ?_ | refine yz ?_ | exact zL)
end Go.Proofs.YtibfalecohlngaaGreatDoor
namespace Go.Proofs.YtibfalecohlngaaGreatDoor
set_option maxRecDepth 4000
open Go Go.Abs Go.Val Go.RowKit Go.Proofs.Tryz
attribute [local irreducible] go SGo an2 Ev aw0 EvO EvS RGo
theorem fold_take {r : List Ex} {i : Nat} {x a : Ex} (h : r[i]? = some x) : (r.take (i + 1)).foldl es1 a = es1 ((r.take i).foldl es1 a) x := by
 rw [List.take_add_one, h, List.foldl_append];rfl
theorem ew8 : Ev E 29 [.int 1] (.d (dg0 (eo7 (bp4 true)))) := eu9 1
structure SAx (n : Nat) where
 i : Nat
 hi : i ≤ n
theorem ew9 (l : List Ex) (hn : ∀ x ∈ l, nd x ≤ 2000000) : Ev E 14 [.sl (df9 l)] (.d (dg0 (es2 l))) := Ev.fit fun hfit => by
 obtain ⟨hmax, -⟩ := dg8 (hfit (.sl (df9 l)) (by simp))
 cases l with
 | nil =>
  show Ev E 14 [.sl []] _;have h := ew8;refine ye1 func14 ntmps14 fun _ _ _=>?_
  repeat' (first | refine yz ?_ | refine yp b29 h ?_ | exact zD)
 | cons x r =>
  have hcx := ew3 x (hn x (by simp));have hle : (df9 r).length = r.length := dg6 r;have hmax : r.length + 1 ≤ 9223372036854775807 := hmax;have k0 : (dg0 x :: df9 r)[((0 : Int)).toNat]? = some (dg0 x) := rfl;have hl1 : (dg0 x :: df9 r).length = r.length + 1 := by rw [fh9, hle]
  have g0 : (((dg0 x :: df9 r).length : Int) == 0) = false := by rw [fh9, beq_eq_false_iff_ne]; omega
  have hce : ∀ d ∈ (dg0 x :: df9 r), d.cells.length = 9 := ev9 (x :: r);show Ev E 14 [.sl (dg0 x :: df9 r)] (.d (dg0 (r.foldl es1 x)));refine ye1 func14 ntmps14 fun _ _ _=>?_
  repeat' (first | refine yz ?_ | refine yi (dg0 x) k0 ?_ | refine yp b26 hcx ?_ | (refine qS rfl ⟨⟨by omega, by omega⟩, ⟨_, rfl, hce⟩⟩ ?_))
  refine ac7 (α := SAx r.length) (fun p => ⟨[(2, .ptr 0 0), (3, .ptr 1 0), (15, .d (.sl (df9 r))), (16, .d (.int (df9 r).length)), (17, .d (.int p.i))], [zXU, oXU (dg0 ((r.take p.i).foldl es1 x))]⟩) (fun p => r.length - p.i) ⟨0, by omega⟩ (zle 2) ?_;rintro ⟨i, hi⟩;dsimp only;rcases fg7 i r.length with hlt | hge
  ·have g1 : decide ((i : Int) < ((df9 r).length : Int)) = true := by rw [hle]; simpa using hlt
   have hx0 := fg5 hlt;generalize r[i] = y at hx0;have hx : (df9 r)[(i : Int).toNat]? = some (dg0 y) := dg4 (by rw [fh0]; exact hx0);have hcy := ew3 y (hn y (by have := fg9 hx0; simp [this]));have hft := fold_take (a := x) hx0;generalize (r.take i).foldl es1 x = acc at *
   repeat' (first | refine yq 7 [5] ?_ | refine yf 7 0 5 ?_ | refine yw ?_ | refine rgN ?_ | refine yz ?_ | refine yi (dg0 y) hx ?_ | refine yp b26 hcy ?_)
   refine ac1 ?_;refine ⟨⟨i + 1, by omega⟩, by dsimp only; omega, ?_⟩;dsimp only;rw [hft];exact (zle 2)
  ·have g1 : decide ((i : Int) < ((df9 r).length : Int)) = false := by rw [hle]; simp; omega
   rw [fk9 hge];generalize r.foldl es1 x = acc
   repeat' (first | refine yz ?_ | exact zD)
theorem ex0 (l : List Ex) : Ev E 15 [.sl (df9 l)] (.d (dg0 (es2 l))) := Ev.fit fun hfit => by
 obtain ⟨hmax, -⟩ := dg8 (hfit (.sl (df9 l)) (by simp))
 cases l with
 | nil =>
  show Ev E 15 [.sl []] _;have h := cb3 true;refine ye1 func15 ntmps15 fun _ _ _=>?_
  repeat' (first | refine yz ?_ | refine yp b30 h ?_ | exact zD)
 | cons x r =>
  have hle : (df9 r).length = r.length := dg6 r;have hmax : r.length + 1 ≤ 9223372036854775807 := hmax;have k0 : (dg0 x :: df9 r)[((0 : Int)).toNat]? = some (dg0 x) := rfl;have hl1 : (dg0 x :: df9 r).length = r.length + 1 := by rw [fh9, hle]
  have g0 : (((dg0 x :: df9 r).length : Int) == 0) = false := by rw [fh9, beq_eq_false_iff_ne]; omega
  show Ev E 15 [.sl (dg0 x :: df9 r)] (.d (dg0 (r.foldl es1 x)));refine ye1 func15 ntmps15 fun _ _ _=>?_
  repeat' (first | refine yz ?_ | refine yi (dg0 x) k0 ?_)
  refine ac7 (α := SAx r.length) (fun p => ⟨[(0, .d (.sl (dg0 x :: df9 r))), (2, .ptr 0 0), (3, .ptr 1 0), (4, .d (.int ((p.i + 1 : Nat) : Int)))], [zXU, oXU (dg0 ((r.take p.i).foldl es1 x))]⟩) (fun p => r.length - p.i) ⟨0, by omega⟩ (zle 2) ?_;rintro ⟨i, hi⟩;dsimp only;rcases fg7 i r.length with hlt | hge
  ·have g1 : decide (((i + 1 : Nat) : Int) < ((dg0 x :: df9 r).length : Int)) = true := by rw [fh9, hle]; simp; omega
   have hx0 := fg5 hlt;generalize r[i] = y at hx0;have hx : (dg0 x :: df9 r)[((i + 1 : Nat) : Int).toNat]? = some (dg0 y) := by rw [fh0, List.getElem?_cons_succ]; exact dg4 hx0
   have hft := fold_take (a := x) hx0;have e1 : ((i + 1 : Nat) : Int) + 1 = ((i + 1 + 1 : Nat) : Int) := by omega
   generalize (r.take i).foldl es1 x = acc at *
   repeat' (first | refine yq 7 [7] ?_ | refine yf 7 0 7 ?_ | refine yw ?_ | refine rgN ?_ | refine yz ?_ | refine yi (dg0 y) hx ?_)
   refine ac1 ?_;refine ⟨⟨i + 1, by omega⟩, by dsimp only; omega, ?_⟩;dsimp only;rw [hft, ← e1];exact (zle 2)
  ·have g1 : decide (((i + 1 : Nat) : Int) < ((dg0 x :: df9 r).length : Int)) = false := by rw [fh9, hle]; simp; omega
   rw [fk9 hge];generalize r.foldl es1 x = acc
   repeat' (first | refine yz ?_ | exact zD)
end Go.Proofs.YtibfalecohlngaaGreatDoor
