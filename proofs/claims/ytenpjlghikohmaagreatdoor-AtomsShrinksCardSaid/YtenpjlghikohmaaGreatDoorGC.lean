/- The walk through a region whose order is drawn and that holds several effects; Calls that are handed objects: data handed back; such calls in a region whose order is drawn; A row that grew out of nil, given up as data; Laws whose statement bears a bound on how much is read; Short names for the steps of a walk whose premises say themselves; In a region whose order is drawn: a literal of a slice as a row of the call's own, and an append whose row is given up as data at once; Drawn regions in which one operation calls a function that is handed objects and leaves them as they are; shifts, masks an. Conditions: each part's own, as it says. -/
import Derived.Test.YtenpjlghikohmaaGreatDoorGB
import Derived.Deep.DeepHandedRow
import Derived.Scope
import Derived.Test.YtenpjlghikohmaaGreatDoorProg
import Derived.Test.YtenpjlghikohmaaGreatDoorGA
import Derived.KernelRfl
import Derived.Lib.LaidTab
import Derived.Shelf.Strconv.Itoa3
set_option linter.unusedVariables false
set_option linter.unusedSimpArgs false
namespace Go.Abs
open Go Go.RowKit
structure Wk (wob ob : List aa5) : Prop where
 len : wob.length ≤ ob.length
 get : ∀ (i : Nat) x, wob[i]? = some x → x.live = true → ob[i]? = some x ∧ x.below wob.length = true
def wkP (n : Nat) : List aa5 → List aa5 → Prop
 | [], _ => True
 | .dead :: r, _ :: q => True ∧ wkP n r q
 | _ :: _, [] => False
 | x :: r, y :: q => (x = y ∧ x.below n = true) ∧ wkP n r q
theorem bg6 {n : Nat} : ∀ {wob ob : List aa5}, wkP n wob ob → wob.length ≤ ob.length ∧ ∀ (i : Nat) x, wob[i]? = some x → x.live = true → ob[i]? = some x ∧ x.below n = true
 | [], _, _ => ⟨fd6 _, fun i x h => by simp at h⟩
 | x :: r, [], h => by cases x <;> simp [wkP] at h
 | x :: r, y :: q, h => by
  have key : (x.live = true → x = y ∧ x.below n = true) ∧ wkP n r q := by
   cases x with
   | dead => exact ⟨fun hl => by simp [aa5.live] at hl, h.2⟩
   | _ => exact ⟨fun _ => h.1, h.2⟩
  obtain ⟨h1, h2⟩ := bg6 key.2;refine ⟨by simpa using h1, fun i z hz hl => ?_⟩
  cases i with
  | zero =>
   simp at hz;subst hz;obtain ⟨rfl, h4⟩ := key.1 hl;exact ⟨rfl, h4⟩
  | succ i => exact h2 i z (by simpa using hz) hl
theorem Wk.mk' {wob ob : List aa5} (h : wkP wob.length wob ob) : Wk wob ob := ⟨(bg6 h).1, (bg6 h).2⟩
theorem ab2.wk {E : Env} {B : ab1} {F : Nat → Prop} {σ : Sg} {ob wob : List aa5} {w : World} (h : ab2 E B F σ ob w) (hw : Wk wob ob) (hn : B.n0 ≤ wob.length) : ab2 E B F (σ.take wob.length) wob w := by
 have hlen := h.len;have hl := hw.len
 have hget : ∀ (o : Nat) p, (σ.take wob.length)[o]? = some p → σ[o]? = some p := by
  intro o p hp;rw [fb1] at hp;split at hp
  ·exact hp
  ·cases hp
 refine ⟨h.flt, h.glob, by rw [fb6]; omega, fun o x p hx hp => ?_, fun o o' x x' p p' hne hx hlx hx' hlx' hp hp' => ?_, fun i p hi hp => ?_⟩
 ·cases hlv : x.live with
  | false => cases x <;> simp [aa5.live] at hlv <;> trivial
  | true => exact (h.obs o x p (hw.get o x hx hlv).1 (hget o p hp)).take (hw.get o x hx hlv).2
 ·exact h.inj o o' x x' p p' hne (hw.get o x hx hlx).1 hlx (hw.get o' x' hx' hlx').1 hlx' (hget o p hp) (hget o' p' hp')
 ·rw [fb1, if_pos (by omega)];exact h.pre i p hi hp
theorem St.ev_below {E : Env} {tm : List (Nat × X)} {ob : List aa5} {n : Nat} (h : ∀ t, (lk tm t).below n = true) (z : Operand) : ((⟨tm, ob⟩ : St).ev E z).below n = true := by
 cases z with
 | tmp t => exact h t
 | const v =>
  show (ab3 v).below n = true;unfold ab3;split
  ·rfl
  ·cases okV v <;> rfl
 | global g =>
  show (aa9 E.G g).below n = true
  have : ∀ l : List GE, (aa9 l g).below n = true := by
   intro l
   induction l with
   | nil => rfl
   | cons a r ih =>
    simp only [aa9]
    cases Nat.beq a.g g
    ·exact ih
    ·rfl
  exact this _
 | func f => rfl
theorem VOp.wk {C : Cx} {tm : List (Nat × X)} {ob wob : List aa5} {o : Oper} {x : X} (h : VOp C ⟨tm, wob⟩ o x) (hw : Wk wob ob) (hn : C.base.n0 ≤ wob.length) (hb : ∀ t, (lk tm t).below wob.length = true) : VOp C ⟨tm, ob⟩ o x := by
 intro F σ w a K Q hi hr hK;refine h F (σ.take wob.length) w a K Q (hi.wk hw hn) (fun y hy => ?_) fun v w' F' he hv => hK v w' F' he ?_
 ·have := hr y hy;exact RdX.take (n := wob.length) this (St.ev_below (ob := ob) hb y)
 ·refine hv.mono (fun _ h => h) (fun _ _ => rfl) fun o p hp => ?_
  rw [fb1] at hp;split at hp
  ·exact hp
  ·cases hp
def bg7 (A E : List Nat) (i : Nat) : Bool := E.all fun e => Nat.beq e i || (bif Nat.blt e i then bg1 A e i else bg1 A i e)
def bg8 (l : List Oper) (E : List Nat) (i : Nat) : Prop := ∀ e, E.contains e = true → (e < i → bf7 l e i) ∧ (i < e → bf7 l i e)
theorem bg9 {l : List Oper} {E : List Nat} {i : Nat} (h : bg7 (bg0 l) E i = true) : bg8 l E i := by
 intro e he;have h1 := fb2.1 h e (by simpa using he);refine ⟨fun hlt => ?_, fun hlt => ?_⟩
 ·have e1 : Nat.beq e i = false := by rw [← fg9]; intro hb; have := fa5 hb; omega
  have e2 : Nat.blt e i = true := by simpa using hlt
  rw [e1, e2] at h1;exact bg4 (by simpa using h1)
 ·have e1 : Nat.beq e i = false := by rw [← fg9]; intro hb; have := fa5 hb; omega
  have e2 : Nat.blt e i = false := by rw [← fg9]; simp; omega
  rw [e1, e2] at h1;exact bg4 (by simpa using h1)
def bh0 (A E : List Nat) : Bool := E.all fun e => bg7 A E e
inductive RD (C : Cx) (l : List Oper) (E : List Nat) (wob : List aa5) : Nat → List Oper → St → St → Prop
 | nil (i : Nat) (s : St) : RD C l E wob i [] s s
 | same {i : Nat} {ops : List Oper} {s s1 s' : St} (hs : ad2 s s1) (h : RD C l E wob i ops s1 s') : RD C l E wob i ops s s'
 | fix {i : Nat} {o : Oper} {rest : List Oper} {s s' : St} {x : X} (hg : ad1 l.toArray s o true) (hd : ac8 C o = true) (hne : E.contains i = false) (hf : bg8 l E i) (hv : VOp C s o x) (h : RD C l E wob (i + 1) rest (s.put o.dst x) s') : RD C l E wob i (o :: rest) s s'
 | skip {i : Nat} {o : Oper} {rest : List Oper} {s s' : St} (hg : ad1 l.toArray s o false) (hd : ac8 C o = true) (hne : E.contains i = false) (h : RD C l E wob (i + 1) rest (s.put o.dst .und) s') : RD C l E wob i (o :: rest) s s'
 | weak {i : Nat} {o : Oper} {rest : List Oper} {s s' : St} {x : X} (hg : ad1 l.toArray s o true) (hd : ac8 C o = true) (hne : E.contains i = false) (hv : VOp C ⟨s.tm, wob⟩ o x) (hb : ∀ t, (lk s.tm t).below wob.length = true) (h : RD C l E wob (i + 1) rest (s.put o.dst x) s') : RD C l E wob i (o :: rest) s s'
 | eff {i : Nat} {o : Oper} {rest : List Oper} {s s' : St} {x : X} {ob' : List aa5} (hg : ad1 l.toArray s o true) (hd : ac8 C o = true) (hne : E.contains i = true) (hv : EOp C s o x ob') (hw : Wk wob ob') (h : RD C l E wob (i + 1) rest ((⟨s.tm, ob'⟩ : St).put o.dst x) s') : RD C l E wob i (o :: rest) s s'
theorem bh1 : ∀ (xs : List (Oper × Option X)) (s s2 : St), (∀ t, lk s.tm t = lk s2.tm t) → ∀ t, lk (stps s xs).tm t = lk (stps s2 xs).tm t
 | [], _, _, h => h
 | (o, x) :: r, s, s2, h => by
  refine bh1 r _ _ fun t => ?_
  cases o.dst with
  | none => exact h t
  | some d =>
   simp only [St.put, lk]
   cases Nat.beq d t
   ·exact h t
   ·rfl
theorem VOp.look {C : Cx} {tm tm' : List (Nat × X)} {ob : List aa5} {o : Oper} {x : X} (h : VOp C ⟨tm, ob⟩ o x) (he : ∀ t, lk tm' t = lk tm t) : VOp C ⟨tm', ob⟩ o x :=
 ad2.vop (s := ⟨tm, ob⟩) (s' := ⟨tm', ob⟩) ⟨he, rfl⟩ h
theorem EOp.look {C : Cx} {tm tm' : List (Nat × X)} {ob ob' : List aa5} {o : Oper} {x : X} (h : EOp C ⟨tm, ob⟩ o x ob') (he : ∀ t, lk tm' t = lk tm t) : EOp C ⟨tm', ob⟩ o x ob' := by
 intro t2 h2;refine h t2 fun z hz => (h2 z hz).trans ?_
 cases z with
 | tmp t => exact he t
 | _ => rfl
theorem ad1.look {all : Array Oper} {s s' : St} {o : Oper} {b : Bool} (h : ad1 all s o b) (he : ∀ t, lk s'.tm t = lk s.tm t) : ad1 all s' o b := by
 unfold ad1 at *
 cases hgd : o.guard with
 | none => rw [hgd] at h; exact h
 | some jp =>
  rw [hgd] at h;obtain ⟨t, h1, h2⟩ := h;exact ⟨t, h1, by rw [he]; exact h2⟩
theorem RD.data {C : Cx} {l : List Oper} {E : List Nat} {wob : List aa5} {i : Nat} {ops : List Oper} {s s' : St} (h : RD C l E wob i ops s s') (hw0 : Wk wob s.ob) :
  ∃ (xs : List (Oper × Option X)) (obT : Nat → List aa5), xs.map (·.1) = ops ∧ obT 0 = s.ob ∧ obT ops.length = s'.ob ∧ (∀ t, lk (stps s xs).tm t = lk s'.tm t) ∧ (∀ j, j ≤ ops.length → Wk wob (obT j)) ∧
   ∀ (j : Nat) o x, xs[j]? = some (o, x) → ac8 C o = true ∧ ad1 l.toArray (stps s (xs.take j)) o x.isSome ∧
    (E.contains (i + j) = true → ∃ y, x = some y ∧ EOp C ⟨(stps s (xs.take j)).tm, obT j⟩ o y (obT (j + 1))) ∧
    (E.contains (i + j) = false → obT (j + 1) = obT j ∧ ∀ y, x = some y → (bg8 l E (i + j) ∧ VOp C ⟨(stps s (xs.take j)).tm, obT j⟩ o y) ∨ (VOp C ⟨(stps s (xs.take j)).tm, wob⟩ o y ∧ ∀ t, (lk (stps s (xs.take j)).tm t).below wob.length = true)) := by
 induction h with
 | nil i s => exact ⟨[], fun _ => s.ob, rfl, rfl, rfl, fun _ => rfl, fun _ _ => hw0, fun j o x h => by simp at h⟩
 | @same i ops s s1 s' hs hh ih =>
  obtain ⟨xs, obT, h1, h2, h3, h4, h5, h6⟩ := ih (by rw [hs.2]; exact hw0);have hst : ∀ ys t, lk (stps s ys).tm t = lk (stps s1 ys).tm t := fun ys => bh1 ys s s1 fun t => (hs.1 t).symm
  refine ⟨xs, obT, h1, h2.trans hs.2, h3, fun t => (hst xs t).trans (h4 t), h5, fun j o x hj => ?_⟩;obtain ⟨a1, a2, a3, a4⟩ := h6 j o x hj;refine ⟨a1, a2.look (hst _), fun he => ?_, fun he => ⟨(a4 he).1, fun y hy => ?_⟩⟩
  ·obtain ⟨y, hy, hv⟩ := a3 he;exact ⟨y, hy, hv.look (hst _)⟩
  ·rcases (a4 he).2 y hy with ⟨b1, b2⟩ | ⟨b1, b2⟩
   ·exact .inl ⟨b1, b2.look (hst _)⟩
   ·exact .inr ⟨b1.look (hst _), fun t => by rw [hst]; exact b2 t⟩
 | @fix i o rest s s' x hg hd hne hf hv hh ih =>
  obtain ⟨xs, obT, h1, h2, h3, h4, h5, h6⟩ := ih (by rw [St.put_ob]; exact hw0);rw [St.put_ob] at h2;refine ⟨(o, some x) :: xs, fun j => match j with | 0 => s.ob | j + 1 => obT j, by simp [h1], rfl, h3, h4, fun j hj => ?_, fun j o' x' hj => ?_⟩
  ·cases j with
   | zero => exact hw0
   | succ j => exact h5 j (by simpa using hj)
  ·cases j with
   | zero =>
    simp at hj;obtain ⟨rfl, rfl⟩ := hj;refine ⟨hd, hg, fun he => ?_, fun _ => ⟨h2, fun y hy => ?_⟩⟩
    ·rw [fc5, hne] at he; cases he
    ·cases hy; exact .inl ⟨hf, hv⟩
   | succ j =>
    have := h6 j o' x' (by simpa using hj);rw [show i + 1 + j = i + (j + 1) by omega] at this;exact this
 | @skip i o rest s s' hg hd hne hh ih =>
  obtain ⟨xs, obT, h1, h2, h3, h4, h5, h6⟩ := ih (by rw [St.put_ob]; exact hw0);rw [St.put_ob] at h2;refine ⟨(o, none) :: xs, fun j => match j with | 0 => s.ob | j + 1 => obT j, by simp [h1], rfl, h3, h4, fun j hj => ?_, fun j o' x' hj => ?_⟩
  ·cases j with
   | zero => exact hw0
   | succ j => exact h5 j (by simpa using hj)
  ·cases j with
   | zero =>
    simp at hj;obtain ⟨rfl, rfl⟩ := hj;refine ⟨hd, hg, fun he => ?_, fun _ => ⟨h2, fun y hy => ?_⟩⟩
    ·rw [fc5, hne] at he; cases he
    ·cases hy
   | succ j =>
    have := h6 j o' x' (by simpa using hj);rw [show i + 1 + j = i + (j + 1) by omega] at this;exact this
 | @weak i o rest s s' x hg hd hne hv hb hh ih =>
  obtain ⟨xs, obT, h1, h2, h3, h4, h5, h6⟩ := ih (by rw [St.put_ob]; exact hw0);rw [St.put_ob] at h2;refine ⟨(o, some x) :: xs, fun j => match j with | 0 => s.ob | j + 1 => obT j, by simp [h1], rfl, h3, h4, fun j hj => ?_, fun j o' x' hj => ?_⟩
  ·cases j with
   | zero => exact hw0
   | succ j => exact h5 j (by simpa using hj)
  ·cases j with
   | zero =>
    simp at hj;obtain ⟨rfl, rfl⟩ := hj;refine ⟨hd, hg, fun he => ?_, fun _ => ⟨h2, fun y hy => ?_⟩⟩
    ·rw [fc5, hne] at he; cases he
    ·cases hy; exact .inr ⟨hv, hb⟩
   | succ j =>
    have := h6 j o' x' (by simpa using hj);rw [show i + 1 + j = i + (j + 1) by omega] at this;exact this
 | @eff i o rest s s' x ob' hg hd hne hv hw hh ih =>
  obtain ⟨xs, obT, h1, h2, h3, h4, h5, h6⟩ := ih (by rw [St.put_ob]; exact hw);rw [St.put_ob] at h2;have hst : ∀ ys t, lk (stps (s.put o.dst x) ys).tm t = lk (stps ((⟨s.tm, ob'⟩ : St).put o.dst x) ys).tm t := fun ys => bh1 ys _ _ fun t => by cases o.dst <;> rfl
  refine ⟨(o, some x) :: xs, fun j => match j with | 0 => s.ob | j + 1 => obT j, by simp [h1], rfl, h3, fun t => (hst xs t).trans (h4 t), fun j hj => ?_, fun j o' x' hj => ?_⟩
  ·cases j with
   | zero => exact hw0
   | succ j => exact h5 j (by simpa using hj)
  ·cases j with
   | zero =>
    simp at hj;obtain ⟨rfl, rfl⟩ := hj;refine ⟨hd, hg, fun he => ⟨x, rfl, ?_⟩, fun he => ?_⟩
    ·show EOp C ⟨s.tm, s.ob⟩ o x (obT 0);rw [h2]; exact hv
    ·rw [fc5, hne] at he; cases he
   | succ j =>
    obtain ⟨a1, a2, a3, a4⟩ := h6 j o' x' (by simpa using hj);rw [show i + 1 + j = i + (j + 1) by omega] at a3 a4;refine ⟨a1, a2.look (hst _), fun he => ?_, fun he => ⟨(a4 he).1, fun y hy => ?_⟩⟩
    ·obtain ⟨y, hy, hv'⟩ := a3 he;exact ⟨y, hy, hv'.look (hst _)⟩
    ·rcases (a4 he).2 y hy with ⟨b1, b2⟩ | ⟨b1, b2⟩
     ·exact .inl ⟨b1, b2.look (hst _)⟩
     ·exact .inr ⟨b1.look (hst _), fun t => by
       have := b2 t;rw [← hst] at this;exact this⟩
def RGo (C : Cx) (_id : Nat) (l : List Oper) (E : List Nat) (wob : List aa5) (i : Nat) (ops : List Oper) (s : St) (K : St → Prop) : Prop := ∃ s', RD C l E wob i ops s s' ∧ K s'
theorem SD.obEq {C : Cx} {all : Array Oper} {ops : List Oper} {s s' : St} (h : SD C all true ops s s') : s'.ob = s.ob := by
 obtain ⟨xs, _, h2, _⟩ := h.data;rw [h2.2, ae0]
theorem RD.of_fix_ {C : Cx} {l : List Oper} {E : List Nat} {wob : List aa5} {rest : List Oper} {s' : St} {pu : Bool} {ops : List Oper} {s s1 : St} (h : SD C l.toArray pu ops s s1) : pu = true → ∀ {i : Nat}, (∀ j, j < ops.length → E.contains (i + j) = false ∧ bg8 l E (i + j)) → RD C l E wob (i + ops.length) rest s1 s' → RD C l E wob i (ops ++ rest) s s' := by
 induction h with
 | nil s => exact fun _ _ _ hr => hr
 | @vop o r s s1 x hg hd hv hh ih =>
  intro hpu i hf hr;refine .fix hg hd (hf 0 (by simp)).1 (hf 0 (by simp)).2 hv (ih hpu (i := i + 1) (fun j hj => ?_) ?_)
  ·rw [show i + 1 + j = i + (j + 1) by omega]; exact hf (j + 1) (by simpa using hj)
  ·rw [show i + 1 + r.length = i + (o :: r).length by simp; omega]; exact hr
 | @skip o r s s1 hg hd hh ih =>
  intro hpu i hf hr;refine .skip hg hd (hf 0 (by simp)).1 (ih hpu (i := i + 1) (fun j hj => ?_) ?_)
  ·rw [show i + 1 + j = i + (j + 1) by omega]; exact hf (j + 1) (by simpa using hj)
  ·rw [show i + 1 + r.length = i + (o :: r).length by simp; omega]; exact hr
 | eff hp => intro hpu; rw [hpu] at hp; cases hp
 | ghost hp => intro hpu; rw [hpu] at hp; cases hp
 | same hs hh ih => exact fun hpu _ hf hr => .same hs (ih hpu hf hr)
theorem RD.of_fix {C : Cx} {l : List Oper} {E : List Nat} {wob : List aa5} {ops rest : List Oper} {s s1 s' : St} (h : SD C l.toArray true ops s s1) {i : Nat} (hf : ∀ j, j < ops.length → E.contains (i + j) = false ∧ bg8 l E (i + j)) (hr : RD C l E wob (i + ops.length) rest s1 s') : RD C l E wob i (ops ++ rest) s s' :=
 RD.of_fix_ h rfl hf hr
theorem SD.keep {C : Cx} {all : Array Oper} {ops : List Oper} {s s' : St} (h : SD C all true ops s s') {t : Nat} (ht : ∀ o ∈ ops, o.dst ≠ some t) : lk s'.tm t = lk s.tm t := by
 obtain ⟨xs, h1, h2, _⟩ := h.data;rw [h2.1, ae2 s xs t fun p hp => ht p.1 (by rw [← h1]; exact fh0 hp)]
def bh2 : List Oper → Bool
 | [] => true
 | o :: r => (match o.dst with
  | some d => r.all fun p => match p.dst with | some d' => !Nat.beq d d' | none => true
  | none => true) && bh2 r
theorem RD.of_weak_ {C : Cx} {l : List Oper} {E : List Nat} {wob ob : List aa5} {rest : List Oper} {s' : St} {pu : Bool} {ops : List Oper} {s0 s1 : St} (h : SD C l.toArray pu ops s0 s1) : pu = true → bh2 ops = true → (∀ t, (lk s1.tm t).below wob.length = true) → s0.ob = wob →
  ∀ {i : Nat}, (∀ t, (lk s0.tm t).below wob.length = true) → (∀ j, j < ops.length → E.contains (i + j) = false) → RD C l E wob (i + ops.length) rest ⟨s1.tm, ob⟩ s' → RD C l E wob i (ops ++ rest) ⟨s0.tm, ob⟩ s' := by
 induction h with
 | nil s => exact fun _ _ _ _ _ _ _ hr => hr
 | @vop o r s s1 x hg hd hv hh ih =>
  intro hpu hnd hb1 hob i hb hf hr;simp only [bh2, fa3] at hnd
  have hx : ∀ d, o.dst = some d → x.below wob.length = true := by
   intro d hdd;have := hb1 d;subst hpu
   rw [hh.keep (t := d) fun p hp hpd => by
    have h1 := hnd.1;rw [hdd] at h1;have h2 := fb2.1 h1 p hp;rw [hpd] at h2;simp at h2] at this
   rwa [hdd, ae3] at this
  have e : (⟨s.tm, ob⟩ : St).put o.dst x = ⟨(s.put o.dst x).tm, ob⟩ := by cases o.dst <;> rfl
  refine .weak (ad1.look hg fun _ => rfl) hd (hf 0 (by simp)) (by rw [← hob]; exact hv) hb ?_;rw [e];refine ih hpu hnd.2 hb1 (by rw [St.put_ob]; exact hob) (i := i + 1) (fun t => ?_) (fun j hj => ?_) ?_
  ·cases hdd : o.dst with
   | none => exact hb t
   | some d =>
    simp only [St.put, lk]
    cases Nat.beq d t
    ·exact hb t
    ·exact hx d hdd
  ·rw [show i + 1 + j = i + (j + 1) by omega]; exact hf (j + 1) (by simpa using hj)
  ·rw [show i + 1 + r.length = i + (o :: r).length by simp; omega]; exact hr
 | @skip o r s s1 hg hd hh ih =>
  intro hpu hnd hb1 hob i hb hf hr;simp only [bh2, fa3] at hnd;have e : (⟨s.tm, ob⟩ : St).put o.dst .und = ⟨(s.put o.dst .und).tm, ob⟩ := by cases o.dst <;> rfl
  refine .skip (ad1.look hg fun _ => rfl) hd (hf 0 (by simp)) ?_;rw [e];refine ih hpu hnd.2 hb1 (by rw [St.put_ob]; exact hob) (i := i + 1) (fun t => ?_) (fun j hj => ?_) ?_
  ·cases hdd : o.dst with
   | none => exact hb t
   | some d =>
    simp only [St.put, lk]
    cases Nat.beq d t
    ·exact hb t
    ·rfl
  ·rw [show i + 1 + j = i + (j + 1) by omega]; exact hf (j + 1) (by simpa using hj)
  ·rw [show i + 1 + r.length = i + (o :: r).length by simp; omega]; exact hr
 | eff hp => intro hpu; rw [hpu] at hp; cases hp
 | ghost hp => intro hpu; rw [hpu] at hp; cases hp
 | @same ops s s2 s1 hs hh ih =>
  intro hpu hnd hb1 hob i hb hf hr;exact .same (s1 := ⟨s2.tm, ob⟩) ⟨hs.1, rfl⟩ (ih hpu hnd hb1 (by rw [hs.2]; exact hob) (fun t => by rw [hs.1]; exact hb t) hf hr)
theorem RD.of_weak {C : Cx} {l : List Oper} {E : List Nat} {wob ob : List aa5} {ops rest : List Oper} {tm : List (Nat × X)} {s1 s' : St} (h : SD C l.toArray true ops ⟨tm, wob⟩ s1) (hnd : bh2 ops = true) (hb1 : ∀ t, (lk s1.tm t).below wob.length = true)
  {i : Nat} (hb : ∀ t, (lk tm t).below wob.length = true) (hf : ∀ j, j < ops.length → E.contains (i + j) = false) (hr : RD C l E wob (i + ops.length) rest ⟨s1.tm, ob⟩ s') : RD C l E wob i (ops ++ rest) ⟨tm, ob⟩ s' :=
 RD.of_weak_ (s0 := ⟨tm, wob⟩) h rfl hnd hb1 rfl hb hf hr
def TmB (n : Nat) : List (Nat × X) → Prop
 | [] => True
 | (_, x) :: r => x.below n = true ∧ TmB n r
theorem TmB.lk {n : Nat} : ∀ {tm : List (Nat × X)}, TmB n tm → ∀ t, (lk tm t).below n = true
 | [], _, t => rfl
 | (k, x) :: r, h, t => by
  simp only [Go.Abs.lk]
  cases Nat.beq k t
  ·exact TmB.lk h.2 t
  ·exact h.1
def bh3 : List Nat → List aa5 → List aa5
 | [], ob => ob
 | i :: r, ob => bh3 r (ob.set i .dead)
section
variable {C : Cx} {r : List It} {Q : Exit → St → Prop} {tm : List (Nat × X)} {ob : List aa5} {id : Nat} {l : List Oper} {E : List Nat} {wob : List aa5} {i : Nat} {ops : List Oper} {K : St → Prop}
theorem qR_ (wob : List aa5) (E : List Nat) (ho : ad6 l = true) (hE : bh0 (bg0 l) E = true) (hn : C.base.n0 ≤ wob.length) (hw : Wk wob ob)
  (h : RGo C id l E wob 0 l ⟨tm, ob⟩ (fun s' => go C r s' Q)) : go C (.code (.region id l.toArray true) :: r) ⟨tm, ob⟩ Q := by
 intro a w hr;obtain ⟨s', h1, h2⟩ := h;obtain ⟨xs, obT, e1, e2, e3, e4, e5, e6⟩ := h1.data hw;have hlen : xs.length = l.length := by rw [← e1]; simp
 have hget : ∀ i, i < l.length → ∃ o x, xs[i]? = some (o, x) := fun i hi => by
  have : i < xs.length := by omega
  exact ⟨xs[i].1, xs[i].2, ez5 this⟩
 have hfin : ∀ a w, C.Rel ⟨(stps ⟨tm, ob⟩ xs).tm, obT l.length⟩ a w → C.Rel s' a w := by
  intro a w hr;rw [e3] at hr;exact ad2.rel (s := ⟨(stps ⟨tm, ob⟩ xs).tm, s'.ob⟩) (s' := s') ⟨fun t => (e4 t).symm, rfl⟩ hr
 refine wp_region_any C.E.hM ?_;refine Dr.all (s := ⟨tm, ob⟩) (xs := xs) (obT := obT) (eff := fun i => E.contains i) e1 (ad9 ho) (fun i hi he => ?_) (fun i j hij hj h3 h4 => ?_) (fun i o x hi => ⟨(e6 i o x hi).1, (e6 i o x hi).2.1⟩) (fun i o x he hi y hy => ?_) (fun i o x he hi => ?_) (fun a w hr => ⟨s', hfin a w hr, h2⟩) _ _ _ _ ?_ ⟨by simp, fun j o' ed ho' hL => ?_, tm, 0, fd6 _, fun i hi => by omega, fun i _ hi _ => ?_, ?_, fun t _ => rfl, fun j o' x t hj hL => ?_⟩
 ·obtain ⟨o, x, hx⟩ := hget i hi;exact ((e6 i o x hx).2.2.2 (by rw [fc0]; exact he)).1
 ·exact (bg9 (fb2.1 hE j (by simpa using h4)) i h3).1 hij
 ·rcases ((e6 i o x hi).2.2.2 (by rw [fc0]; exact he)).2 y hy with ⟨h3, h4⟩ | ⟨h3, h4⟩
  ·rw [fc0] at h3;exact .inl ⟨fun e _ he' => h3 e he', h4⟩
  ·exact .inr fun k hk => h3.wk (e5 k hk) hn h4
 ·exact (e6 i o x hi).2.2.1 (by rw [fc0]; exact he)
 ·refine fd3 (fh7 _ _) ?_;simp
 ·exfalso
  by_cases hlt : j < l.length <;> simp [hlt] at hL
 ·rw [fg5, Array.getElem?_replicate];split <;> rfl
 ·rw [e2];obtain ⟨F, σ, r1, r2, r3, hi, r4, r5, hs⟩ := hr;have hext : Ext w F { w with drawn := w.drawn + 1 } F := ⟨⟨rfl, rfl, rfl, fa4 _, fun _ _ => rfl⟩, fun _ h => h, fun _ h => .inl h, hi.flt⟩;exact ⟨F, σ, r1.step hext.below, r2, r3, hi.ext hext, r4, r5, fun t => (hs t).ext hext hi.flt⟩
 ·exfalso
  by_cases hlt : j < l.length <;> simp [hlt] at hL
theorem qR (wob : List aa5) (E : List Nat) (T : List Nat) (ho : ad6 l = true) (hE : bh0 (bg0 l) E = true) (_hwob : bh3 T ob = wob) (hn : Nat.ble C.base.n0 wob.length = true) (hw : wkP wob.length wob ob)
  (h : RGo C id l E wob 0 l ⟨tm, ob⟩ (fun s' => go C r s' Q)) : go C (.code (.region id l.toArray true) :: r) ⟨tm, ob⟩ Q := qR_ wob E ho hE (fb3 hn) (Wk.mk' hw) h
theorem qR0 (E : List Nat) (ho : ad6 l = true) (hE : bh0 (bg0 l) E = true) (hw : wkP (List.replicate C.base.n0 aa5.dead).length (List.replicate C.base.n0 aa5.dead) ob)
  (h : RGo C id l E (List.replicate C.base.n0 aa5.dead) 0 l ⟨tm, ob⟩ (fun s' => go C r s' Q)) : go C (.code (.region id l.toArray true) :: r) ⟨tm, ob⟩ Q := by
 have hn : C.base.n0 ≤ (List.replicate C.base.n0 aa5.dead).length := by simp
 intro a w hr;obtain ⟨s', h1, h2⟩ := h;refine qR_ _ E ho hE hn (Wk.mk' hw) ⟨s', h1, h2⟩ a w hr
theorem qRT (E T : List Nat) (ho : ad6 l = true) (hE : bh0 (bg0 l) E = true) (hn : Nat.ble C.base.n0 (bh3 T ob).length = true) (hw : wkP (bh3 T ob).length (bh3 T ob) ob)
  (h : RGo C id l E (bh3 T ob) 0 l ⟨tm, ob⟩ (fun s' => go C r s' Q)) : go C (.code (.region id l.toArray true) :: r) ⟨tm, ob⟩ Q := qR _ E T ho hE rfl hn hw h
theorem rgN (h : K ⟨tm, ob⟩) : RGo C id l E wob i [] ⟨tm, ob⟩ K := ⟨_, .nil _ _, h⟩
def rgFB (l : List Oper) (E : List Nat) (i n : Nat) : Bool := (List.range n).all fun j => bg7 (bg0 l) E (i + j) && !E.contains (i + j)
def rgWB (E : List Nat) (i n : Nat) : Bool := (List.range n).all fun j => !E.contains (i + j)
theorem rgF (n : Nat) (hc : rgFB l E i n = true) (hn : Nat.ble n ops.length = true) (h : SGo C l.toArray true (ops.take n) ⟨tm, ob⟩ (fun s1 => RGo C id l E wob (i + n) (ops.drop n) ⟨s1.tm, ob⟩ K)) : RGo C id l E wob i ops ⟨tm, ob⟩ K := by
 obtain ⟨s1, h1, s', h2, h3⟩ := h;have hlen : (ops.take n).length = n := by rw [fb6]; have := fb3 hn; omega
 have e : s1 = ⟨s1.tm, ob⟩ := by have := h1.obEq; cases s1; simp at this; rw [this]
 refine ⟨s', ?_, h3⟩;rw [← fj5 n ops];rw [← e] at h2;refine RD.of_fix h1 (fun j hj => ?_) (by rw [hlen]; exact h2);have := fb2.1 hc j (by rw [fc6]; omega);rw [fa3] at this;exact ⟨by simpa using this.2, bg9 this.1⟩
theorem rgW (n : Nat) (hc : rgWB E i n = true) (hn : Nat.ble n ops.length = true) (hnd : bh2 (ops.take n) = true) (hb : TmB wob.length tm) (h : SGo C l.toArray true (ops.take n) ⟨tm, wob⟩ (fun s1 => TmB wob.length s1.tm ∧ RGo C id l E wob (i + n) (ops.drop n) ⟨s1.tm, ob⟩ K)) : RGo C id l E wob i ops ⟨tm, ob⟩ K := by
 obtain ⟨s1, h1, hb1, s', h2, h3⟩ := h;have hlen : (ops.take n).length = n := by rw [fb6]; have := fb3 hn; omega
 refine ⟨s', ?_, h3⟩;rw [← fj5 n ops];refine RD.of_weak h1 hnd (fun t => hb1.lk t) (fun t => hb.lk t) (fun j hj => ?_) (by rw [hlen]; exact h2);have := fb2.1 hc j (by rw [fc6]; omega);simpa using this
theorem rgX {o : Oper} {rest : List Oper} {x : X} {ob' : List aa5} (hne : E.contains i = true) (hg : ap1 l.toArray tm o = some true) (hd : ac8 C o = true) (hv : EOp C ⟨tm, ob⟩ o x ob') (hw : wkP wob.length wob ob') (h : RGo C id l E wob (i + 1) rest ((⟨tm, ob'⟩ : St).put o.dst x) K) : RGo C id l E wob i (o :: rest) ⟨tm, ob⟩ K :=
 let ⟨s', h1, h2⟩ := h; ⟨s', .eff (ap2 hg) hd hne hv (Wk.mk' hw) h1, h2⟩
end
theorem am9.look {E : Env} {tm tm' : List (Nat × X)} {ob : List aa5} {args : List Operand} {ds : List D} (h : am9 ⟨tm, ob⟩ E args ds) (he : ∀ z ∈ args, (⟨tm', ob⟩ : St).ev E z = (⟨tm, ob⟩ : St).ev E z) : am9 ⟨tm', ob⟩ E args ds := by
 induction h with
 | nil => exact .nil
 | cons h _ ih => exact .cons (by rw [he _ (by simp)]; exact h) (ih fun z hz => he z (by simp [hz]))
section
variable {C : Cx} {tm : List (Nat × X)} {ob : List aa5} {id : Nat} {l : List Oper} {E : List Nat} {wob : List aa5} {i : Nat} {rest : List Oper} {K : St → Prop} {o : Oper} {d : Nat} {p : Prop} {x : X}
theorem bh4 {y x : X} {p : Prop} (h : fw y = some (p, x)) : y = x := (af0 h).symm
theorem bh5 {t ty : TypeId} {y z : Operand} {j off : Nat} {c : VC} {e : TE} (hne : E.contains i = true) (ho : o.op = .store t y z) (hg : ap1 l.toArray tm o = some true) (hdst : o.dst = none) (hy : (⟨tm, ob⟩ : St).ev C.E y = .ptr j off) (hz : fw ((⟨tm, ob⟩ : St).ev C.E z) = some (p, x)) (hh : x.held = true) (hob : ob[j]? = some (.var ty c))
  (he : aa8 C.E.T t = some e) (hsz : Nat.beq x.cells.length e.size = true) (hle : Nat.ble (off + x.cells.length) c.cells.length = true) (hw : wkP wob.length wob (ob.set j (.var ty (am2 c off x)))) (h : RGo C id l E wob (i + 1) rest ⟨tm, ob.set j (.var ty (am2 c off x))⟩ K) : RGo C id l E wob i (o :: rest) ⟨tm, ob⟩ K := by
 refine rgX (x := .und) (ob' := ob.set j (.var ty (am2 c off x))) hne hg (by simp only [ac8, hdst]) (fun tm' hev => ?_) hw (by rw [hdst]; exact h);rw [hdst];have e1 := hev y (by simp [ho, Op.operands]);have e2 := hev z (by simp [ho, Op.operands]);exact am7 (s := ⟨tm', ob⟩) ho hdst (e1.trans hy) (e2.trans (bh4 hz)) hh hob he hsz hle
theorem bh6 {t : TypeId} {e : TE} (hne : E.contains i = true) (ho : o.op = .alloc t) (hg : ap1 l.toArray tm o = some true) (hdst : o.dst = some d) (hd : Nat.blt d C.N = true) (he : aa8 C.E.T t = some e) (h1z : al2 e.zero.cells.toList = true)
  (hw : wkP wob.length wob (ob ++ [.var t (.cs (e.zero.cells.toList.map ab3))])) (h : RGo C id l E wob (i + 1) rest ⟨(d, .ptr ob.length 0) :: tm, ob ++ [.var t (.cs (e.zero.cells.toList.map ab3))]⟩ K) : RGo C id l E wob i (o :: rest) ⟨tm, ob⟩ K := by
 have hdk : ac8 C o = true := by simp only [ac8, hdst]; exact hd
 refine rgX (x := .ptr ob.length 0) (ob' := ob ++ [.var t (.cs (e.zero.cells.toList.map ab3))]) hne hg hdk (fun tm' hev => ?_) hw (by rw [hdst]; exact h);exact am0 (s := ⟨tm', ob⟩) ho he h1z hdk
theorem rgBox {t : TypeId} {y : Operand} (hne : E.contains i = true) (ho : o.op = .box t y) (hg : ap1 l.toArray tm o = some true) (hdst : o.dst = some d) (hd : Nat.blt d C.N = true) (hx : fw ((⟨tm, ob⟩ : St).ev C.E y) = some (p, x)) (hh : x.held = true)
  (hw : wkP wob.length wob (ob ++ [.var t (.w x)])) (h : RGo C id l E wob (i + 1) rest ⟨(d, .ptr ob.length 0) :: tm, ob ++ [.var t (.w x)]⟩ K) : RGo C id l E wob i (o :: rest) ⟨tm, ob⟩ K := by
 have hdk : ac8 C o = true := by simp only [ac8, hdst]; exact hd
 refine rgX (x := .ptr ob.length 0) (ob' := ob ++ [.var t (.w x)]) hne hg hdk (fun tm' hev => ?_) hw (by rw [hdst]; exact h);exact al8 (s := ⟨tm', ob⟩) ho ((hev y (by simp [ho, Op.operands])).trans (bh4 hx)) hh hdk
theorem bh7 {t te : TypeId} {y z : Operand} {k j off size : Nat} {xs : List D} {e : D} {tt : TE} (d0 : D) (hne : E.contains i = true) (ho : o.op = .store t y z) (hg : ap1 l.toArray tm o = some true) (hdst : o.dst = none) (hy : (⟨tm, ob⟩ : St).ev C.E y = .pel k j off size) (hz : toD ((⟨tm, ob⟩ : St).ev C.E z) = some e)
  (hob : ob[k]? = some (.row te size xs)) (hd : xs[j]? = some d0) (he : aa8 C.E.T t = some tt) (hsz : Nat.beq e.cells.length tt.size = true) (hle : Nat.ble (off + e.cells.length) d0.cells.length = true) (hw : wkP wob.length wob (ob.set k (.row te size (xs.set j (ar1 d0 off e)))))
  (h : RGo C id l E wob (i + 1) rest ⟨tm, ob.set k (.row te size (xs.set j (ar1 d0 off e)))⟩ K) : RGo C id l E wob i (o :: rest) ⟨tm, ob⟩ K := by
 refine rgX (x := .und) (ob' := ob.set k (.row te size (xs.set j (ar1 d0 off e)))) hne hg (by simp only [ac8, hdst]) (fun tm' hev => ?_) hw (by rw [hdst]; exact h);rw [hdst];have e1 := hev y (by simp [ho, Op.operands]);have e2 := hev z (by simp [ho, Op.operands]);exact ar3 (s := ⟨tm', ob⟩) ho hdst (e1.trans hy) ((congrArg toD e2).trans hz) hob hd he hsz hle
theorem bh8 {tm2 tm' : List (Nat × X)} {ob' : List aa5} (h : au4 C o tm ob = some (p, tm', ob')) (he : ∀ z ∈ o.op.operands.toList, (⟨tm2, ob⟩ : St).ev C.E z = (⟨tm, ob⟩ : St).ev C.E z) :
  ∃ d x, o.dst = some d ∧ tm' = (d, x) :: tm ∧ au4 C o tm2 ob = some (p, (d, x) :: tm2, ob') := by
 unfold au4 at h ⊢;split at h
 ·rename_i t y z ho
  have e1 := he y (by simp [ho, Op.operands]);have e2 := he z (by simp [ho, Op.operands]);simp only [ho] at *;split at h
  ·rename_i d te ky n kz m hdst hte hy hz
   rw [hdst, hte, e1, e2, hy, hz]
   try simp only
   split at h
   ·rename_i zd hzd
    cases hb : Nat.blt d C.N && (al2 te.zero.cells.toList && Nat.beq te.zero.cells.size te.size) with
    | false => rw [hb] at h; cases h
    | true =>
     rw [hb] at h;simp only [cond_true, Option.some.injEq, Prod.mk.injEq] at h;obtain ⟨rfl, rfl, rfl⟩ := h;exact ⟨_, _, rfl, rfl, rfl⟩
   ·cases h
  ·cases h
 ·rename_i c ho
  obtain ⟨ce, args, tys⟩ := c;obtain ⟨args⟩ := args;obtain ⟨tys⟩ := tys;simp only [ho] at *;split at h
  ·split at h
   ·rename_i d y z t t' hdst
    have e1 := he y (by simp [Op.operands, Call.operands]);have e2 := he z (by simp [Op.operands, Call.operands]);rw [hdst]
    try simp only
    split at h
    ·rename_i te ys hte hz
     rw [hte, e1, e2, hz]
     try simp only
     split at h
     ·rename_i oi xs hown
      cases hb : Nat.blt d C.N && (Nat.beq t t' && (Nat.beq te.zero.cells.size te.size && Nat.blt 0 te.size)) with
      | false => rw [hb] at h; cases h
      | true =>
       rw [hb] at h;simp only [cond_true, Option.some.injEq, Prod.mk.injEq] at h;obtain ⟨rfl, rfl, rfl⟩ := h;exact ⟨_, _, rfl, rfl, rfl⟩
     ·cases h
    ·cases h
   ·cases h
  ·cases h
 ·cases h
theorem rgS {tm' : List (Nat × X)} {ob' : List aa5} (hne : E.contains i = true) (hg : ap1 l.toArray tm o = some true) (hd : ac8 C o = true) (hs : au4 C o tm ob = some (p, tm', ob')) (hp : p) (hw : wkP wob.length wob ob') (h : RGo C id l E wob (i + 1) rest ⟨tm', ob'⟩ K) : RGo C id l E wob i (o :: rest) ⟨tm, ob⟩ K := by
 obtain ⟨d, x, hdst, rfl, -⟩ := bh8 (tm2 := tm) hs fun _ _ => rfl
 refine rgX (x := x) (ob' := ob') hne hg hd (fun tm2 hev => ?_) hw (by rw [hdst]; exact h);obtain ⟨d', x', hdst', e, h2⟩ := bh8 (tm2 := tm2) hs hev;rw [hdst] at hdst'
 cases hdst'
 cases e
 rw [hdst];exact au5 h2 hp
end
end Go.Abs
namespace Go.Abs
open Go Go.RowKit
theorem ab2.ren2 {E : Env} {B : ab1} {F : Nat → Prop} {σ : Sg} {ob ob' : List aa5} {w : World} (hi : ab2 E B F σ ob w) (ks : List Nat) (hn : ax6 ks = true) (hob : ax5 ks ob ks = some ob') : ab2 E ⟨B.O, 0, []⟩ F (ks.map fun k => σ.getD k (0, 0, 0)) ob' w := by
 obtain ⟨r1, r2, r3, hi1⟩ := hi.ren ks hn hob;refine ⟨hi1.flt, hi1.glob, hi1.len, fun o x p hx hp => ?_, hi1.inj, fun i p h => absurd h (Nat.not_lt_zero _)⟩;refine (hi1.obs o x p hx hp).own fun hl => ?_
 obtain ⟨k, y, g1, g2, g3⟩ := r3 o x hx;rw [(r1 o k g1).2] at hp;exact ((hi.obs k y p g2 hp).notO (by rw [g3]; exact hl)).1
def ResD (C : Cx) (fn : Func) (s : St) (rx : X) : Prop := (∃ q d, fn.results = #[q] ∧ an7 C s q = some d ∧ rx = .d d) ∨ ∃ q q' d d', fn.results = #[q, q'] ∧ an7 C s q = some d ∧ an7 C s q' = some d' ∧ rx = .tup [d, d']
theorem ResD.run {C : Cx} {fn : Func} {s : St} {rx : X} {F : Nat → Prop} {σ σ' : Sg} {w : World} {a : Act} (h : ResD C fn s rx) (hi : ab2 C.E C.base F σ s.ob w) (hs : ∀ t, RdX w F σ (lk s.tm t) (a.tmps.getD t undef)) :
  ∃ v, (results fn a.tmps).run C.E.P w = .ok v w ∧ RdX w F σ' rx v := by
 rcases h with ⟨q, d, hr, h, rfl⟩ | ⟨q, q', d, d', hr, h, h', rfl⟩
 ·obtain ⟨v, h1, h2⟩ := ao0 hi hs h;exact ⟨v, by rw [ao1, hr]; simp [h1], h2⟩
 ·obtain ⟨v, h1, h2⟩ := ao0 hi hs h;obtain ⟨v', h1', h2'⟩ := ao0 hi hs h';refine ⟨.tuple #[v, v'], by rw [ao1, hr]; simp [h1, h1'], [v, v'], rfl, rfl, fun i x u hx hu => ?_⟩
  match i with
  | 0 => simp at hx hu; subst hx hu; exact h2
  | 1 => simp at hx hu; subst hx hu; exact h2'
  | i + 2 => simp at hx
def bh9 (C : Cx) (fn : Func) (rx : X) (ob' : List aa5) : Exit → St → Prop
 | .ret, s | .normal, s => ResD C fn s rx ∧ ∃ ks, ax6 ks = true ∧ ((List.range C.base.n0).all fun i => ks[i]? == some i) = true ∧ ax5 ks s.ob ks = some ob'
 | _, _ => False
theorem EvS.enterD {E : Env} {f : FuncId} {fn : Func} {c : Code} {xs : List X} {ob ob' : List aa5} {rx : X} {N : Nat} (hf : E.P.funcs[f]? = some fn) (hN : fn.ntmps = N) (hb : fn.body = some c) (hle : Nat.ble xs.length N = true)
  (h : ∀ (w0 : World) (F0 O : Nat → Prop) (σ0 : Sg), go ⟨E, w0, F0, N, ⟨O, ob.length, σ0⟩⟩ [.code c] ⟨(List.range xs.length).zip xs, ob⟩ (bh9 ⟨E, w0, F0, N, ⟨O, ob.length, σ0⟩⟩ fn rx ob')) : EvS E f xs ob rx ob' := by
 intro w F σ vs hi hl hr;refine calls_of_wp hf hb ?_;have hgo := h w F (bb1 w ob σ) σ
 have hlook : ∀ t, RdX w F σ (lk ((List.range xs.length).zip xs) t) ((vs.toArray ++ Array.replicate (fn.ntmps - vs.toArray.size) undef).getD t undef) := by
  intro t
  have key : ∀ (k : Nat) (l : List X), (∀ (i : Nat) d, l[i]? = some d → xs[k + i]? = some d) → RdX w F σ (lk ((List.range' k l.length).zip l) t) ((vs.toArray ++ Array.replicate (fn.ntmps - vs.toArray.size) undef).getD t undef) := by
   intro k l
   induction l generalizing k with
   | nil => intro _; trivial
   | cons d l ih =>
    intro hk;simp only [fa8, List.range'_succ, List.zip_cons_cons, lk]
    cases hbq : Nat.beq k t with
    | true =>
     obtain rfl := fa5 hbq;have hd : xs[k]? = some d := by simpa using hk 0 d rfl
     have hlt : k < vs.length := by rw [hl]; exact (ez7.1 hd).1
     have e : (vs.toArray ++ Array.replicate (fn.ntmps - vs.toArray.size) undef).getD k undef = vs[k] := by
      simp [Array.getElem?_append, hlt]
     rw [e];exact hr k d _ hd (ez5 hlt)
    | false =>
     refine ih (k + 1) fun i d' hi => ?_
     have := hk (i + 1) d' (by simpa using hi);rw [← this];congr 1;omega
  have := key 0 xs fun i d hd => by simpa using hd
  rwa [← List.range_eq_range'] at this
 have hle' : xs.length ≤ N := fb3 hle
 have hrel : Cx.Rel ⟨E, w, F, N, ⟨bb1 w ob σ, ob.length, σ⟩⟩ ⟨(List.range xs.length).zip xs, ob⟩ { tmps := vs.toArray ++ Array.replicate (fn.ntmps - vs.toArray.size) undef, defers := [] } w := by
  refine ⟨F, σ, aa7.refl (fun _ h => h.1), fun _ h => h, fun _ h => .inl h, ⟨hi.flt, hi.glob, hi.len, fun k x p hx hp => (hi.obs k x p hx hp).own fun hl ho => ho.2 ⟨k, x, p, hx, hl, hp, rfl⟩, hi.inj, fun i p _ hp => hp⟩, rfl, ?_, hlook⟩;simp [hN, hl];omega
 refine wp_mono (hgo _ w hrel) ?_;rintro e a' w' ⟨s', hrel', hq⟩
 have fin : (ResD ⟨E, w, F, N, ⟨bb1 w ob σ, ob.length, σ⟩⟩ fn s' rx ∧ ∃ ks, ax6 ks = true ∧ ((List.range ob.length).all fun i => ks[i]? == some i) = true ∧ ax5 ks s'.ob ks = some ob') → a'.defers = [] ∧ ∃ v, (results fn a'.tmps).run E.P w' = .ok v w' ∧
   ∃ v_1 F' σ', Ending.returned v = .returned v_1 ∧ aa7 (bb1 w ob σ) w w' ∧ (∀ b, F b → F' b) ∧ (∀ b, F' b → F b ∨ ¬ bb1 w ob σ b) ∧ (∀ (i : Nat) p, i < ob.length → σ[i]? = some p → σ'[i]? = some p) ∧ ab2 E ⟨bb1 w ob σ, 0, []⟩ F' σ' ob' w' ∧ RdX w' F' σ' rx v_1 := by
  rintro ⟨hres, ks, hn, hk0, hob'⟩;obtain ⟨F', σ', h1, h2, h3, hi', h4, h5, hs⟩ := hrel';obtain ⟨v, v1, v2⟩ := hres.run (σ' := ks.map fun k => σ'.getD k (0, 0, 0)) hi' hs;refine ⟨h4, v, v1, v, F', _, rfl, h1, h2, h3, fun i p hlt hp => ?_, hi'.ren2 ks hn hob', v2⟩;have hk := fb2.1 hk0 i (fc6.2 hlt);have hk' : ks[i]? = some i := by simpa using hk
  rw [((hi'.ren ks hn hob').1 i i hk').2];exact hi'.pre i p hlt hp
 cases e with
 | normal => exact fin hq
 | ret => exact fin hq
 | _ => exact hq.elim
section
variable {C : Cx} {r : List It} {fn : Func} {tm : List (Nat × X)} {ob ob' : List aa5}
theorem retD1 (ks : List Nat) {q : ResultVar} {d d' : D} (hn : ax6 ks = true) (hk0 : ((List.range C.base.n0).all fun i => ks[i]? == some i) = true) (hob : ax5 ks ob ks = some ob') (hr : fn.results = #[q]) (h : an7 C ⟨tm, ob⟩ q = some d) (he : d = d') :
  go C (.code .ret :: r) ⟨tm, ob⟩ (bh9 C fn (.d d') ob') := ac3 ⟨.inl ⟨q, d, hr, h, by rw [he]⟩, ks, hn, hk0, hob⟩
theorem retD2 (ks : List Nat) {q q' : ResultVar} {d d' : D} {l : List D} (hn : ax6 ks = true) (hk0 : ((List.range C.base.n0).all fun i => ks[i]? == some i) = true) (hob : ax5 ks ob ks = some ob') (hr : fn.results = #[q, q']) (h : an7 C ⟨tm, ob⟩ q = some d) (h' : an7 C ⟨tm, ob⟩ q' = some d') (he : [d, d'] = l) :
  go C (.code .ret :: r) ⟨tm, ob⟩ (bh9 C fn (.tup l) ob') := ac3 ⟨.inr ⟨q, q', d, d', hr, h, h', by rw [he]⟩, ks, hn, hk0, hob⟩
end
section
variable {C : Cx} {tm : List (Nat × X)} {ob : List aa5} {id : Nat} {l : List Oper} {E : List Nat} {wob : List aa5} {i : Nat} {rest : List Oper} {K : St → Prop} {o : Oper} {d : Nat}
theorem bi0 (sel : List Nat) {y : Operand} {args : List Operand} {tys : Array TypeId} {f : FuncId} {cs xs : List X} {ob1 ob1' ob2 : List aa5} {rx x2 : X} (hne : E.contains i = true) (ho : o.op = .call { callee := .value y, args := args.toArray, argTypes := tys }) (hg : ap1 l.toArray tm o = some true) (hdst : o.dst = some d)
  (hd : Nat.blt d C.N = true) (hf : FnX ((⟨tm, ob⟩ : St).ev C.E y) f cs) (hb : an2 C.E f) (h0 : EvS C.E f xs ob1 rx ob1') (hn : ax6 sel = true) (hob : ax5 sel ob sel = some ob1) (hx : ax2 sel (args.map (fun z => nrm ((⟨tm, ob⟩ : St).ev C.E z)) ++ cs) = some xs)
  (hob2 : bb7 (bk sel ob.length) sel ob1' ob = ob2) (hx2 : bkX (bk sel ob.length) rx = x2) (hw : wkP wob.length wob ob2) (h : RGo C id l E wob (i + 1) rest ⟨(d, x2) :: tm, ob2⟩ K) : RGo C id l E wob i (o :: rest) ⟨tm, ob⟩ K := by
 subst hob2 hx2;have hdk : ac8 C o = true := by simp only [ac8, hdst]; exact hd
 refine rgX (x := bkX (bk sel ob.length) rx) (ob' := bb7 (bk sel ob.length) sel ob1' ob) hne hg hdk (fun tm' hev => ?_) hw (by rw [hdst]; exact h)
 have hm : ∀ z, z = y ∨ z ∈ args → (⟨tm', ob⟩ : St).ev C.E z = (⟨tm, ob⟩ : St).ev C.E z := by
  intro z hz;refine hev z ?_;rcases hz with rfl | hz <;> simp [ho, Op.operands, Call.operands, *]
 refine bc3 (s := ⟨tm', ob⟩) ho (by rw [hm y (.inl rfl)]; exact hf) hb hn hob ?_ h0 hdk;rw [← hx];congr 2;exact fl5 fun z hz => by rw [hm z (.inr hz)]
end
end Go.Abs
namespace Go.Abs
open Go Go.RowKit
def bi1 (k : Nat) : List D → X
 | [] => .nilS
 | _ :: _ => .own k
theorem bi2 {k : Nat} {xs : List D} {x : X} (h : x.below k = true) : ar7 k xs x = x := by
  cases x with
  | own i =>
    have : ¬ i = k := by have : i < k := by simpa [X.below] using h
                         omega
    simp only [ar7];rw [show Nat.beq i k = false by rw [← fg9]; exact fun e => this (fa5 e)];rfl
  | pel i j off z =>
    have : ¬ i = k := by have : i < k := by simpa [X.below] using h
                         omega
    simp only [ar7];rw [show Nat.beq i k = false by rw [← fg9]; exact fun e => this (fa5 e)];rfl
  | sub i j off z =>
    have : ¬ i = k := by have : i < k := by simpa [X.below] using h
                         omega
    simp only [ar7];rw [show Nat.beq i k = false by rw [← fg9]; exact fun e => this (fa5 e)];rfl
  | st cs =>
    simp only [ar7];congr 1
    have : ∀ c ∈ cs, frzP k xs c = c := fun c hc => by
      have h1 := fb2.1 h c hc
      cases c with
      | own i =>
        have : ¬ i = k := by have : i < k := by simpa using h1
                             omega
        simp only [frzP];rw [show Nat.beq i k = false by rw [← fg9]; exact fun e => this (fa5 e)];rfl
      | _ => rfl
    rw [fl5 this];simp
  | _ => rfl
theorem bi3 {k : Nat} {xs : List D} {x : aa5} (h : x.below k = true) : as0 k xs x = x := by
 cases x with
 | var t c =>
  simp only [as0];congr 1
  cases c with
  | w y =>
   simp only [ar9];congr 1
   cases y with
   | d d => rfl
   | _ => exact bi2 (fb2.1 h _ (by simp [VC.cells, X.cells]))
  | cs l =>
   simp only [ar9];congr 1;have : ∀ y ∈ l, ar7 k xs y = y := fun y hy => bi2 (fb2.1 h y hy)
   rw [fl5 this];simp
 | _ => rfl
theorem Le.rowD {C : Cx} {t k : Nat} {te : TypeId} {size : Nat} {ys : List D} {tm : List (Nat × X)} {ob : List aa5} (hk : ob.length = k) (h0 : C.base.n0 ≤ k) (hT : ∀ u, (lk tm u).below k = true) (hO : ∀ x ∈ ob, x.below k = true) :
  Le C ⟨(t, bi1 k ys) :: tm, ob ++ ay6 te size ys⟩ ⟨(t, .d (.sl ys)) :: tm, ob⟩ := by
 intro a w hr
 cases ys with
 | nil =>
  obtain ⟨F, σ, h1, h2, h3, hi, h4, h5, hs⟩ := hr;refine ⟨F, σ, h1, h2, h3, by simpa [ay6] using hi, h4, h5, fun u => ?_⟩;have := hs u;simp only [lk] at this ⊢
  cases hb : Nat.beq t u with
  | true =>
   rw [hb] at this;have hv : a.tmps.getD u undef = .slice none 0 0 := this;rw [hv];exact Rd.slnil
  | false => rw [hb] at this; exact this
 | cons y ys =>
  simp only [bi1, ay6] at hr;have hob : (ob ++ [aa5.row te size (y :: ys)])[k]? = some (.row te size (y :: ys)) := by rw [← hk]; simp
  have hf : frz k ⟨(t, .own k) :: tm, ob ++ [aa5.row te size (y :: ys)]⟩ = some ⟨ar8 k (y :: ys) ((t, .own k) :: tm), ((ob ++ [aa5.row te size (y :: ys)]).map (as0 k (y :: ys))).set k .dead⟩ := by
   unfold frz;simp only [hob]
  obtain ⟨F, σ, h1, h2, h3, hi, h4, h5, hs⟩ := as5 k hf a w hr
  have hwk : Wk ob (((ob ++ [aa5.row te size (y :: ys)]).map (as0 k (y :: ys))).set k .dead) := by
   refine ⟨by simp, fun i x hx _ => ?_⟩;have hlt : i < k := by rw [← hk]; exact (ez7.1 hx).1
   have hm := ez9 hx;refine ⟨?_, by rw [hk]; exact hO x hm⟩;rw [fk2 (by omega), ez8, fa7 (by omega), hx, fd0, bi3 (hO x hm)]
  refine ⟨F, σ.take ob.length, h1, h2, h3, hi.wk hwk (by omega), h4, h5, fun u => ?_⟩;have := hs u;rw [as3] at this;simp only [lk] at this ⊢
  cases hb : Nat.beq t u with
  | true =>
   rw [hb] at this;simp only [cond_true, ar7] at this;rw [show Nat.beq k k = true by simp] at this;exact this
  | false =>
   rw [hb] at this;simp only [cond_false] at this ⊢;rw [bi2 (hT u)] at this;rw [hk];exact this.take (hT u)
section
variable {C : Cx} {r : List It} {Q : Exit → St → Prop} {tm : List (Nat × X)} {ob : List aa5}
theorem bi4 {c : Code} {t k : Nat} {te : TypeId} {size : Nat} {ys : List D} (hk : Nat.beq ob.length k = true) (h0 : Nat.ble C.base.n0 k = true) (hT : TmB k tm) (hO : ap0 k ob) (h : go C (.code c :: r) ⟨(t, .d (.sl ys)) :: tm, ob⟩ Q) :
  go C (.code c :: r) ⟨(t, bi1 k ys) :: tm, ob ++ ay6 te size ys⟩ Q := by
 refine ac6 (Le.rowD (fa5 hk) (fb3 h0) (fun u => hT.lk u) ?_) h
 have : ∀ {l : List aa5}, ap0 k l → ∀ x ∈ l, x.below k = true := by
  intro l
  induction l with
  | nil => intro _ x hx; simp at hx
  | cons a r ih =>
   intro h x hx;rcases fa6.1 hx with rfl | hx
   ·exact h.1
   ·exact ih h.2 x hx
 exact this hO
end
end Go.Abs
namespace Go.Abs
open Go Go.RowKit Go.ChangeShapes Go.WideShapes
end Go.Abs
namespace Go.Abs
open Go
section
variable {C : Cx} {all : Array Oper} {pu : Bool} {K : St → Prop} {rest : List Oper} {o : Oper} {tm tm' : List (Nat × X)} {ob ob' : List aa5} {r : List It} {s : St} {Q : Exit → St → Prop}
theorem zS {p : Prop} (hv : au6 C all pu o tm ob = some (p, tm', ob')) (h : SGo C all pu rest ⟨tm', ob'⟩ K)
  (hp : p := by first | exact True.intro | rfl | assumption | omega | (simp only [inR]; omega) | ((show _ ≤ (9223372036854775807 : Nat)); (try simp only [ByteArray.size_append]); omega) | exact av2 (by omega) (by omega) | exact av3 (by omega) (by omega) | exact ⟨rfl, by decide, by decide⟩) :
  SGo C all pu (o :: rest) ⟨tm, ob⟩ K := qS hv hp h
theorem zT {c : Operand} {x y : Code} {b : Bool} (hc : s.ev C.E c = .d (.imm (.bool b))) (ht : go C (.code x :: r) s Q) (hb : b = true := by first | rfl | assumption) : go C (.code (.cond c x y) :: r) s Q := qT hc hb ht
theorem zU {c : Operand} {x y : Code} {b : Bool} (hc : s.ev C.E c = .d (.imm (.bool b))) (hf : go C (.code y :: r) s Q) (hb : b = false := by first | rfl | assumption) : go C (.code (.cond c x y) :: r) s Q := qU hc hb hf
theorem zX {j t : Nat} {pol b : Bool} {q : Oper} (hg : o.guard = some (j, pol)) (hj : all[j]? = some q) (hq : q.dst = some t) (hb : lk tm t = .d (.imm (.bool b)))
  (h : SGo C all pu (o :: rest) ⟨(t, .d (.imm (.bool true))) :: tm, ob⟩ K) (he : b = true := by assumption) : SGo C all pu (o :: rest) ⟨tm, ob⟩ K := qX hg hj hq hb he h
theorem zW {j t : Nat} {pol b : Bool} {q : Oper} (hg : o.guard = some (j, pol)) (hj : all[j]? = some q) (hq : q.dst = some t) (hb : lk tm t = .d (.imm (.bool b)))
  (h : SGo C all pu (o :: rest) ⟨(t, .d (.imm (.bool false))) :: tm, ob⟩ K) (he : b = false := by assumption) : SGo C all pu (o :: rest) ⟨tm, ob⟩ K := qX hg hj hq hb he h
end
theorem zD {d : D} : d = d := rfl
theorem zL {l : List D} : l = l := rfl
theorem zle {C : Cx} {tm tm' : List (Nat × X)} {ob ob' : List aa5} (n : Nat) (hn : Nat.ble C.base.n0 n = true := by exact rfl) (hob : ob' = ob.take n := by exact rfl)
  (ht : TmLe tm n tm' := by repeat (first | exact trivial | refine ⟨⟨rfl, rfl⟩, ?_⟩)) (ho : ap0 n ob' := by repeat (first | exact trivial | refine ⟨rfl, ?_⟩)) : Le C ⟨tm, ob⟩ ⟨tm', ob'⟩ := Le.of' n hn hob ht ho
theorem bi5 {C : Cx} {tm tm' : List (Nat × X)} {ob ob' : List aa5} (ks : List Nat) (hn : ax6 ks = true := by exact rfl) (hk0 : ((List.range C.base.n0).all fun i => ks[i]? == some i) = true := by exact rfl)
  (hob : ax5 ks ob ks = some ob' := by exact rfl) (ht : ay5 tm ks tm' := by repeat (first | exact trivial | refine ⟨rfl, ?_⟩)) : Le C ⟨tm, ob⟩ ⟨tm', ob'⟩ := Le.ren ks hn hk0 hob ht
end Go.Abs
namespace Go.Abs
open Go Go.RowKit
theorem RdX.isBelow {w : World} {F : Nat → Prop} {σ : Sg} {x : X} {v : Value} (h : RdX w F σ x v) : x.below σ.length = true := by
 have key : ∀ (o : Nat) (p : Nat × Nat × Nat), σ[o]? = some p → Nat.blt o σ.length = true := fun o p h => by
  have := (ez7.1 h).1;simpa using this
 have caps : ∀ (cs : List Cap) (us : List Value), cs.length = us.length → (∀ (i : Nat) c u, cs[i]? = some c → us[i]? = some u → aa4 w F σ c u) → ∀ c ∈ cs, c.x.below σ.length = true := by
  intro cs us hl hr c hc;obtain ⟨i, hi, he⟩ := List.mem_iff_getElem.1 hc;have h1 := hr i c us[i] (by rw [← he]; exact ez5 hi) (ez5 (by omega))
  cases c with
  | d x => rfl
  | ptr o off => obtain ⟨b, c, n, h2, -⟩ := h1; exact key _ _ h2
  | own o => obtain ⟨b, c, n, h2, -⟩ := h1; exact key _ _ h2
 cases x with
 | ptr o off => obtain ⟨b, c, n, h1, -⟩ := h; exact key _ _ h1
 | own o => obtain ⟨b, c, n, h1, -⟩ := h; exact key _ _ h1
 | mp o => obtain ⟨b, c, n, h1, -⟩ := h; exact key _ _ h1
 | pel o i off size => obtain ⟨b, c, n, h1, -⟩ := h; exact key _ _ h1
 | sub o i off size => obtain ⟨b, c, n, h1, -⟩ := h; exact key _ _ h1
 | clo f cs =>
  obtain ⟨us, -, hl, hr⟩ := h;refine fb2.2 fun c hc => ?_
  have := caps cs us hl hr c hc
  cases c with
  | d x => rfl
  | ptr o off => exact this
  | own o => exact this
 | bnd f cs =>
  obtain ⟨us, -, hl, hr⟩ := h;refine fb2.2 fun c hc => ?_
  have := caps cs us hl hr c hc
  cases c with
  | d x => rfl
  | ptr o off => exact this
  | own o => exact this
 | st cs =>
  obtain ⟨us, -, hl, -, hr⟩ := h;refine fb2.2 fun c hc => ?_
  have := caps cs us hl hr c hc
  cases c with
  | d x => rfl
  | ptr o off => exact this
  | own o => exact this
 | _ => rfl
theorem Cx.Rel.tmBelow {C : Cx} {s : St} {a : Act} {w : World} (h : C.Rel s a w) (t : Nat) : (lk s.tm t).below s.ob.length = true := by
 obtain ⟨F, σ, -, -, -, hi, -, -, hs⟩ := h;rw [← hi.len];exact (hs t).isBelow
def bi6 : List aa5 → Option (List aa5 × aa5)
 | [] => none
 | [x] => some ([], x)
 | x :: y :: r => match bi6 (y :: r) with
  | some (l, z) => some (x :: l, z)
  | none => none
theorem bi7 : ∀ {l l1 : List aa5} {z : aa5}, bi6 l = some (l1, z) → l = l1 ++ [z]
 | [], _, _, h => by cases h
 | [x], _, _, h => by cases h; rfl
 | x :: y :: r, l1, z, h => by
  unfold bi6 at h
  cases hs : bi6 (y :: r) with
  | none => rw [hs] at h; cases h
  | some p =>
   obtain ⟨l2, z2⟩ := p;rw [hs] at h
   cases h
   rw [bi7 hs];rfl
theorem ap0.all {n : Nat} : ∀ {l : List aa5}, ap0 n l → ∀ x ∈ l, x.below n = true
 | a :: r, h, x, hx => by
  rcases fa6.1 hx with rfl | hx
  ·exact h.1
  ·exact ap0.all h.2 x hx
theorem EOp.data {C : Cx} {tm : List (Nat × X)} {ob ob1 : List aa5} {o : Oper} {d : Nat} {te : TypeId} {size : Nat} {xs : List D} (hdst : o.dst = some d) (h0 : C.base.n0 ≤ ob1.length) (hlen : ob1.length = ob.length) (hO : ∀ x ∈ ob1, x.below ob1.length = true) (hx : xs ≠ [])
  (h : EOp C ⟨tm, ob⟩ o (.own ob1.length) (ob1 ++ [.row te size xs])) : EOp C ⟨tm, ob⟩ o (.d (.sl xs)) ob1 := by
 intro tm' hev w a K Q hrel hK;refine h tm' hev w a K Q hrel fun a' w' hr' => hK a' w' ?_
 rw [hdst] at hr' ⊢
 cases xs with
 | nil => exact absurd rfl hx
 | cons y ys => exact Le.rowD (k := ob1.length) (ys := y :: ys) rfl h0 (fun u => by rw [hlen]; exact hrel.tmBelow u) hO a' w' hr'
theorem bi8 {E : Env} {s s' : St} {size : Nat} : ∀ (parts : List (Nat × Operand)) (k : Nat), (∀ q ∈ parts, s'.ev E q.2 = s.ev E q.2) → as6 E s' size k parts = as6 E s size k parts
 | [], _, _ => rfl
 | (i, y) :: r, k, h => by
  simp only [as6];rw [show s'.ev E y = s.ev E y from h (i, y) (by simp), bi8 r (k + 1) fun q hq => h q (by simp [hq])]
def bi9 (n : Nat) : List (Nat × X) → List (Nat × X)
 | [] => []
 | (t, x) :: r => (t, bif x.below n then x else .top) :: bi9 n r
theorem bj0 (n : Nat) : ∀ (tm : List (Nat × X)) (t : Nat), lk (bi9 n tm) t = lk tm t ∨ lk (bi9 n tm) t = .top
 | [], t => .inl rfl
 | (k, x) :: r, t => by
  simp only [bi9, lk]
  cases Nat.beq k t with
  | false => exact bj0 n r t
  | true => cases x.below n <;> simp
theorem bj1 (n : Nat) : ∀ (tm : List (Nat × X)) (t : Nat), (lk (bi9 n tm) t).below n = true
 | [], t => rfl
 | (k, x) :: r, t => by
  simp only [bi9, lk]
  cases Nat.beq k t with
  | false => exact bj1 n r t
  | true =>
   cases h : x.below n with
   | true => exact h
   | false => rfl
theorem VOp.dim {C : Cx} {tm : List (Nat × X)} {ob : List aa5} {o : Oper} {x : X} {n : Nat} (h : VOp C ⟨bi9 n tm, ob⟩ o x) : VOp C ⟨tm, ob⟩ o x := by
 intro F σ w a K Q hi hr hK;refine h F σ w a K Q hi (fun y hy => ?_) hK;have := hr y hy
 cases y with
 | tmp t =>
  rcases bj0 n tm t with e | e
  ·show RdX w F σ (lk (bi9 n tm) t) _;rw [e]; exact this
  ·show RdX w F σ (lk (bi9 n tm) t) _;rw [e]; trivial
 | _ => exact this
inductive RDw (C : Cx) (l : List Oper) (E : List Nat) (wob : List aa5) : Nat → List Oper → St → St → Prop
 | nil (i : Nat) (s : St) : RDw C l E wob i [] s s
 | same {i : Nat} {ops : List Oper} {s s1 s' : St} (hs : ad2 s s1) (h : RDw C l E wob i ops s1 s') : RDw C l E wob i ops s s'
 | fix {i : Nat} {o : Oper} {rest : List Oper} {s s' : St} {x : X} (hg : ad1 l.toArray s o true) (hd : ac8 C o = true) (hne : E.contains i = false) (hf : bg8 l E i) (hv : VOp C s o x) (h : RDw C l E wob (i + 1) rest (s.put o.dst x) s') : RDw C l E wob i (o :: rest) s s'
 | skip {i : Nat} {o : Oper} {rest : List Oper} {s s' : St} (hg : ad1 l.toArray s o false) (hd : ac8 C o = true) (hne : E.contains i = false) (h : RDw C l E wob (i + 1) rest (s.put o.dst .und) s') : RDw C l E wob i (o :: rest) s s'
 | weak {i : Nat} {o : Oper} {rest : List Oper} {s s' : St} {x : X} (hg : ad1 l.toArray s o true) (hd : ac8 C o = true) (hne : E.contains i = false) (hv : ∀ ob', Wk wob ob' → VOp C ⟨s.tm, ob'⟩ o x) (h : RDw C l E wob (i + 1) rest (s.put o.dst x) s') : RDw C l E wob i (o :: rest) s s'
 | eff {i : Nat} {o : Oper} {rest : List Oper} {s s' : St} {x : X} {ob' : List aa5} (hg : ad1 l.toArray s o true) (hd : ac8 C o = true) (hne : E.contains i = true) (hv : EOp C s o x ob') (hw : Wk wob ob') (h : RDw C l E wob (i + 1) rest ((⟨s.tm, ob'⟩ : St).put o.dst x) s') : RDw C l E wob i (o :: rest) s s'
theorem RDw.dataE {C : Cx} {l : List Oper} {E : List Nat} {wob : List aa5} {i : Nat} {ops : List Oper} {s s' : St} (h : RDw C l E wob i ops s s') (hw0 : Wk wob s.ob) :
  ∃ (xs : List (Oper × Option X)) (obT : Nat → List aa5), xs.map (·.1) = ops ∧ obT 0 = s.ob ∧ obT ops.length = s'.ob ∧ (∀ t, lk (stps s xs).tm t = lk s'.tm t) ∧ (∀ j, j ≤ ops.length → Wk wob (obT j)) ∧
   ∀ (j : Nat) o x, xs[j]? = some (o, x) → ac8 C o = true ∧ ad1 l.toArray (stps s (xs.take j)) o x.isSome ∧
    (E.contains (i + j) = true → ∃ y, x = some y ∧ EOp C ⟨(stps s (xs.take j)).tm, obT j⟩ o y (obT (j + 1))) ∧
    (E.contains (i + j) = false → obT (j + 1) = obT j ∧ ∀ y, x = some y → (bg8 l E (i + j) ∧ VOp C ⟨(stps s (xs.take j)).tm, obT j⟩ o y) ∨ ∀ ob', Wk wob ob' → VOp C ⟨(stps s (xs.take j)).tm, ob'⟩ o y) := by
 induction h with
 | nil i s => exact ⟨[], fun _ => s.ob, rfl, rfl, rfl, fun _ => rfl, fun _ _ => hw0, fun j o x h => by simp at h⟩
 | @same i ops s s1 s' hs hh ih =>
  obtain ⟨xs, obT, h1, h2, h3, h4, h5, h6⟩ := ih (by rw [hs.2]; exact hw0);have hst : ∀ ys t, lk (stps s ys).tm t = lk (stps s1 ys).tm t := fun ys => bh1 ys s s1 fun t => (hs.1 t).symm
  refine ⟨xs, obT, h1, h2.trans hs.2, h3, fun t => (hst xs t).trans (h4 t), h5, fun j o x hj => ?_⟩;obtain ⟨a1, a2, a3, a4⟩ := h6 j o x hj;refine ⟨a1, a2.look (hst _), fun he => ?_, fun he => ⟨(a4 he).1, fun y hy => ?_⟩⟩
  ·obtain ⟨y, hy, hv⟩ := a3 he;exact ⟨y, hy, hv.look (hst _)⟩
  ·rcases (a4 he).2 y hy with ⟨b1, b2⟩ | b1
   ·exact .inl ⟨b1, b2.look (hst _)⟩
   ·exact .inr fun ob' hw' => (b1 ob' hw').look (hst _)
 | @fix i o rest s s' x hg hd hne hf hv hh ih =>
  obtain ⟨xs, obT, h1, h2, h3, h4, h5, h6⟩ := ih (by rw [St.put_ob]; exact hw0);rw [St.put_ob] at h2;refine ⟨(o, some x) :: xs, fun j => match j with | 0 => s.ob | j + 1 => obT j, by simp [h1], rfl, h3, h4, fun j hj => ?_, fun j o' x' hj => ?_⟩
  ·cases j with
   | zero => exact hw0
   | succ j => exact h5 j (by simpa using hj)
  ·cases j with
   | zero =>
    simp at hj;obtain ⟨rfl, rfl⟩ := hj;refine ⟨hd, hg, fun he => ?_, fun _ => ⟨h2, fun y hy => ?_⟩⟩
    ·rw [fc5, hne] at he; cases he
    ·cases hy; exact .inl ⟨hf, hv⟩
   | succ j =>
    have := h6 j o' x' (by simpa using hj);rw [show i + 1 + j = i + (j + 1) by omega] at this;exact this
 | @skip i o rest s s' hg hd hne hh ih =>
  obtain ⟨xs, obT, h1, h2, h3, h4, h5, h6⟩ := ih (by rw [St.put_ob]; exact hw0);rw [St.put_ob] at h2;refine ⟨(o, none) :: xs, fun j => match j with | 0 => s.ob | j + 1 => obT j, by simp [h1], rfl, h3, h4, fun j hj => ?_, fun j o' x' hj => ?_⟩
  ·cases j with
   | zero => exact hw0
   | succ j => exact h5 j (by simpa using hj)
  ·cases j with
   | zero =>
    simp at hj;obtain ⟨rfl, rfl⟩ := hj;refine ⟨hd, hg, fun he => ?_, fun _ => ⟨h2, fun y hy => ?_⟩⟩
    ·rw [fc5, hne] at he; cases he
    ·cases hy
   | succ j =>
    have := h6 j o' x' (by simpa using hj);rw [show i + 1 + j = i + (j + 1) by omega] at this;exact this
 | @weak i o rest s s' x hg hd hne hv hh ih =>
  obtain ⟨xs, obT, h1, h2, h3, h4, h5, h6⟩ := ih (by rw [St.put_ob]; exact hw0);rw [St.put_ob] at h2;refine ⟨(o, some x) :: xs, fun j => match j with | 0 => s.ob | j + 1 => obT j, by simp [h1], rfl, h3, h4, fun j hj => ?_, fun j o' x' hj => ?_⟩
  ·cases j with
   | zero => exact hw0
   | succ j => exact h5 j (by simpa using hj)
  ·cases j with
   | zero =>
    simp at hj;obtain ⟨rfl, rfl⟩ := hj;refine ⟨hd, hg, fun he => ?_, fun _ => ⟨h2, fun y hy => ?_⟩⟩
    ·rw [fc5, hne] at he; cases he
    ·cases hy; exact .inr hv
   | succ j =>
    have := h6 j o' x' (by simpa using hj);rw [show i + 1 + j = i + (j + 1) by omega] at this;exact this
 | @eff i o rest s s' x ob' hg hd hne hv hw hh ih =>
  obtain ⟨xs, obT, h1, h2, h3, h4, h5, h6⟩ := ih (by rw [St.put_ob]; exact hw);rw [St.put_ob] at h2;have hst : ∀ ys t, lk (stps (s.put o.dst x) ys).tm t = lk (stps ((⟨s.tm, ob'⟩ : St).put o.dst x) ys).tm t := fun ys => bh1 ys _ _ fun t => by cases o.dst <;> rfl
  refine ⟨(o, some x) :: xs, fun j => match j with | 0 => s.ob | j + 1 => obT j, by simp [h1], rfl, h3, fun t => (hst xs t).trans (h4 t), fun j hj => ?_, fun j o' x' hj => ?_⟩
  ·cases j with
   | zero => exact hw0
   | succ j => exact h5 j (by simpa using hj)
  ·cases j with
   | zero =>
    simp at hj;obtain ⟨rfl, rfl⟩ := hj;refine ⟨hd, hg, fun he => ⟨x, rfl, ?_⟩, fun he => ?_⟩
    ·show EOp C ⟨s.tm, s.ob⟩ o x (obT 0);rw [h2]; exact hv
    ·rw [fc5, hne] at he; cases he
   | succ j =>
    obtain ⟨a1, a2, a3, a4⟩ := h6 j o' x' (by simpa using hj);rw [show i + 1 + j = i + (j + 1) by omega] at a3 a4;refine ⟨a1, a2.look (hst _), fun he => ?_, fun he => ⟨(a4 he).1, fun y hy => ?_⟩⟩
    ·obtain ⟨y, hy, hv'⟩ := a3 he;exact ⟨y, hy, hv'.look (hst _)⟩
    ·rcases (a4 he).2 y hy with ⟨b1, b2⟩ | b1
     ·exact .inl ⟨b1, b2.look (hst _)⟩
     ·exact .inr fun ob2 hw2 => (b1 ob2 hw2).look (hst _)
def RGw (C : Cx) (_id : Nat) (l : List Oper) (E : List Nat) (wob : List aa5) (i : Nat) (ops : List Oper) (s : St) (K : St → Prop) : Prop := ∃ s', RDw C l E wob i ops s s' ∧ K s'
theorem RDw.ofFixE_ {C : Cx} {l : List Oper} {E : List Nat} {wob : List aa5} {rest : List Oper} {s' : St} {pu : Bool} {ops : List Oper} {s s1 : St} (h : SD C l.toArray pu ops s s1) : pu = true → ∀ {i : Nat}, (∀ j, j < ops.length → E.contains (i + j) = false ∧ bg8 l E (i + j)) → RDw C l E wob (i + ops.length) rest s1 s' → RDw C l E wob i (ops ++ rest) s s' := by
 induction h with
 | nil s => exact fun _ _ _ hr => hr
 | @vop o r s s1 x hg hd hv hh ih =>
  intro hpu i hf hr;refine .fix hg hd (hf 0 (by simp)).1 (hf 0 (by simp)).2 hv (ih hpu (i := i + 1) (fun j hj => ?_) ?_)
  ·rw [show i + 1 + j = i + (j + 1) by omega]; exact hf (j + 1) (by simpa using hj)
  ·rw [show i + 1 + r.length = i + (o :: r).length by simp; omega]; exact hr
 | @skip o r s s1 hg hd hh ih =>
  intro hpu i hf hr;refine .skip hg hd (hf 0 (by simp)).1 (ih hpu (i := i + 1) (fun j hj => ?_) ?_)
  ·rw [show i + 1 + j = i + (j + 1) by omega]; exact hf (j + 1) (by simpa using hj)
  ·rw [show i + 1 + r.length = i + (o :: r).length by simp; omega]; exact hr
 | eff hp => intro hpu; rw [hpu] at hp; cases hp
 | ghost hp => intro hpu; rw [hpu] at hp; cases hp
 | same hs hh ih => exact fun hpu _ hf hr => .same hs (ih hpu hf hr)
theorem RDw.ofFixE {C : Cx} {l : List Oper} {E : List Nat} {wob : List aa5} {ops rest : List Oper} {s s1 s' : St} (h : SD C l.toArray true ops s s1) {i : Nat} (hf : ∀ j, j < ops.length → E.contains (i + j) = false ∧ bg8 l E (i + j)) (hr : RDw C l E wob (i + ops.length) rest s1 s') : RDw C l E wob i (ops ++ rest) s s' :=
 RDw.ofFixE_ h rfl hf hr
section
variable {C : Cx} {r : List It} {Q : Exit → St → Prop} {tm : List (Nat × X)} {ob : List aa5} {id : Nat} {l : List Oper} {E : List Nat} {wob : List aa5} {i : Nat} {ops : List Oper} {K : St → Prop}
theorem qEr_ (wob : List aa5) (E : List Nat) (ho : ad6 l = true) (hE : bh0 (bg0 l) E = true) (hw : Wk wob ob)
  (h : RGw C id l E wob 0 l ⟨tm, ob⟩ (fun s' => go C r s' Q)) : go C (.code (.region id l.toArray true) :: r) ⟨tm, ob⟩ Q := by
 intro a w hr;obtain ⟨s', h1, h2⟩ := h;obtain ⟨xs, obT, e1, e2, e3, e4, e5, e6⟩ := h1.dataE hw;have hlen : xs.length = l.length := by rw [← e1]; simp
 have hget : ∀ i, i < l.length → ∃ o x, xs[i]? = some (o, x) := fun i hi => by
  have : i < xs.length := by omega
  exact ⟨xs[i].1, xs[i].2, ez5 this⟩
 have hfin : ∀ a w, C.Rel ⟨(stps ⟨tm, ob⟩ xs).tm, obT l.length⟩ a w → C.Rel s' a w := by
  intro a w hr;rw [e3] at hr;exact ad2.rel (s := ⟨(stps ⟨tm, ob⟩ xs).tm, s'.ob⟩) (s' := s') ⟨fun t => (e4 t).symm, rfl⟩ hr
 refine wp_region_any C.E.hM ?_;refine Dr.all (s := ⟨tm, ob⟩) (xs := xs) (obT := obT) (eff := fun i => E.contains i) e1 (ad9 ho) (fun i hi he => ?_) (fun i j hij hj h3 h4 => ?_) (fun i o x hi => ⟨(e6 i o x hi).1, (e6 i o x hi).2.1⟩) (fun i o x he hi y hy => ?_) (fun i o x he hi => ?_) (fun a w hr => ⟨s', hfin a w hr, h2⟩) _ _ _ _ ?_ ⟨by simp, fun j o' ed ho' hL => ?_, tm, 0, fd6 _, fun i hi => by omega, fun i _ hi _ => ?_, ?_, fun t _ => rfl, fun j o' x t hj hL => ?_⟩
 ·obtain ⟨o, x, hx⟩ := hget i hi;exact ((e6 i o x hx).2.2.2 (by rw [fc0]; exact he)).1
 ·exact (bg9 (fb2.1 hE j (by simpa using h4)) i h3).1 hij
 ·rcases ((e6 i o x hi).2.2.2 (by rw [fc0]; exact he)).2 y hy with ⟨h3, h4⟩ | h3
  ·rw [fc0] at h3;exact .inl ⟨fun e _ he' => h3 e he', h4⟩
  ·exact .inr fun k hk => h3 _ (e5 k hk)
 ·exact (e6 i o x hi).2.2.1 (by rw [fc0]; exact he)
 ·refine fd3 (fh7 _ _) ?_;simp
 ·exfalso
  by_cases hlt : j < l.length <;> simp [hlt] at hL
 ·rw [fg5, Array.getElem?_replicate];split <;> rfl
 ·rw [e2];obtain ⟨F, σ, r1, r2, r3, hi, r4, r5, hs⟩ := hr;have hext : Ext w F { w with drawn := w.drawn + 1 } F := ⟨⟨rfl, rfl, rfl, fa4 _, fun _ _ => rfl⟩, fun _ h => h, fun _ h => .inl h, hi.flt⟩;exact ⟨F, σ, r1.step hext.below, r2, r3, hi.ext hext, r4, r5, fun t => (hs t).ext hext hi.flt⟩
 ·exfalso
  by_cases hlt : j < l.length <;> simp [hlt] at hL
theorem qErT (E T : List Nat) (ho : ad6 l = true) (hE : bh0 (bg0 l) E = true) (hw : wkP (bh3 T ob).length (bh3 T ob) ob) (h : RGw C id l E (bh3 T ob) 0 l ⟨tm, ob⟩ (fun s' => go C r s' Q)) : go C (.code (.region id l.toArray true) :: r) ⟨tm, ob⟩ Q := qEr_ _ E ho hE (Wk.mk' hw) h
theorem reN (h : K ⟨tm, ob⟩) : RGw C id l E wob i [] ⟨tm, ob⟩ K := ⟨_, .nil _ _, h⟩
theorem reF (n : Nat) (hc : rgFB l E i n = true) (hn : Nat.ble n ops.length = true) (h : SGo C l.toArray true (ops.take n) ⟨tm, ob⟩ (fun s1 => RGw C id l E wob (i + n) (ops.drop n) ⟨s1.tm, ob⟩ K)) : RGw C id l E wob i ops ⟨tm, ob⟩ K := by
 obtain ⟨s1, h1, s', h2, h3⟩ := h;have hlen : (ops.take n).length = n := by rw [fb6]; have := fb3 hn; omega
 have e : s1 = ⟨s1.tm, ob⟩ := by have := h1.obEq; cases s1; simp at this; rw [this]
 refine ⟨s', ?_, h3⟩;rw [← fj5 n ops];rw [← e] at h2;refine RDw.ofFixE h1 (fun j hj => ?_) (by rw [hlen]; exact h2);have := fb2.1 hc j (by rw [fc6]; omega);rw [fa3] at this;exact ⟨by simpa using this.2, bg9 this.1⟩
theorem reX {o : Oper} {rest : List Oper} {x : X} {ob' : List aa5} (hne : E.contains i = true) (hg : ap1 l.toArray tm o = some true) (hd : ac8 C o = true) (hv : EOp C ⟨tm, ob⟩ o x ob') (hw : wkP wob.length wob ob') (h : RGw C id l E wob (i + 1) rest ((⟨tm, ob'⟩ : St).put o.dst x) K) : RGw C id l E wob i (o :: rest) ⟨tm, ob⟩ K :=
 let ⟨s', h1, h2⟩ := h; ⟨s', .eff (ap2 hg) hd hne hv (Wk.mk' hw) h1, h2⟩
theorem reV {o : Oper} {rest : List Oper} {x : X} {d : Nat} {p : Prop} (hne : E.contains i = false) (hg : ap1 l.toArray tm o = some true) (hdst : o.dst = some d) (hd : Nat.blt d C.N = true) (hn : Nat.ble C.base.n0 wob.length = true)
  (hv : vop C ⟨bi9 wob.length tm, wob⟩ o = some (p, x)) (hp : p) (h : RGw C id l E wob (i + 1) rest ⟨(d, x) :: tm, ob⟩ K) : RGw C id l E wob i (o :: rest) ⟨tm, ob⟩ K := by
 obtain ⟨s', h1, h2⟩ := h;refine ⟨s', .weak (ap2 hg) (by simp only [ac8, hdst]; exact hd) hne (fun ob' hw' => ((ao9 hv hp).wk hw' (fb3 hn) (bj1 _ tm)).dim) ?_, h2⟩;rw [show (⟨tm, ob⟩ : St).put o.dst x = ⟨(d, x) :: tm, ob⟩ by rw [hdst]; rfl];exact h1
end
section
variable {C : Cx} {tm : List (Nat × X)} {ob : List aa5} {id : Nat} {l : List Oper} {E : List Nat} {wob : List aa5} {i : Nat} {rest : List Oper} {K : St → Prop} {o : Oper} {d : Nat} {p : Prop} {x : X}
theorem reS {tm' : List (Nat × X)} {ob' : List aa5} (hne : E.contains i = true) (hg : ap1 l.toArray tm o = some true) (hd : ac8 C o = true) (hs : au4 C o tm ob = some (p, tm', ob')) (hp : p) (hw : wkP wob.length wob ob') (h : RGw C id l E wob (i + 1) rest ⟨tm', ob'⟩ K) : RGw C id l E wob i (o :: rest) ⟨tm, ob⟩ K := by
 obtain ⟨d, x, hdst, rfl, -⟩ := bh8 (tm2 := tm) hs fun _ _ => rfl
 refine reX (x := x) (ob' := ob') hne hg hd (fun tm2 hev => ?_) hw (by rw [hdst]; exact h);obtain ⟨d', x', hdst', e, h2⟩ := bh8 (tm2 := tm2) hs hev;rw [hdst] at hdst'
 cases hdst'
 cases e
 rw [hdst];exact au5 h2 hp
theorem reSD {tm' : List (Nat × X)} {ob' ob1 : List aa5} {k : Nat} {te : TypeId} {size : Nat} {xs : List D} (hne : E.contains i = true) (hg : ap1 l.toArray tm o = some true) (hd : ac8 C o = true) (hs : au4 C o tm ob = some (p, (d, .own k) :: tm', ob')) (hp : p) (hsp : bi6 ob' = some (ob1, .row te size xs))
  (hk : Nat.beq ob1.length k = true) (hl : Nat.beq ob1.length ob.length = true) (h0 : Nat.ble C.base.n0 ob1.length = true) (hx : xs ≠ []) (hO : ap0 ob1.length ob1) (hw : wkP wob.length wob ob1) (h : RGw C id l E wob (i + 1) rest ⟨(d, .d (.sl xs)) :: tm, ob1⟩ K) : RGw C id l E wob i (o :: rest) ⟨tm, ob⟩ K := by
 obtain ⟨d', x, hdst, e, -⟩ := bh8 (tm2 := tm) hs fun _ _ => rfl
 cases e
 obtain rfl := bi7 hsp;have hk' : ob1.length = k := fa5 hk;refine reX (x := .d (.sl xs)) (ob' := ob1) hne hg hd (EOp.data (te := te) (size := size) hdst (fb3 h0) (fa5 hl) hO.all hx fun tm2 hev => ?_) hw (by rw [hdst]; exact h);obtain ⟨d2, x2, hdst2, e, h2⟩ := bh8 (tm2 := tm2) hs hev;rw [hdst] at hdst2
 cases hdst2
 cases e
 rw [hdst, hk'];exact au5 h2 hp
theorem bj2 {t : TypeId} {n : Nat} {parts : List (Nat × Operand)} {te : TE} {ds : List D} (hne : E.contains i = true) (ho : o.op = .buildSlice t n parts.toArray) (hg : ap1 l.toArray tm o = some true) (hdst : o.dst = some d) (hd : Nat.blt d C.N = true) (hte : ak6 C.E t = some te)
  (hp : as6 C.E ⟨tm, ob⟩ te.size 0 parts = some ds) (hn : n = ds.length) (hsm : n * te.size ≤ 16777216) (hn6 : n ≤ 16777216) (hw : wkP wob.length wob (ob ++ [.row te.t te.size ds])) (h : RGw C id l E wob (i + 1) rest ⟨(d, .own ob.length) :: tm, ob ++ [.row te.t te.size ds]⟩ K) : RGw C id l E wob i (o :: rest) ⟨tm, ob⟩ K := by
 have hdk : ac8 C o = true := by simp only [ac8, hdst]; exact hd
 refine reX (x := .own ob.length) (ob' := ob ++ [.row te.t te.size ds]) hne hg hdk (fun tm2 hev => ?_) hw (by rw [hdst]; exact h)
 have hp2 : as6 C.E ⟨tm2, ob⟩ te.size 0 parts = some ds := by
  rw [← hp];refine bi8 parts 0 fun q hq => hev q.2 ?_
  rw [ho];simp only [Op.operands];simp;exact ⟨q.1, hq⟩
 have := ay8 (s := ⟨tm2, ob⟩) ho hte hp2 hn hsm hn6 hdk;rw [hdst] at this ⊢;exact this
end
end Go.Abs
namespace Go.Abs
open Go Go.RowKit
structure Kp (C : Cx) (ob : List aa5) (σ : Sg) (w : World) (F : Nat → Prop) (w' : World) (F' : Nat → Prop) : Prop where
 kept : aa7 C.O C.w0 w'
 more : ∀ b, F b → F' b
 new : ∀ b, F' b → F b ∨ ¬ C.O b
 same : ∀ b, F b → w'.heap[b]? = w.heap[b]?
 inv : ab2 C.E C.base F' σ ob w'
theorem Kp.of_ext {C : Cx} {ob : List aa5} {σ : Sg} {w w' : World} {F F' : Nat → Prop} (h1 : aa7 C.O C.w0 w) (hi : ab2 C.E C.base F σ ob w) (he : Ext w F w' F') : Kp C ob σ w F w' F' :=
 ⟨h1.step he.below, he.more, fun b hb => (he.new b hb).imp id h1.new, he.keep hi.flt, hi.ext he⟩
def POp (C : Cx) (s : St) (o : Oper) (x : X) : Prop :=
 ∀ (F : Nat → Prop) (σ : Sg) (w : World) (a : Act) (K : Act → World → Prop) (Q : Exit → Act → World → Prop), aa7 C.O C.w0 w → ab2 C.E C.base F σ s.ob w →
  (∀ y ∈ o.op.operands.toList, RdX w F σ (s.ev C.E y) (a.eval y)) →
  (∀ v w' F', Kp C s.ob σ w F w' F' → RdX w' F' σ x v → K (a.put o.dst v) w') → o.wp C.E.P a w K Q
theorem VOp.pop {C : Cx} {s : St} {o : Oper} {x : X} (h : VOp C s o x) : POp C s o x :=
 fun F σ w a K Q h1 hi hr hK => h F σ w a K Q hi hr fun v w' F' he hv => hK v w' F' (Kp.of_ext h1 hi he) hv
theorem ad2.pop {C : Cx} {s s' : St} (h : ad2 s s') {o : Oper} {x : X} (hv : POp C s o x) : POp C s' o x := by
 intro F σ w a K Q h1 hi ho hK;refine hv F σ w a K Q h1 (by rw [← h.2]; exact hi) (fun y hy => ?_) (fun v w' F' hk hx => hK v w' F' (by rw [h.2]; exact hk) hx);rw [← h.ev];exact ho y hy
theorem ae7.allP {C : Cx} {s : St} {xs : List (Oper × Option X)} {ops : List Oper} (hx : xs.map (·.1) = ops) (ho : ad7 ops)
  (hv : ∀ (i : Nat) o x, xs[i]? = some (o, x) → ac8 C o = true ∧ ad1 ops.toArray (stps s (xs.take i)) o x.isSome ∧ ∀ y, x = some y → POp C (stps s (xs.take i)) o y)
  {Q : Exit → Act → World → Prop} (hq : ∀ a w, C.Rel (stps s xs) a w → Q .normal a w) :
  ∀ (fuel : Nat) (L : Array Bool) (a : Act) (w : World), unl ops.length L ≤ fuel → ae7 C s xs ops L a w → wpAny C.E.P .any ops.toArray Q fuel L a w := by
 have hxo : ∀ (i : Nat) o, ops[i]? = some o → ∃ x, xs[i]? = some (o, x) := by
  intro i o hi;rw [← hx, ez8] at hi
  cases hxi : xs[i]? with
  | none => rw [hxi] at hi; cases hi
  | some p => rw [hxi] at hi; simp at hi; exact ⟨p.2, by rw [← hi]⟩
 have hox : ∀ (i : Nat) o x, xs[i]? = some (o, x) → ops[i]? = some o := by
  intro i o x hi;rw [← hx, ez8, hi]; rfl
 have hlen : xs.length = ops.length := by rw [← hx]; simp
 have hdst : ∀ (j : Nat) (p : Oper) d, ops.toArray[j]? = some p → p.dst = some d → d < C.N := by
  intro j p d hj hd;rw [fd4] at hj;obtain ⟨x, hx'⟩ := hxo j p hj;exact ac9 (hv j p x hx').1 d hd
 -- what the state behind the first ones says of a slot
 have hlook : ∀ (i : Nat) (o : Oper) (x : Option X) (L : Array Bool) (a : Act) (w : World) (F : Nat → Prop) (σ : Sg), xs[i]? = some (o, x) → L.getD i false = false →
   (∀ (j : Nat) (o : Oper) (e : Edge), ops[j]? = some o → L.getD j false = true → e ∈ o.after → Region.binds .any e = true → L.getD e.on false = true) →
   (∀ e ∈ o.after, Region.binds .any e = true → L.getD e.on false = true) →
   (∀ t, (∀ (j : Nat) o, ops[j]? = some o → L.getD j false = true → o.dst ≠ some t) → RdX w F σ (lk s.tm t) (a.tmps.getD t undef)) →
   (∀ (j : Nat) o x t, xs[j]? = some (o, x) → L.getD j false = true → o.dst = some t → RdX w F σ (x.getD .und) (a.tmps.getD t undef)) →
   ∀ t ∈ o.looksAt ops.toArray, RdX w F σ (lk (stps s (xs.take i)).tm t) (a.tmps.getD t undef) := by
  intro i o x L a w F σ hi hL hdown hready h1 h2 t ht
  by_cases hw : ∃ (j : Nat) (p : Oper), ops[j]? = some p ∧ p.dst = some t
  ·obtain ⟨j, p, hj, hp⟩ := hw;obtain ⟨y, hy⟩ := hxo j p hj;have huniq : ∀ (k : Nat) (q : Oper), k ≠ j → ops[k]? = some q → q.dst ≠ some t := fun k q hk hq => ho.uniq k j q p t hk hq hj hp
   by_cases hij : i = j
   ·subst hij
    have e : lk (stps s (xs.take i)).tm t = lk s.tm t := by
     refine ae2 _ _ _ fun q hq => ?_
     obtain ⟨k, hk⟩ := fb0 hq;rw [fb1] at hk;split at hk
     ·exact huniq k q.1 (by omega) (hox k q.1 q.2 hk)
     ·cases hk
    rw [e];refine h1 t fun k q hk hkl => ?_
    by_cases hki : k = i
    ·subst hki; rw [hL] at hkl; cases hkl
    ·exact huniq k q hki hk
   ·obtain ⟨ha, hb⟩ := ho.looks i j o p t hij (hox i o x hi) hj hp ht
    by_cases hlt : j < i
    ·obtain ⟨e, he, hbd, hej⟩ := ha hlt;have hjl : L.getD j false = true := by rw [← hej]; exact hready e he hbd
     have e1 : lk (stps s (xs.take i)).tm t = y.getD .und := by
      refine ae4 _ _ t j p y (by rw [fb1, if_pos hlt]; exact hy) hp fun k q hk hq => ?_
      rw [fb1] at hq;split at hq
      ·exact huniq k q.1 hk (hox k q.1 q.2 hq)
      ·cases hq
     rw [e1];exact h2 j p y t hy hjl hp
    ·obtain ⟨e, he, hbd, hei⟩ := hb hlt
     have hjl : L.getD j false = false := by
      cases hjl : L.getD j false with
      | false => rfl
      | true =>
       have := hdown j p e hj hjl he hbd;rw [hei, hL] at this
       cases this
     have e1 : lk (stps s (xs.take i)).tm t = lk s.tm t := by
      refine ae2 _ _ _ fun q hq => ?_
      obtain ⟨k, hk⟩ := fb0 hq;rw [fb1] at hk;split at hk
      ·exact huniq k q.1 (by omega) (hox k q.1 q.2 hk)
      ·cases hk
     rw [e1];refine h1 t fun k q hk hkl => ?_
     by_cases hkj : k = j
     ·subst hkj; rw [hjl] at hkl; cases hkl
     ·exact huniq k q hkj hk
  ·have hno : ∀ (k : Nat) (q : Oper), ops[k]? = some q → q.dst ≠ some t := fun k q hk hq => hw ⟨k, q, hk, hq⟩
   have e1 : lk (stps s (xs.take i)).tm t = lk s.tm t := by
    refine ae2 _ _ _ fun q hq => ?_
    obtain ⟨k, hk⟩ := fb0 hq;rw [fb1] at hk;split at hk
    ·exact hno k q.1 (hox k q.1 q.2 hk)
    ·cases hk
   rw [e1];exact h1 t fun k q hk _ => hno k q hk
 -- the end
 have hfin : ∀ (L : Array Bool) (a : Act) (w : World), (∀ i, i < ops.length → L.getD i false = true) → ae7 C s xs ops L a w → Q .normal a w := by
  intro L a w hall hO;obtain ⟨F, σ, r1, r2, r3, hi, r4, r5, h1, h2⟩ := hO.rel;refine hq a w ⟨F, σ, r1, r2, r3, by rw [ae0]; exact hi, r4, r5, fun t => ?_⟩
  by_cases hw : ∃ (j : Nat) (p : Oper), ops[j]? = some p ∧ p.dst = some t
  ·obtain ⟨j, p, hj, hp⟩ := hw;obtain ⟨y, hy⟩ := hxo j p hj;rw [ae4 s xs t j p y hy hp fun k q hk hq => ho.uniq k j q.1 p t hk (hox k q.1 q.2 hq) hj hp];exact h2 j p y t hy (hall j (ez7.1 hj).1) hp
  ·have hno : ∀ (k : Nat) (q : Oper), ops[k]? = some q → q.dst ≠ some t := fun k q hk hq => hw ⟨k, q, hk, hq⟩
   rw [ae2 s xs t fun q hq => by
    obtain ⟨k, hk⟩ := fb0 hq;exact hno k q.1 (hox k q.1 q.2 hk)]
   exact h1 t fun k q hk _ => hno k q hk
 -- whoever is ready
 have hready : ∀ (L : Array Bool) i, i ∈ Region.ready .any ops.toArray L → L.size = ops.length → ∃ o, ops[i]? = some o ∧ L.getD i false = false ∧ ∀ e ∈ o.after, Region.binds .any e = true → L.getD e.on false = true := by
  intro L i hi hs;unfold Region.ready at hi;rw [fe7, fc6] at hi;obtain ⟨hlt, h⟩ := hi;rw [fd5] at hlt;rw [fa3] at h;obtain ⟨h1, h2⟩ := h;have ho' : ops[i]? = some ops[i] := ez5 hlt;refine ⟨ops[i], ho', ?_, ?_⟩
  ·rw [← ae9 (by omega)]; simpa using h1
  ·intro e he hbd;rw [fd4, ho'] at h2;simp only [fd0, fd8] at h2;obtain ⟨k, hk, rfl⟩ := fl2 he;have := fg6.1 h2 k hk;rw [hbd] at this;simpa using this
 have hsome : ∀ (L : Array Bool) (a : Act) (w : World), ae7 C s xs ops L a w → Region.ready .any ops.toArray L = [] → ∀ i, i < ops.length → L.getD i false = true := by
  intro L a w hO hr i
  induction i using Nat.strongRecOn with
  | _ i ih =>
   intro hi
   cases hL : L.getD i false with
   | true => rfl
   | false =>
    have ho' : ops[i]? = some ops[i] := ez5 hi
    have hm : i ∈ Region.ready .any ops.toArray L := by
     unfold Region.ready;rw [fe7, fc6, fd5];refine ⟨hi, ?_⟩;rw [ae9 (by rw [hO.size]; exact hi), hL, fd4, ho'];simp only [fh8, fc3, fd0, fd8];refine fg6.2 fun k hk => ?_
     cases hbd : Region.binds .any (ops[i]).after[k] with
     | false => simp
     | true =>
      have hb := ho.back i _ _ ho' (Array.getElem_mem hk) hbd;rw [ih _ hb (by omega)];simp
    rw [hr] at hm
    cases hm
 intro fuel
 induction fuel with
 | zero =>
  intro L a w hu hO
  have hall : ∀ i, i < ops.length → L.getD i false = true := fun i hi => by
   rw [← ae9 (by rw [hO.size]; exact hi)];exact ae6 (by omega) i hi
  refine ⟨?_, hfin L a w hall hO⟩;refine fl4.2 fun i hi => ?_
  obtain ⟨o, h1, h2, _⟩ := hready L i hi hO.size;rw [hall i (ez7.1 h1).1] at h2
  cases h2
 | succ fuel ih =>
  intro L a w hu hO;refine ⟨fun hr => hfin L a w (hsome L a w hO hr) hO, fun i hi => ?_⟩;obtain ⟨o, hoi, hL, hed⟩ := hready L i hi hO.size;have hlt : i < ops.length := (ez7.1 hoi).1;obtain ⟨x, hxi⟩ := hxo i o hoi;obtain ⟨hd, hg, hvop⟩ := hv i o x hxi;obtain ⟨F, σ, r1, r2, r3, hinv, r4, r5, h1, h2⟩ := hO.rel;have hl := hlook i o x L a w F σ hxi hL hO.down hed h1 h2
  have hu' : unl ops.length (L.setIfInBounds i true) ≤ fuel := by
   have := ae5 (L := L) hO.size hlt (by rw [ae9 (by rw [hO.size]; exact hlt)]; exact hL);omega
  have hwant : Region.wanted o (yielded ops.toArray a.tmps) = x.isSome := by
   refine hg.wanted (N := C.N) hdst r5 (w := w) (F := F) (σ := σ) fun j pol t hgj ht => hl t ?_
   unfold Oper.looksAt;refine fb7.2 (.inr ?_);rw [hgj];show t ∈ ((ops.toArray[j]?).bind (·.dst)).toList;rw [ht];simp
  -- the step
  have hstep : ∀ v w' F', Kp C s.ob σ w F w' F' → (o.dst ≠ none → RdX w' F' σ (x.getD .und) v) → ae7 C s xs ops (L.setIfInBounds i true) (a.put o.dst v) w' := by
   intro v w' F' he hvv;have hset : ∀ j, (L.setIfInBounds i true).getD j false = (L.getD j false || j == i) := fun j => ae8 (by rw [hO.size]; exact hlt)
   have hother : ∀ t, o.dst ≠ some t → (a.put o.dst v).tmps.getD t undef = a.tmps.getD t undef := by
    intro t ht
    cases hdd : o.dst with
    | none => rfl
    | some d =>
     simp only [Act.put, fg5];rw [fl1 (fun e => ht (by rw [hdd, e]))]
   refine ⟨by simp [hO.size], fun j p e hj hjl hee hbd => ?_, F', σ, he.kept, fun b hb => he.more _ (r2 b hb), fun b hb => ?_, he.inv, by rw [Act.put_def]; exact r4, by rw [Act.put_size]; exact r5, fun t ht => ?_, fun j p y t hj hjl hp => ?_⟩
   ·rw [hset] at hjl ⊢;rw [fc7] at hjl ⊢;rcases hjl with hjl | hjl
    ·exact .inl (hO.down j p e hj hjl hee hbd)
    ·obtain rfl : j = i := by simpa using hjl
     rw [hoi] at hj
     cases hj
     exact .inl (hed e hee hbd)
   ·rcases he.new b hb with h | h
    ·exact r3 b h
    ·exact .inr h
   ·have hit : o.dst ≠ some t := ht i o hoi (by rw [hset]; simp);rw [hother t hit];exact (h1 t fun j q hj hjl => ht j q hj (by rw [hset, hjl]; rfl)).mono he.more he.same fun _ _ h => h
   ·rw [hset, fc7] at hjl
    by_cases hji : j = i
    ·subst hji;rw [hxi] at hj
     cases hj
     have hlt' := ac9 hd t hp;rw [hp];simp only [Act.put];have : (a.tmps.setIfInBounds t v).getD t undef = v := by simp [r5, hlt']
     rw [this];exact hvv (by rw [hp]; simp)
    ·have hjl' : L.getD j false = true := by
      rcases hjl with h | h
      ·exact h
      ·exact absurd (by simpa using h) hji
     rw [hother t (ho.uniq i j o p t (fun e => hji e.symm) hoi (hox j p y hj) hp)];exact (h2 j p y t hj hjl' hp).mono he.more he.same fun _ _ h => h
  unfold wpOp;rw [fd4, hoi];simp only
  cases hx' : x with
  | none =>
   rw [hx'] at hwant;rw [if_neg (by rw [hwant]; simp)];refine ih _ _ _ hu' (hstep undef w F (Kp.of_ext r1 hinv (Ext.refl hinv.flt)) fun _ => ?_);rw [hx']; rfl
  | some y =>
   rw [hx'] at hwant;rw [if_pos (by rw [hwant]; rfl)];refine .inl (hvop y hx' F σ w a _ Q r1 (by rw [ae0]; exact hinv) (fun z hz => ?_) fun v w' F' he hvv => ih _ _ _ hu' (hstep v w' F' (by rw [ae0] at he; exact he) fun _ => by rw [hx']; exact hvv))
   cases z with
   | tmp t =>
    refine hl t ?_;unfold Oper.looksAt;refine fb7.2 (.inl ?_);rw [List.mem_filterMap];exact ⟨_, hz, rfl⟩
   | const v => exact ab4 v
   | global g => exact ab5 hinv.glob.1 g
   | func f => exact Rd.imm _ rfl
section
variable {C : Cx} {s : St} {o : Oper}
theorem bj3 {f : FuncId} {xs ys : List X} {ob1 : List aa5} {rx : X} {sel : List Nat}
    (hcall : ∀ (w : World) (a : Act) (F : Nat → Prop) (σ : Sg), (∀ y ∈ o.op.operands.toList, RdX w F σ (s.ev C.E y) (a.eval y)) → ∃ vals : List Value, (execOp a.eval o).run C.E.P w = .ok (.enter f vals.toArray) w ∧ ys.length = vals.length ∧ ∀ (i : Nat) x v, ys[i]? = some x → vals[i]? = some v → RdX w F σ x v)
    (hn : ax6 sel = true) (hob : ax5 sel s.ob sel = some ob1) (hx : ax2 sel ys = some xs) (h : EvS C.E f xs ob1 rx ob1) (hback : bb7 (bk sel s.ob.length) sel ob1 s.ob = s.ob) :
    POp C s o (bkX (bk sel s.ob.length) rx) := by
  intro F σ w a K Q h1 hi hr hK;obtain ⟨vals, hrun, hvl, hvals⟩ := hcall w a F σ hr;obtain ⟨r1, r2, r3, hi1⟩ := hi.ren sel hn hob;obtain ⟨l1, l2⟩ := ay0 hx
  have hargs : ∀ (i : Nat) x v, xs[i]? = some x → vals[i]? = some v → RdX w F (sel.map fun k => σ.getD k (0, 0, 0)) x v := by
    intro i x v hxi hvi;obtain ⟨x0, g1, g2⟩ := l2 i x hxi;exact ax9 (fun i o ho => (r1 i o ho).2) g2 (hvals i x0 v g1 hvi)
  unfold Oper.wp;rw [hrun];refine (h w F _ vals hi1 (by rw [l1]; exact hvl.symm) hargs).mono ?_;rintro e w' ⟨v, F', σ', rfl, k1, k2, k3, k4, k5, k6⟩;have hm : sel.length ≤ ob1.length := by rw [r2]; exact fa4 _
  have hσn : σ.length = s.ob.length := hi.len
  have hg : ∀ (i : Nat) p, σ'[i]? = some p → (σ ++ σ'.drop sel.length)[bk sel s.ob.length i]? = some p := by
    intro i p hp;unfold bk
    cases hb : Nat.blt i sel.length with
    | true =>
      have hlt : i < sel.length := by simpa using hb
      have hk := ez5 hlt;obtain ⟨q1, q2⟩ := r1 i _ hk;have hσl : i < (sel.map fun k => σ.getD k (0, 0, 0)).length := by simpa using hlt
      have hp' := k4 i _ (by rw [r2]; exact hlt) (ez5 hσl);rw [hp] at hp';rw [← ez5 hσl, q2] at hp';simp only [cond_true, fb9, hk, fd8];rw [fa7 (by rw [hσn]; exact q1)];exact hp'.symm
    | false =>
      have hge : ¬ i < sel.length := fun h => by
        have : Nat.blt i sel.length = true := by simpa using h
        rw [hb] at this
        cases this
      simp only [cond_false];rw [fa9 (by omega), fe4, ← hp];congr 1;omega
  have hheld : ∀ (k : Nat) z p, k ∉ sel → s.ob[k]? = some z → z.live = true → σ[k]? = some p → bb1 w ob1 (sel.map fun k => σ.getD k (0, 0, 0)) p.1 := by
    intro k z p hk hz hl hp;refine ⟨(hi.obs k z p hz hp).lt hl, ?_⟩;rintro ⟨i, x, p', e1, e2, e3, e4⟩;obtain ⟨k', x', f1, f2, f3⟩ := r3 i x e1;rw [(r1 i k' f1).2] at e3;exact hi.inj k' k x' z p' p (fun e => hk (e ▸ ez9 f1)) f2 (by rw [f3]; exact e2) hz hl e3 hp e4
  have hOld : ∀ b, C.O b → bb1 w ob1 (sel.map fun k => σ.getD k (0, 0, 0)) b := by
    intro b hb;refine ⟨fj1 (h1.old b hb) h1.size, ?_⟩;rintro ⟨i, x, p', e1, e2, e3, e4⟩;obtain ⟨k', x', f1, f2, f3⟩ := r3 i x e1;rw [(r1 i k' f1).2] at e3;exact ((hi.obs k' x' p' f2 e3).notO (by rw [f3]; exact e2)).1 (e4 ▸ hb)
  have hF : ∀ b, F b → bb1 w ob1 (sel.map fun k => σ.getD k (0, 0, 0)) b := by
    intro b hb;refine ⟨hi.flt b hb, ?_⟩;rintro ⟨i, x, p', e1, e2, e3, e4⟩;obtain ⟨k', x', f1, f2, f3⟩ := r3 i x e1;rw [(r1 i k' f1).2] at e3;exact ((hi.obs k' x' p' f2 e3).notO (by rw [f3]; exact e2)).2 (e4 ▸ hb)
  have hkeep : ∀ b, F b → w'.heap[b]? = w.heap[b]? := fun b hb => k1.block b (hF b hb)
  have happ : ∀ (o : Nat) p, σ[o]? = some p → (σ ++ σ'.drop sel.length)[o]? = some p := fun o p hp => by
    rw [fa7 (ez7.1 hp).1]; exact hp
  have hcase : ∀ (k : Nat) z p, (bb7 (bk sel s.ob.length) sel ob1 s.ob)[k]? = some z → (σ ++ σ'.drop sel.length)[k]? = some p →
      (k ∉ sel ∧ k < s.ob.length ∧ s.ob[k]? = some z ∧ σ[k]? = some p) ∨ ∃ i y, ob1[i]? = some y ∧ z = bkO (bk sel s.ob.length) y ∧ bk sel s.ob.length i = k ∧ σ'[i]? = some p := by
    intro k z p hz hp
    have fin : ∀ i y, ob1[i]? = some y → bk sel s.ob.length i = k → σ'[i]? = some p := by
      intro i y hy e;have hil : i < σ'.length := by rw [k5.len]; exact (ez7.1 hy).1
      have := hg i _ (ez5 hil);rw [e, hp] at this;rw [ez5 hil, this]
    unfold bb7 at hz;rcases ez6 k s.ob.length with hlt | hge
    · rw [fa7 (by rw [bb8]; exact hlt)] at hz;rcases bb9 sel _ s.ob k z (by simpa using hm) hz with ⟨g1, g2⟩ | ⟨i, g1, g2⟩
      · rw [fa7 (by rw [hσn]; exact hlt)] at hp;exact .inl ⟨g1, hlt, g2, hp⟩
      · rw [ez8, fa2] at g2;obtain ⟨y, hy, rfl⟩ := g2
        have hbk : bk sel s.ob.length i = k := by
          have hil := (ez7.1 g1).1;unfold bk;rw [show Nat.blt i sel.length = true by simpa using hil];simp [fb9, g1]
        exact .inr ⟨i, y, hy, rfl, hbk, fin i y hy hbk⟩
    · rw [fa9 (by rw [bb8]; exact hge), bb8, ez8, fa2] at hz;obtain ⟨y, hy, rfl⟩ := hz;rw [fe4] at hy
      have hbk : bk sel s.ob.length (sel.length + (k - s.ob.length)) = k := by
        unfold bk
        have hf' : Nat.blt (sel.length + (k - s.ob.length)) sel.length = false := by
          cases h : Nat.blt (sel.length + (k - s.ob.length)) sel.length with
          | false => rfl
          | true => have : sel.length + (k - s.ob.length) < sel.length := by simpa using h
                    omega
        rw [hf'];simp only [cond_false];omega
      exact .inr ⟨_, y, hy, rfl, hbk, fin _ y hy hbk⟩
  have hdrop : σ'.drop sel.length = [] := by
    refine fa1 ?_;rw [k5.len, r2];exact fa4 _
  have hinv : ab2 C.E C.base F' (σ ++ σ'.drop sel.length) (bb7 (bk sel s.ob.length) sel ob1 s.ob) w' := by
    refine ⟨k5.flt, k5.glob, ?_, fun k z p hz hp => ?_, fun k k' z z' p p' hne hz hl hz' hl' hp hp' => ?_, fun i p hi' hp => happ _ _ (hi.pre i p hi' hp)⟩
    · simp only [bb7, fb5, bb8, fb8, ff2, hσn, k5.len]
    · rcases hcase k z p hz hp with ⟨g1, g2, g3, g4⟩ | ⟨i, y, g1, rfl, g2, g3⟩
      · exact (hi.obs k z p g3 g4).mono k2 hkeep happ (fun hl => k1.block _ (hheld k z p g1 g3 hl g4)) fun hl hnf hf => by
          rcases k3 _ hf with q | q
          · exact hnf q
          · exact q (hheld k z p g1 g3 hl g4)
      · refine (bb4 hg (k5.obs i y p g1 g3)).own fun hl ho => ?_
        rw [bb5] at hl;exact ((k5.obs i y p g1 g3).notO hl).1 (hOld _ ho)
    · rcases hcase k z p hz hp with ⟨g1, g2, g3, g4⟩ | ⟨i, y, g1, rfl, g2, g3⟩ <;> rcases hcase k' z' p' hz' hp' with ⟨g1', g2', g3', g4'⟩ | ⟨i', y', g1', rfl, g2', g3'⟩
      · exact hi.inj k k' z z' p p' hne g3 hl g3' hl' g4 g4'
      · intro e;rw [bb5] at hl';exact ((k5.obs i' y' p' g1' g3').notO hl').1 (e ▸ hheld k z p g1 g3 hl g4)
      · intro e;rw [bb5] at hl;exact ((k5.obs i y p g1 g3).notO hl).1 (e ▸ hheld k' z' p' g1' g3' hl' g4')
      · rw [bb5] at hl hl';refine k5.inj i i' y y' p p' (fun e => ?_) g1 hl g1' hl' g3 g3';subst e;exact hne (g2.symm.trans g2')
  rw [hdrop, fg4] at hinv hg;rw [hback] at hinv;refine hK _ _ _ ⟨⟨k1.os.trans h1.os, k1.tape.trans h1.tape, k1.output.trans h1.output, fd3 h1.size k1.size, fun k hk => (k1.block k (hOld k hk)).trans (h1.block k hk), h1.old⟩, k2, fun b hb => ?_, hkeep, hinv⟩ (bb3 hg k6);exact (k3 b hb).imp id fun hb' ho => hb' (hOld b ho)
end
section
variable {C : Cx} {s : St} {o : Oper}
theorem bj4 {y : Operand} {args : List Operand} {tys : Array TypeId} {f : FuncId} {cs xs : List X} {ob1 : List aa5} {rx x2 : X} (sel : List Nat) (ho : o.op = .call { callee := .value y, args := args.toArray, argTypes := tys })
  (hf : FnX (s.ev C.E y) f cs) (hb : an2 C.E f) (h : EvS C.E f xs ob1 rx ob1) (hn : ax6 sel = true) (hob : ax5 sel s.ob sel = some ob1) (hx : ax2 sel (args.map (fun z => nrm (s.ev C.E z)) ++ cs) = some xs)
  (hback : bb7 (bk sel s.ob.length) sel ob1 s.ob = s.ob) (hx2 : bkX (bk sel s.ob.length) rx = x2) : POp C s o x2 := by
 subst hx2;refine bj3 (fun w a F σ hr => ?_) hn hob hx h hback;obtain ⟨us, u1, u2, u3⟩ := hf.val (hr y (by simp [ho, Op.operands, Call.operands]));refine ⟨args.map a.eval ++ us, ?_, by simp [u2], fun i x0 v g1 hvi => ?_⟩
 ·simp only [execOp, ho];rw [bc0 u1];simpa using hb (args.toArray.map a.eval ++ us.toArray) w
 ·rcases ez6 i args.length with hlt | hge
  ·rw [fa7 (by simpa using hlt)] at g1 hvi;rw [ez8, fa2] at g1 hvi;obtain ⟨z, z1, rfl⟩ := g1;obtain ⟨z', z1', rfl⟩ := hvi;rw [z1] at z1'
   cases z1'
   exact bc1 (hr z (by simp [ho, Op.operands, Call.operands, ez9 z1]))
  ·rw [fa9 (by simpa using hge)] at g1 hvi;simp only [fb8] at g1 hvi;exact u3 _ _ _ g1 hvi
end
inductive SP (C : Cx) (all : Array Oper) : List Oper → St → St → Prop
 | nil (s : St) : SP C all [] s s
 | seg {pre rest : List Oper} {s s1 s' : St} (h : SD C all true pre s s1) (hr : SP C all rest s1 s') : SP C all (pre ++ rest) s s'
 | pop {o : Oper} {rest : List Oper} {s s' : St} {x : X} (hg : o.guard = none) (hd : ac8 C o = true) (hv : POp C s o x) (hr : SP C all rest (s.put o.dst x) s') : SP C all (o :: rest) s s'
theorem SP.data {C : Cx} {all : Array Oper} {ops : List Oper} {s s' : St} (h : SP C all ops s s') :
  ∃ xs : List (Oper × Option X), xs.map (·.1) = ops ∧ ad2 (stps s xs) s' ∧ ∀ (i : Nat) o x, xs[i]? = some (o, x) → ac8 C o = true ∧ ad1 all (stps s (xs.take i)) o x.isSome ∧ ∀ y, x = some y → POp C (stps s (xs.take i)) o y := by
 induction h with
 | nil s => exact ⟨[], rfl, ad2.refl _, fun i o x h => by simp at h⟩
 | @seg pre rest s s1 s' h hr ih =>
  obtain ⟨xs1, e1, q1, v1⟩ := h.data;obtain ⟨xs2, e2, q2, v2⟩ := ih;refine ⟨xs1 ++ xs2, by simp [e1, e2], by rw [ae1]; exact (q1.stps xs2).trans q2, fun i o x hi => ?_⟩;rcases ez6 i xs1.length with hlt | hge
  ·rw [fa7 hlt] at hi;rw [List.take_append_of_le_length (by omega)];obtain ⟨a1, a2, a3⟩ := v1 i o x hi;exact ⟨a1, a2, fun y hy => (a3 y hy).pop⟩
  ·obtain ⟨m, rfl⟩ : ∃ m, i = xs1.length + m := ⟨i - xs1.length, by omega⟩;rw [fa9 (by omega), fm1] at hi;rw [List.take_length_add_append, ae1];obtain ⟨a1, a2, a3⟩ := v2 m o x hi;have hss := (q1.stps (xs2.take m)).symm;exact ⟨a1, hss.guard a2, fun y hy => hss.pop (a3 y hy)⟩
 | @pop o rest s s' x hg hd hv hr ih =>
  obtain ⟨xs, h1, h2, h3⟩ := ih;refine ⟨(o, some x) :: xs, by simp [h1], h2, fun i o' x' hi => ?_⟩
  cases i with
  | zero =>
   simp at hi;obtain ⟨rfl, rfl⟩ := hi;exact ⟨hd, by unfold ad1; rw [hg]; rfl, fun y hy => by cases hy; exact hv⟩
  | succ i => exact h3 i o' x' (by simpa using hi)
def PGo (C : Cx) (all : Array Oper) (_id _i : Nat) (ops : List Oper) (s : St) (K : St → Prop) : Prop := ∃ s', SP C all ops s s' ∧ K s'
section
variable {C : Cx} {r : List It} {s : St} {Q : Exit → St → Prop} {all : Array Oper} {K : St → Prop} {id i : Nat}
theorem pgN (h : K s) : PGo C all id i [] s K := ⟨s, .nil s, h⟩
theorem pgF {ops pre rest : List Oper} (n : Nat) (h1 : ops.take n = pre) (h2 : ops.drop n = rest) (h : SGo C all true pre s (fun s1 => PGo C all id (i + n) rest s1 K)) : PGo C all id i ops s K := by
 obtain ⟨s1, h3, s', h4, h5⟩ := h;subst h1 h2;exact ⟨s', by have := SP.seg h3 h4; rwa [fj5] at this, h5⟩
theorem pgS (sel : List Nat) {o : Oper} {rest : List Oper} {tm : List (Nat × X)} {ob : List aa5} {d : Nat} {y : Operand} {args : List Operand} {tys : Array TypeId} {f : FuncId} {cs xs : List X} {ob1 : List aa5} {rx x2 : X} (hg : o.guard = none) (hdst : o.dst = some d) (hd : Nat.blt d C.N = true)
  (ho : o.op = .call { callee := .value y, args := args.toArray, argTypes := tys }) (hf : FnX ((⟨tm, ob⟩ : St).ev C.E y) f cs) (hb : an2 C.E f) (h : EvS C.E f xs ob1 rx ob1) (hn : ax6 sel = true) (hob : ax5 sel ob sel = some ob1) (hx : ax2 sel (args.map (fun z => nrm ((⟨tm, ob⟩ : St).ev C.E z)) ++ cs) = some xs)
  (hback : bb7 (bk sel ob.length) sel ob1 ob = ob) (hx2 : bkX (bk sel ob.length) rx = x2) (hk : PGo C all id (i + 1) rest ⟨(d, x2) :: tm, ob⟩ K) : PGo C all id i (o :: rest) ⟨tm, ob⟩ K := by
 obtain ⟨s', h1, h2⟩ := hk;refine ⟨s', .pop hg (by simp only [ac8, hdst]; exact hd) (bj4 (s := ⟨tm, ob⟩) sel ho hf hb h hn hob hx hback hx2) ?_, h2⟩;rw [hdst];exact h1
theorem qCP {l : List Oper} (ho : ad6 l = true) (h : PGo C l.toArray id 0 l s (fun s' => go C r s' Q)) : go C (.code (.region id l.toArray true) :: r) s Q := by
 intro a w hr;obtain ⟨s', h1, h2⟩ := h;obtain ⟨xs, hx, heq, hv⟩ := h1.data;refine wp_region_any C.E.hM ?_;obtain ⟨F, σ, r1, r2, r3, hi, r4, r5, hs⟩ := hr;have hext : Ext w F { w with drawn := w.drawn + 1 } F := ⟨⟨rfl, rfl, rfl, fa4 _, fun _ _ => rfl⟩, fun _ h => h, fun _ h => .inl h, hi.flt⟩;refine ae7.allP hx (ad9 ho) hv (fun a w hr => ⟨_, heq.rel hr, h2⟩) _ _ _ _ ?_ ⟨by simp, fun i o e ho' hL => ?_, F, σ, r1.step hext.below, r2, r3, hi.ext hext, r4, r5, fun t _ => (hs t).ext hext hi.flt, fun j o x t hj hL => ?_⟩
 ·refine fd3 (fh7 _ _) ?_;simp
 ·exfalso
  by_cases hlt : i < l.length <;> simp [hlt] at hL
 ·exfalso
  by_cases hlt : j < l.length <;> simp [hlt] at hL
end
section
variable {C : Cx} {s : St} {o : Oper}
end
section
variable {C : Cx} {K : St → Prop} {all : Array Oper} {rest : List Oper} {tm : List (Nat × X)} {ob : List aa5} {d : Nat} {o : Oper}
end
section
variable {C : Cx} {r : List It} {Q : Exit → St → Prop} {tm : List (Nat × X)} {ob : List aa5}
theorem bj5 {c : Code} (t : Nat) (h : lk tm t = .nilS) (hg : go C (.code c :: r) ⟨(t, .d (.sl [])) :: tm, ob⟩ Q) : go C (.code c :: r) ⟨tm, ob⟩ Q := by
 refine ac6 (fun a w hr => ?_) hg;obtain ⟨F, σ, r1, r2, r3, hi, r4, r5, hs⟩ := hr;refine ⟨F, σ, r1, r2, r3, hi, r4, r5, fun u => ?_⟩;show RdX w F σ (bif Nat.beq t u then _ else lk tm u) _
 cases hb : Nat.beq t u with
 | true =>
  have hu := hs u;obtain rfl := fa5 hb;rw [h] at hu;rw [show a.tmps.getD t undef = .slice none 0 0 from hu];exact Rd.slnil
 | false => exact hs u
end
section
variable {C : Cx} {K : St → Prop} {all : Array Oper} {rest : List Oper} {tm : List (Nat × X)} {ob : List aa5} {d : Nat} {pu : Bool} {o : Oper}
end
end Go.Abs
namespace Go.Abs
open Go Go.RowKit
def bj6 : X → Option (List Cap)
 | .d d => some (d.cells.map Cap.d)
 | .nilS => some [.d (.sl [])]
 | .own o => some [.own o]
 | .ptr o off => some [.ptr o off]
 | .st cs => some cs
 | _ => none
theorem bj7 {w : World} {F : Nat → Prop} {σ : Sg} {x : X} {v : Value} {ds : List Cap} (h : bj6 x = some ds) (hv : RdX w F σ x v) :
  v.cells.size = ds.length ∧ (∀ (i : Nat) c u, ds[i]? = some c → v.cells.toList[i]? = some u → aa4 w F σ c u) ∧ ∀ u ∈ v.cells.toList, u.oneCell' = true := by
 have one : v.oneCell' = true → ∀ c, aa4 w F σ c v → v.cells.size = [c].length ∧ (∀ (i : Nat) c' u, [c][i]? = some c' → v.cells.toList[i]? = some u → aa4 w F σ c' u) ∧ ∀ u ∈ v.cells.toList, u.oneCell' = true := by
  intro h1 c hc;have hvc : v.cells = #[v] := by cases v <;> simp_all [Value.oneCell', Value.cells]
  rw [hvc];refine ⟨rfl, fun i c' u hi hu => ?_, by simpa using h1⟩
  cases i with
  | zero => simp at hi hu; subst hi hu; exact hc
  | succ i => simp at hi
 cases x with
 | d d =>
  simp only [bj6] at h
  cases h
  obtain ⟨a1, a2, a3⟩ := RdX.cells_ (x := .d d) hv rfl;refine ⟨by simpa [X.cells] using a1, fun i c u hi hu => ?_, a2⟩;rw [ez8, fa2] at hi;obtain ⟨e, he, rfl⟩ := hi;exact a3 i (.d e) u (by simp [X.cells, he]) hu
 | nilS =>
  simp only [bj6] at h
  cases h
  refine one (by rw [show v = _ from hv]; rfl) _ ?_;rw [show v = .slice none 0 0 from hv];exact Rd.slnil
 | own o =>
  simp only [bj6] at h
  cases h
  refine one ?_ _ hv;obtain ⟨b, c, n, -, rfl⟩ := hv;rfl
 | ptr o off =>
  simp only [bj6] at h
  cases h
  refine one ?_ _ hv;obtain ⟨b, c, n, -, rfl⟩ := hv;rfl
 | st cs =>
  simp only [bj6] at h
  cases h
  obtain ⟨us, rfl, hl, h1, hr⟩ := hv;exact ⟨by simpa [Value.cells] using hl.symm, fun i c u hi hu => hr i c u hi (by simpa [Value.cells] using hu), fun u hu => h1 u (by simpa [Value.cells] using hu)⟩
 | _ => simp [bj6] at h
structure bj8 (w : World) (F : Nat → Prop) (σ : Sg) (vs : List Value) (cs : List Cap) : Prop where
 len : cs.length = vs.length
 one : ∀ v ∈ vs, v.oneCell' = true
 rd : ∀ (i : Nat) c v, cs[i]? = some c → vs[i]? = some v → aa4 w F σ c v
def bj9 : List Cap → Nat → List Cap → List Cap
 | cs, _, [] => cs
 | cs, k, d :: r => bj9 (cs.set k d) (k + 1) r
theorem bk0 : ∀ (r cs : List Cap) (k : Nat), k + r.length ≤ cs.length → bj9 cs k r = cs.take k ++ r ++ cs.drop (k + r.length)
 | [], cs, k, _ => by simp [bj9]
 | d :: r, cs, k, h => by
  simp only [bj9];simp only [fa8] at h;rw [bk0 r (cs.set k d) (k + 1) (by simp; omega)]
  have e1 : (cs.set k d).take (k + 1) = cs.take k ++ [d] := by
   rw [fm0 (by simp; omega), fi2 (fa4 _)];simp
  have e2 : (cs.set k d).drop (k + 1 + r.length) = cs.drop (k + (d :: r).length) := by
   rw [List.drop_set_of_lt (by omega)];simp only [fa8];congr 1;omega
  rw [e1, e2];simp
theorem bj8.set_ {w : World} {F : Nat → Prop} {σ : Sg} {vs : List Value} {cs ds : List Cap} {v : Value} {off : Nat} (h : bj8 w F σ vs cs) (a1 : v.cells.size = ds.length)
  (a2 : ∀ (i : Nat) c u, ds[i]? = some c → v.cells.toList[i]? = some u → aa4 w F σ c u) (a3 : ∀ u ∈ v.cells.toList, u.oneCell' = true) (hle : off + ds.length ≤ cs.length) :
  bj8 w F σ (vs.take off ++ v.cells.toList ++ vs.drop (off + v.cells.toList.length)) (bj9 cs off ds) := by
 have hl : v.cells.toList.length = ds.length := by simpa using a1
 rw [bk0 _ _ _ hle];have hlen := h.len;have h1 : (cs.take off).length = off := by rw [fb6]; omega
 have h2 : (vs.take off).length = off := by rw [fb6]; omega
 refine ⟨?_, fun u hu => ?_, fun i c u hc hu => ?_⟩
 ·simp only [fb5, fb6, ff2, hl, hlen]
 ·rw [fb7, fb7] at hu;rcases hu with (hu | hu) | hu
  ·exact h.one u (fg1 hu)
  ·exact a3 u hu
  ·exact h.one u (fh9 hu)
 ·rcases ez6 i off with hlt | hge
  ·rw [fc1, fa7 (by omega), fb1, if_pos hlt] at hu hc;exact h.rd i c u hc hu
  ·rw [fc1, fa9 (by omega)] at hu hc;rw [h2] at hu;rw [h1] at hc;rcases ez6 (i - off) ds.length with hlt | hge2
   ·rw [fa7 (by omega)] at hu hc;exact a2 _ c u hc hu
   ·rw [fa9 (by omega), fe4] at hu hc;rw [hl] at hu;exact h.rd _ c u hc hu
def bk1 (E : Env) (fs : Array Field) (s : St) : List (Nat × Operand) → List Cap → Option (List Cap)
 | [], cs => some cs
 | (i, x) :: r, cs => match ag4 E fs i with
  | none => none
  | some (off, size) => match bj6 (s.ev E x) with
   | none => none
   | some ds => bif Nat.beq ds.length size && Nat.ble (off + ds.length) cs.length then bk1 E fs s r (bj9 cs off ds) else none
section
variable {C : Cx} {s : St} {o : Oper} {x : X}
theorem bk2 {E : Env} {fs : Array Field} {w : World} {F : Nat → Prop} {σ : Sg} {a : Act} {places : Array (Nat × Nat)} (hpl : ∀ (i off size : Nat), ag4 E fs i = some (off, size) → places[i]? = some (off, size)) :
  ∀ (parts : List (Nat × Operand)) (vs : Array Value) (cs cs' : List Cap), (∀ q ∈ parts, RdX w F σ (s.ev E q.2) (a.eval q.2)) → bj8 w F σ vs.toList cs → bk1 E fs s parts cs = some cs' →
   ∃ vs', Instr.fill (places[·]?) vs (parts.map fun q => (q.1, a.eval q.2)) = some vs' ∧ bj8 w F σ vs'.toList cs'
 | [], vs, cs, cs', _, h, hf => by
  simp only [bk1] at hf
  cases hf
  exact ⟨vs, rfl, h⟩
 | (i, y) :: r, vs, cs, cs', ha, h, hf => by
  simp only [bk1] at hf;split at hf
  ·cases hf
  ·rename_i off size hp
   split at hf
   ·cases hf
   ·rename_i ds hd
    cases hb : (Nat.beq ds.length size && Nat.ble (off + ds.length) cs.length) with
    | false => rw [hb] at hf; cases hf
    | true =>
     rw [hb] at hf;rw [fa3] at hb;have h1 := fa5 hb.1;have h2 := fb3 hb.2;obtain ⟨a1, a2, a3⟩ := bj7 hd (ha (i, y) (by simp));dsimp only at a1 a2 a3;have hlen := h.len;have hsz : vs.size = cs.length := by rw [hlen]; simp
     have hs := ao4 (a.eval y).cells.toList vs off 0 (by simp; omega)
     obtain ⟨vs', e1, e2⟩ := bk2 hpl r (((a.eval y).cells.toList.zipIdx 0).foldl (fun cs (c, j) => cs.setIfInBounds (off + j) c) vs) _ cs' (fun q hq => ha q (by simp [hq]))
      (by rw [hs]; exact h.set_ a1 a2 a3 h2) (by simpa using hf)
     refine ⟨vs', ?_, e2⟩;simp only [fg7, Instr.fill, hpl i off size hp];rw [if_neg (by simp; omega)];rw [← e1];congr 1;rw [← Array.foldl_toList];congr 1;simp [Array.toList_zipIdx]
theorem bk3 {t : TypeId} {y : Operand} {cs : List Cap} (ho : o.op = .box t y) (hx : s.ev C.E y = .st cs) (hd : ac8 C o = true) : SOp C s o (s.add o.dst (.var t (.cs (cs.map Cap.x))) (.ptr s.ob.length 0)) := by
 rintro w a K Q ⟨F, σ, h1, h2, h3, hi, h4, h5, hs⟩ hK;have hv := ab6 (E := C.E) hi hs y;rw [hx] at hv
 have hrun : (execOp a.eval o).run C.E.P w = .ok (.value (.pointer (some ⟨w.heap.size, 0, none⟩))) (w.alloc (.cells (a.eval y).cells t)) := by
  simp [execOp, ho, Instr.box, newVar, newRow]
 unfold Oper.wp;rw [hrun];have he := al6 (F := F) (.cells (a.eval y).cells t) hi.flt;have hv' : RdX (w.alloc (.cells (a.eval y).cells t)) F (σ ++ [(w.heap.size, 0, 0)]) (.st cs) (a.eval y) := (hv.ext he hi.flt).mono (fun _ h => h) (fun _ _ => rfl) σ_app;obtain ⟨c1, c2, c3⟩ := bj7 (x := .st cs) rfl hv';refine hK _ _ (al7 h1 h2 h3 hi h4 h5 hs hd (x := .var t (.cs (cs.map Cap.x))) (c := 0) (n := 0) ⟨(a.eval y).cells.toList, by simpa using al4, by simpa [VC.cells] using c1.symm, c3, fun i x v hx hv => ?_, h1.new (fa4 _), fun hf => ?_⟩ ⟨w.heap.size, 0, 0, ?_, rfl⟩)
 ·simp only [VC.cells, ez8, fa2] at hx;obtain ⟨c, hc, rfl⟩ := hx;exact Cap.x_rd (c2 i c v hc hv)
 ·exact absurd (hi.flt _ hf) (fi1 _)
 ·rw [← hi.len]; simp
end
section
variable {C : Cx} {K : St → Prop} {all : Array Oper} {rest : List Oper} {tm : List (Nat × X)} {ob : List aa5} {d : Nat} {pu : Bool} {o : Oper}
end
section
variable {C : Cx} {id : Nat} {l : List Oper} {E : List Nat} {wob : List aa5} {i : Nat} {rest : List Oper} {o : Oper} {tm : List (Nat × X)} {ob : List aa5} {K : St → Prop} {d : Nat}
theorem bk4 {t : TypeId} {y : Operand} {cs : List Cap} {m : List X} (hne : E.contains i = true) (ho : o.op = .box t y) (hg : ap1 l.toArray tm o = some true) (hdst : o.dst = some d) (hd : Nat.blt d C.N = true) (hx : (⟨tm, ob⟩ : St).ev C.E y = .st cs) (hm : cs.map Cap.x = m)
  (hw : wkP wob.length wob (ob ++ [.var t (.cs m)])) (h : RGo C id l E wob (i + 1) rest ⟨(d, .ptr ob.length 0) :: tm, ob ++ [.var t (.cs m)]⟩ K) : RGo C id l E wob i (o :: rest) ⟨tm, ob⟩ K := by
 subst hm;have hdk : ac8 C o = true := by simp only [ac8, hdst]; exact hd
 refine rgX (x := .ptr ob.length 0) (ob' := ob ++ [.var t (.cs (cs.map Cap.x))]) hne hg hdk (fun tm' hev => ?_) hw (by rw [hdst]; exact h);exact bk3 (s := ⟨tm', ob⟩) ho ((hev y (by simp [ho, Op.operands])).trans hx) hdk
end
end Go.Abs
namespace Go.Abs
open Go Go.RowKit
section
variable {C : Cx} {tm : List (Nat × X)} {ob : List aa5} {id : Nat} {l : List Oper} {E : List Nat} {wob : List aa5} {i : Nat} {rest : List Oper} {K : St → Prop} {o : Oper} {d : Nat}
theorem bk5 (sel : List Nat) {y : Operand} {args : List Operand} {tys : Array TypeId} {f : FuncId} {cs xs : List X} {ob1 ob1' ob2 : List aa5} {rx x2 : X} (hne : E.contains i = true) (ho : o.op = .call { callee := .value y, args := args.toArray, argTypes := tys }) (hg : ap1 l.toArray tm o = some true) (hdst : o.dst = some d)
  (hd : Nat.blt d C.N = true) (hf : FnX ((⟨tm, ob⟩ : St).ev C.E y) f cs) (hb : an2 C.E f) (h0 : EvS C.E f xs ob1 rx ob1') (hn : ax6 sel = true) (hob : ax5 sel ob sel = some ob1) (hx : ax2 sel (args.map (fun z => nrm ((⟨tm, ob⟩ : St).ev C.E z)) ++ cs) = some xs)
  (hob2 : bb7 (bk sel ob.length) sel ob1' ob = ob2) (hx2 : bkX (bk sel ob.length) rx = x2) (hw : wkP wob.length wob ob2) (h : RGw C id l E wob (i + 1) rest ⟨(d, x2) :: tm, ob2⟩ K) : RGw C id l E wob i (o :: rest) ⟨tm, ob⟩ K := by
 subst hob2 hx2;have hdk : ac8 C o = true := by simp only [ac8, hdst]; exact hd
 refine reX (x := bkX (bk sel ob.length) rx) (ob' := bb7 (bk sel ob.length) sel ob1' ob) hne hg hdk (fun tm' hev => ?_) hw (by rw [hdst]; exact h)
 have hm : ∀ z, z = y ∨ z ∈ args → (⟨tm', ob⟩ : St).ev C.E z = (⟨tm, ob⟩ : St).ev C.E z := by
  intro z hz;refine hev z ?_;rcases hz with rfl | hz <;> simp [ho, Op.operands, Call.operands, *]
 refine bc3 (s := ⟨tm', ob⟩) ho (by rw [hm y (.inl rfl)]; exact hf) hb hn hob ?_ h0 hdk;rw [← hx];congr 2;exact fl5 fun z hz => by rw [hm z (.inr hz)]
end
end Go.Abs
namespace Go.Abs
open Go Go.RowKit
def vEq : Value → Value → Bool
 | .bool a, .bool b => a == b
 | .int _ a, .int _ b => a == b
 | .string a, .string b => a == b
 | _, _ => false
theorem bk6 {d : TypeDesc} {a b : Value} (ha : MapKept.IsKey d a) (hb : MapKept.IsKey d b) : vEq a b = true ↔ a = b := by
 cases d <;> cases a <;> cases b <;> simp_all [MapKept.IsKey, vEq, MapKept.bytes_beq]
def bk7 : TypeDesc → Value → Bool
 | .bool, .bool _ => true
 | .int k, .int k' _ => decide (k' = k)
 | .string, .string _ => true
 | _, _ => false
theorem bk8 {d : TypeDesc} {v : Value} (h : bk7 d v = true) : MapKept.IsKey d v := by
 cases d <;> cases v <;> simp_all [bk7, MapKept.IsKey]
def bk9 (k : Value) : List (Value × D) → Option Nat
 | [] => none
 | x :: r => bif vEq k x.1 then some 0 else (bk9 k r).map (· + 1)
def bl0 (k : Value) (xs : List (Value × D)) (z : D) : D := match bk9 k xs with
 | some i => (match xs[i]? with | some x => x.2 | none => z)
 | none => z
def bl1 (k : Value) (d : D) (xs : List (Value × D)) : List (Value × D) := match bk9 k xs with
 | some i => xs.set i (k, d)
 | none => xs ++ [(k, d)]
theorem bl2 {k : Value} : ∀ {xs : List (Value × D)} {i : Nat}, bk9 k xs = some i → ∃ x, xs[i]? = some x ∧ vEq k x.1 = true
 | [], i, h => by cases h
 | x :: r, i, h => by
  simp only [bk9] at h
  cases hc : vEq k x.1 with
  | true => rw [hc] at h; cases h; exact ⟨x, rfl, hc⟩
  | false =>
   rw [hc, cond_false, fa2] at h;obtain ⟨j, hj, rfl⟩ := h;obtain ⟨y, h1, h2⟩ := bl2 hj;exact ⟨y, by simpa using h1, h2⟩
theorem bl3 {d : TypeDesc} {k : Value} (hk : MapKept.IsKey d k) : ∀ (es : List MapEntry) (xs : List (Value × D)) (i : Nat), es.length = xs.length → (∀ (j : Nat) e x, es[j]? = some e → xs[j]? = some x → e.key = x.1) →
  (∀ x ∈ xs, MapKept.IsKey d x.1) → Instr.findNow d k es i = some (match bk9 k xs with | some j => (es[j]?).map (fun e => (i + j, e.val)) | none => none)
 | [], [], i, _, _, _ => rfl
 | [], _ :: _, i, h, _, _ => by simp at h
 | _ :: _, [], i, h, _, _ => by simp at h
 | e :: es, x :: xs, i, hl, he, hx => by
  have hex := he 0 e x rfl rfl;obtain ⟨r, hr, hiff⟩ := MapKept.sameNow_of_keys hk (hx x (by simp));have ih := bl3 hk es xs (i + 1) (by simpa using hl) (fun j a b h1 h2 => he (j + 1) a b (by simpa using h1) (by simpa using h2)) fun y hy => hx y (by simp [hy])
  have hv : vEq k x.1 = r := by
   rw [ff6, bk6 hk (hx x (by simp)), hiff]
  simp only [Instr.findNow, bk9, hex, hr, hv]
  cases r with
  | true => simp
  | false =>
   simp only [cond_false];rw [ih]
   cases bk9 k xs with
   | none => rfl
   | some j => simp only [fd0, List.getElem?_cons_succ]; congr 2; funext e; congr 1; omega
section
variable {C : Cx} {s : St} {o : Oper}
theorem ab2.turnW {E : Env} {B : ab1} {F : Nat → Prop} {σ : Sg} {ob : List aa5} {w w' : World} {i b c n : Nat} {x y : aa5} (h : ab2 E B F σ ob w) (hx : ob[i]? = some x) (hl : x.live = true) (hσ : σ[i]? = some (b, c, n)) (hF : ¬ F b)
  (hs : w'.heap.size = w.heap.size) (ho : ∀ k, k ≠ b → w'.heap[k]? = w.heap[k]?) (hy : aa6 w' F σ B.O y (b, c, n)) : ab2 E B F σ (ob.set i y) w' := by
 have keep : ∀ k, F k → w'.heap[k]? = w.heap[k]? := fun k hk => ho k (fun e => hF (e ▸ hk))
 refine ⟨fun k hk => by rw [hs]; exact h.flt k hk, h.glob.mono (fun _ h => h) keep, by simp [h.len], fun k z p hz hp => ?_, fun k k' z z' p p' hne hz hzl hz' hzl' hp hp' => ?_, h.pre⟩
 ·rw [fd2] at hz;split at hz
  ·rename_i he
   subst he;split at hz
   ·cases hz
    rw [hσ] at hp
    cases hp
    exact hy
   ·cases hz
  ·rename_i he
   refine (h.obs k z p hz hp).mono (fun _ h => h) keep (fun _ _ h => h) (fun hzl => ?_) (fun _ h => h);exact ho p.1 (h.inj k i z x p (b, c, n) (fun e => he e.symm) hz hzl hx hl hp hσ)
 ·have key : ∀ (k : Nat) (z : aa5), (ob.set i y)[k]? = some z → z.live = true → ∃ u : aa5, ob[k]? = some u ∧ u.live = true := by
   intro k z hz hzl;rw [fd2] at hz;split at hz
   ·rename_i he; subst he; exact ⟨x, hx, hl⟩
   ·exact ⟨z, hz, hzl⟩
  obtain ⟨u, u1, u2⟩ := key k z hz hzl;obtain ⟨u', u1', u2'⟩ := key k' z' hz' hzl';exact h.inj k k' u u' p p' hne u1 u2 u1' u2' hp hp'
theorem bl4 {t : TypeId} {kd : TypeDesc} (ho : o.op = .makeMap t none) (hd : ac8 C o = true) : SOp C s o (s.add o.dst (.map kd []) (.mp s.ob.length)) := by
 rintro w a K Q ⟨F, σ, h1, h2, h3, hi, h4, h5, hs⟩ hK
 have hrun : (execOp a.eval o).run C.E.P w = .ok (.value (.map (some w.heap.size))) (w.alloc (.map #[] 0)) := by
  simp [execOp, ho, Instr.makeMap, Result.andThen]
 unfold Oper.wp;rw [hrun];refine hK _ _ (al7 h1 h2 h3 hi h4 h5 hs hd (x := .map kd []) (c := 0) (n := 0) ⟨#[], (MapKept.heap_alloc w _).1, rfl, fun i e x he => by simp at he, fun x hx => by simp at hx, h1.new (fa4 _), fun hf => absurd (hi.flt _ hf) (fi1 _)⟩ ⟨w.heap.size, 0, 0, ?_, rfl⟩);rw [← hi.len]; simp
theorem bl5 {w : World} {F : Nat → Prop} {v : Value} {d : D} (h : ag7 [v] = some [d]) (h1 : v.oneCell' = true) : Rd w F d v := by
 have := ao6 (w := w) (F := F) h fun u hu => by rw [fa0.1 hu]; exact h1
 obtain ⟨d', e1, e2⟩ := this.rd 0 v rfl
 cases e1
 exact e2
theorem bl6 {t kt et : TypeId} {y z : Operand} {k : Nat} {kd : TypeDesc} {xs : List (Value × D)} {kv : Value} {te : TE} {zd : D} (ho : o.op = .lookup t y z false) (hy : s.ev C.E y = .mp k) (hz : s.ev C.E z = .d (.imm kv)) (hob : s.ob[k]? = some (.map kd xs))
  (hm : as9 C.E t = some (.map kt et)) (hk : as9 C.E kt = some kd) (hkv : bk7 kd kv = true) (hte : aa8 C.E.T et = some te) (hzd : ag7 [te.zero] = some [zd]) (hz1 : te.zero.oneCell' = true) : VOp C s o (.d (bl0 kv xs zd)) := by
 refine VOp.pure_ fun F σ w a hi hr => ?_
 have h1 := hr y (by simp [ho, Op.operands]);have h2 := hr z (by simp [ho, Op.operands]);rw [hy] at h1;rw [hz] at h2;obtain ⟨b, c, n, p1, p2⟩ := h1;obtain ⟨e2, -⟩ := Rd.imm_inv h2;obtain ⟨es, q1, q2, q3, q4, -⟩ := hi.obs k _ _ hob p1;have hkk := bk8 hkv;obtain ⟨hok, rfl⟩ := ab0 hte;have hf := bl3 hkk es.toList xs 0 (by simpa using q2) (fun j e x he hx => (q3 j e x (by simpa using he) hx).1.1) q4
 cases hi' : bk9 kv xs with
 | none =>
  rw [hi'] at hf;refine ⟨te.zero, ?_, ?_⟩
  ·simp [execOp, ho, p2, e2, Instr.lookup, run_underlying (at0 hm), MapKept.run_getObj_map q1, MapKept.run_checkKey (at0 hk) hkk, MapKept.run_findKey (at0 hk) hf, al9 hok, Result.andThen]
  ·show Rd w F (bl0 kv xs zd) te.zero;rw [bl0, hi'];exact bl5 hzd hz1
 | some i =>
  rw [hi'] at hf;obtain ⟨x, hx, -⟩ := bl2 hi';have hil : i < es.size := by rw [q2]; exact (ez7.1 hx).1
  obtain ⟨e, he⟩ : ∃ e, es[i]? = some e := ⟨es[i], by simp [hil]⟩;have hf' : Instr.findNow kd kv es.toList 0 = some (some (i, e.val)) := by rw [hf]; simp [he]
  refine ⟨e.val, ?_, ?_⟩
  ·simp [execOp, ho, p2, e2, Instr.lookup, run_underlying (at0 hm), MapKept.run_getObj_map q1, MapKept.run_checkKey (at0 hk) hkk, MapKept.run_findKey (at0 hk) hf', Result.andThen]
  ·show Rd w F (bl0 kv xs zd) e.val;rw [bl0, hi'];simp only [hx];exact (q3 i e x he hx).2
theorem obMap {w : World} {F : Nat → Prop} {σ : Sg} {B : Nat → Prop} {kd : TypeDesc} {ys : List (Value × D)} {b c n : Nat} {es es' : Array MapEntry} (q1 : w.heap[b]? = some (.map es es.size)) (q5 : ¬ B b) (q6 : ¬ F b) (hl : es'.size = ys.length)
  (h3 : ∀ (i : Nat) e x, es'[i]? = some e → ys[i]? = some x → (e.key = x.1 ∧ e.born = i) ∧ Rd w F x.2 e.val) (h4 : ∀ x ∈ ys, MapKept.IsKey kd x.1) :
  aa6 { w with heap := w.heap.setIfInBounds b (.map es' es'.size) } F σ B (.map kd ys) (b, c, n) := by
 have hh := MapKept.heap_set (o' := .map es' es'.size) q1;refine ⟨es', hh.1, hl, fun i e x he hx => ⟨(h3 i e x he hx).1, (h3 i e x he hx).2.mono (fun _ h => h) fun k hk => hh.2 k (fun e => q6 (e ▸ hk))⟩, h4, q5, q6⟩
theorem bl7 {a : Act} {w : World} {F : Nat → Prop} {σ : Sg} {k b c n : Nat} {kd : TypeDesc} {xs ys : List (Value × D)} {es es' : Array MapEntry} (h1 : aa7 C.O C.w0 w) (h2 : ∀ b, C.F0 b → F b) (h3 : ∀ b, F b → C.F0 b ∨ ¬ C.O b) (hi : ab2 C.E C.base F σ s.ob w)
  (h4 : a.defers = []) (h5 : a.tmps.size = C.N) (hs : ∀ t, RdX w F σ (lk s.tm t) (a.tmps.getD t undef)) (hob : s.ob[k]? = some (.map kd xs)) (p1 : σ[k]? = some (b, c, n)) (q1 : w.heap[b]? = some (.map es es.size)) (q5 : ¬ C.O b) (q6 : ¬ F b)
  (hl : es'.size = ys.length) (h3' : ∀ (i : Nat) e x, es'[i]? = some e → ys[i]? = some x → (e.key = x.1 ∧ e.born = i) ∧ Rd w F x.2 e.val) (h4' : ∀ x ∈ ys, MapKept.IsKey kd x.1) :
  C.Rel (s.setOb k (.map kd ys)) a { w with heap := w.heap.setIfInBounds b (.map es' es'.size) } := by
 have hh := MapKept.heap_set (o' := .map es' es'.size) q1;have hsz : (w.heap.setIfInBounds b (.map es' es'.size)).size = w.heap.size := by simp
 refine ⟨F, σ, ⟨h1.os, h1.tape, h1.output, by show _ ≤ (w.heap.setIfInBounds b _).size; rw [hsz]; exact h1.size, fun j hj => (hh.2 j fun e => q5 (e ▸ hj)).trans (h1.block j hj), h1.old⟩, h2, h3, hi.turnW hob rfl p1 q6 hsz (fun j hj => hh.2 j hj) (obMap q1 q5 q6 hl h3' h4'), h4, h5, fun t => ?_⟩;exact (hs t).mono (fun _ h => h) (fun j hj => hh.2 j fun e => q6 (e ▸ hj)) fun _ _ h => h
end
section
variable {C : Cx} {K : St → Prop} {all : Array Oper} {pu : Bool} {rest : List Oper} {tm : List (Nat × X)} {ob : List aa5} {d : Nat} {o : Oper}
theorem bl8 {t kt et : TypeId} {kd : TypeDesc} (ho : o.op = .makeMap t none) (hg : ap1 all tm o = some true) (hdst : o.dst = some d) (hd : Nat.blt d C.N = true) (hm : as9 C.E t = some (.map kt et)) (hk : as9 C.E kt = some kd) (h : SGo C all false rest ⟨(d, .mp ob.length) :: tm, ob ++ [.map kd []]⟩ K) : SGo C all false (o :: rest) ⟨tm, ob⟩ K := by
 refine SGo.eff (ap2 hg) (bl4 (kd := kd) ho (by simp only [ac8, hdst]; exact hd)) ?_;rw [hdst];exact h
theorem bl9 {t kt et : TypeId} {y z : Operand} {k : Nat} {kd : TypeDesc} {xs : List (Value × D)} {kv : Value} {te : TE} {zd : D} (ho : o.op = .lookup t y z false) (hg : ap1 all tm o = some true) (hdst : o.dst = some d) (hd : Nat.blt d C.N = true) (hy : (⟨tm, ob⟩ : St).ev C.E y = .mp k) (hz : (⟨tm, ob⟩ : St).ev C.E z = .d (.imm kv)) (hob : ob[k]? = some (.map kd xs))
  (hm : as9 C.E t = some (.map kt et)) (hk : as9 C.E kt = some kd) (hkv : bk7 kd kv = true) (hte : aa8 C.E.T et = some te) (hzd : ag7 [te.zero] = some [zd]) (hz1 : te.zero.oneCell' = true) (h : SGo C all pu rest ⟨(d, .d (bl0 kv xs zd)) :: tm, ob⟩ K) : SGo C all pu (o :: rest) ⟨tm, ob⟩ K := by
 refine SGo.vop (ap2 hg) (by simp only [ac8, hdst]; exact hd) (bl6 ho hy hz hob hm hk hkv hte hzd hz1) ?_;rw [hdst];exact h
end
end Go.Abs
namespace Go.Abs
open Go Go.RowKit
section
variable {C : Cx} {s : St} {o : Oper} {p : Prop} {x : X}
end
section
variable {C : Cx} {all : Array Oper} {pu : Bool} {rest : List Oper} {tm : List (Nat × X)} {ob : List aa5} {K : St → Prop} {o : Oper} {d : Nat} {p : Prop} {x : X}
end
end Go.Abs
namespace Go.Abs
open Go Go.RowKit
section
variable {C : Cx} {s : St} {o : Oper} {x : X} {p : Prop}
def loX : Option X → Option Nat
 | none => some 0
 | some (.d (.imm (.int _ (.ofNat i)))) => some i
 | _ => none
def hiX (n : Nat) : Option X → Option Nat
 | none => some n
 | some (.d (.imm (.int _ (.ofNat i)))) => some i
 | _ => none
theorem bm0 {a : Act} {w : World} {F : Nat → Prop} {σ : Sg} {lo : Option Operand} {l : Nat} (hlo : ∀ z, lo = some z → RdX w F σ (s.ev C.E z) (a.eval z)) (h : loX (lo.map (s.ev C.E)) = some l) : (lo = none ∧ l = 0) ∨ ∃ k, lo.map a.eval = some (.int k (l : Int)) := by
 cases lo with
 | none => simp [loX] at h; exact .inl ⟨rfl, h.symm⟩
 | some z =>
  right;have hz := hlo z rfl;simp only [fd0] at h ⊢;unfold loX at h;split at h
  ·cases ‹some _ = none›
  ·rename_i k i hq
   cases h
   rw [Option.some.inj hq] at hz;exact ⟨k, by rw [hz.imm_inv.1]; rfl⟩
  ·cases h
theorem bm1 {a : Act} {w : World} {F : Nat → Prop} {σ : Sg} {n : Nat} {lo : Option Operand} {l : Nat} (hlo : ∀ z, lo = some z → RdX w F σ (s.ev C.E z) (a.eval z)) (h : hiX n (lo.map (s.ev C.E)) = some l) : (lo = none ∧ l = n) ∨ ∃ k, lo.map a.eval = some (.int k (l : Int)) := by
 cases lo with
 | none => simp [hiX] at h; exact .inl ⟨rfl, h.symm⟩
 | some z =>
  right;have hz := hlo z rfl;simp only [fd0] at h ⊢;unfold hiX at h;split at h
  ·cases ‹some _ = none›
  ·rename_i k i hq
   cases h
   rw [Option.some.inj hq] at hz;exact ⟨k, by rw [hz.imm_inv.1]; rfl⟩
  ·cases h
theorem bm2 {t : TypeId} {y : Operand} {lo hi : Option Operand} {te : TE} {k l h : Nat} {xs : List D} (ho : o.op = .slice t y lo hi none) (hy' : s.ev C.E y = .own k) (hob : s.ob[k]? = some (.row te.t te.size xs)) (hte : ak6 C.E t = some te)
  (hl : loX (lo.map (s.ev C.E)) = some l) (hh : hiX xs.length (hi.map (s.ev C.E)) = some h) (h1 : l ≤ h) (h2 : h ≤ xs.length) : VOp C s o (.sub k l (h - l) te.size) := by
 obtain ⟨hu, hok⟩ := ak7 hte;refine VOp.pure_ fun F σ w a hi' hr => ?_
 have hy := hr y (by simp [ho, Op.operands]);have hlo := bm0 (C := C) (s := s) (a := a) (w := w) (F := F) (σ := σ) (fun z hz => hr z (by simp [ho, Op.operands, hz])) hl;have hhi := bm1 (C := C) (s := s) (a := a) (w := w) (F := F) (σ := σ) (fun z hz => hr z (by simp [ho, Op.operands, hz])) hh;rw [hy'] at hy;obtain ⟨b, c, n, p1, p2⟩ := hy;obtain ⟨vs, q1, q2, q3, q4, q5, -⟩ := hi'.obs k _ _ hob p1;have hmx : maxLen = 9223372036854775807 := rfl
 have hb : (Instr.sliceBounds true n c (lo.map a.eval) (hi.map a.eval) none).run C.E.P w = .ok (l, h, c) w := by
  have b1 : 0 ≤ (l : Int) ∧ (l : Int) ≤ (h : Nat) := ⟨by omega, by omega⟩;have b2 : 0 ≤ (h : Int) ∧ (h : Int) ≤ (c : Nat) := ⟨by omega, by omega⟩;rcases hlo with ⟨rfl, rfl⟩ | ⟨k1, e1⟩ <;> rcases hhi with ⟨rfl, rfl⟩ | ⟨k2, e2⟩
  ·simp [Instr.sliceBounds, q3]
  ·simp only [Option.map_none];rw [e2];simp [Instr.sliceBounds, ak0 b2]
  ·simp only [Option.map_none];rw [e1];have b1' : 0 ≤ (l : Int) ∧ (l : Int) ≤ (xs.length : Nat) := ⟨by omega, by omega⟩;simp [Instr.sliceBounds, ak0 b1', q3]
  ·rw [e1, e2];simp [Instr.sliceBounds, ak0 b1, ak0 b2]
 have hrun := ak3 (ad := ⟨b, 0, none⟩) hu hok rfl hb;refine ⟨_, by simp only [execOp, ho, p2]; simp [hrun], b, c, n, p1, if c = l then ⟨b, 0, none⟩ else (⟨b, 0, none⟩ : Addr).add (l * te.size), ⟨by omega, by omega, ?_⟩, rfl⟩
 by_cases hcl : c = l
 ·left; omega
 ·right; rw [if_neg hcl, aa2, fc0]
theorem bm3 {t : TypeId} {y z : Operand} {kd : IntKind} {i : Int} {te : TE} {k lo n : Nat} (ho : o.op = .indexAddr t y z) (hy' : s.ev C.E y = .sub k lo n te.size) (hz' : s.ev C.E z = .d (.imm (.int kd i)))
  (hte : ak6 C.E t = some te) (h0 : 0 ≤ i) (hlt : i < n) : VOp C s o (.pel k (lo + i.toNat) 0 te.size) := by
 obtain ⟨hu, hok⟩ := ak7 hte;refine VOp.pure_ fun F σ w a hi hr => ?_
 have hy := hr y (by simp [ho, Op.operands]);have hz := hr z (by simp [ho, Op.operands]);rw [hy'] at hy;rw [hz'] at hz;obtain ⟨e2, -⟩ := Rd.imm_inv hz;obtain ⟨b, c, m, p1, ad, ⟨-, -, hn⟩, p2⟩ := hy
 have had : ad = ⟨b, lo * te.size, none⟩ := by
  rcases hn with hn | hn
  ·omega
  ·exact hn
 subst had;refine ⟨.pointer (some (⟨b, lo * te.size + i.toNat * te.size, none⟩)), ?_, b, c, m, p1, by rw [fe8]; simp⟩;have hlt' : 0 ≤ i ∧ i < (n : Int) := ⟨h0, hlt⟩;simp [execOp, ho, p2, e2, Instr.indexAt, asIntOf, run_underlying hu, hlt', ai8 hok, aa2]
theorem bm4 {t : TypeId} {y : Operand} {te : TE} {k lo n : Nat} {xs : List D} {zd : D} (ho : o.op = .call { callee := .builtin .clear, args := #[y], argTypes := #[t] }) (hdst : o.dst = none) (hy' : s.ev C.E y = .sub k lo n te.size) (hob : s.ob[k]? = some (.row te.t te.size xs)) (hte : ak6 C.E t = some te)
  (hzd : ar4 te = some zd) (h1z : al2 te.zero.cells.toList = true) (hzs : te.zero.cells.size = te.size) (hle : lo + n ≤ xs.length) : SOp C s o (s.setOb k (.row te.t te.size (xs.take lo ++ List.replicate n zd ++ xs.drop (lo + n)))) := by
 obtain ⟨hu, hok⟩ := ak7 hte;obtain ⟨hdesc, i0, hi0, hsize, hbytes, hzero⟩ := hok;have hc := ar5 hzd;rintro w a K Q ⟨F, σ, h1, h2, h3, hi, h4, h5, hs⟩ hK;have hp := ab6 (E := C.E) hi hs y;rw [hy'] at hp;obtain ⟨b, cc, m, p1, ad, ⟨l1, -, had⟩, p2⟩ := hp;obtain ⟨vs, q1, q2, q3, q4, q4', q5, q6, q7, q8, q9⟩ := hi.obs k _ _ hob p1;have hzlen : (Builtin.zeroCells te.zero.cells n).toList.length = n * te.size := by simp [Builtin.zeroCells, hzs]
 have hz0 : ∀ w', ao2 w' F te.zero.cells.toList zd.cells := fun w' => ao6 hc fun v hv => al3 h1z v hv
 have hdl : zd.cells.length = te.size := by rw [(hz0 w).len]; simpa using hzs
 have hone : ∀ v ∈ (Builtin.zeroCells te.zero.cells n).toList, v.oneCell' = true := by
  intro u hu';simp only [Builtin.zeroCells, Array.toList_map, Array.toList_range, fc4, fc6] at hu';obtain ⟨j, hj, rfl⟩ := hu'
  have hpos : 0 < te.zero.cells.size := by
   rcases fi0 te.zero.cells.size with h | h
   ·rw [h] at hj; simp at hj
   ·exact h
  have hlt : j % te.zero.cells.size < te.zero.cells.size := Nat.mod_lt _ hpos
  have : te.zero.cells[j % te.zero.cells.size]! ∈ te.zero.cells.toList := by
   rw [getElem!_pos te.zero.cells _ hlt]; exact Array.getElem_mem_toList hlt
  exact al3 h1z _ this
 have hroom : (lo + n) * te.size ≤ cc * te.size := ff8 _ (by omega);rw [fe8] at hroom;have hrow := run_storeCells_at C.E.P b (lo * te.size) te.t (Builtin.zeroCells te.zero.cells n).toList 0 vs.toArray w q1 (by rw [hzlen]; simp; omega) hone
 have hrun : (execOp a.eval o).run C.E.P w = .ok (.value (.tuple #[])) (w.setRow b (vs.take (lo * te.size) ++ (Builtin.zeroCells te.zero.cells n).toList ++ vs.drop (lo * te.size + n * te.size)).toArray) := by
  rw [hzlen] at hrow;simp only [fc5] at hrow;have hzv : (zeroValue te.t).run C.E.P w = .ok te.zero w := by simp [zeroValue, typeInfo, hi0, hzero]
  rcases fi0 n with rfl | hn
  ·have : (w.setRow b (vs.take (lo * te.size) ++ (Builtin.zeroCells te.zero.cells 0).toList ++ vs.drop (lo * te.size + 0 * te.size)).toArray) = w := by
    have e0 : (Builtin.zeroCells te.zero.cells 0).toList = [] := List.length_eq_zero_iff.1 (by rw [hzlen, Nat.zero_mul]);rw [e0, fg4, Nat.zero_mul, fc5, fj5];exact setRow_self w b vs.toArray te.t (0, 0) q1
   rw [this];simp [execOp, ho, resolve, invoke, builtin, p2, Builtin.clear_, run_underlying hu]
  ·have had' : ad = ⟨b, lo * te.size, none⟩ := by
    rcases had with h | h
    ·omega
    ·exact h
   subst had';obtain ⟨n', rfl⟩ : ∃ n', n = n' + 1 := ⟨n - 1, by omega⟩;simp [execOp, ho, resolve, invoke, builtin, p2, Builtin.clear_, run_underlying hu, hzv, hrow]
 unfold Oper.wp;rw [hrun];simp only [Oper.upon];rw [hdst];refine hK _ _ ⟨F, σ, h1.setRow (by assumption) _, h2, h3, ?_, h4, h5, fun t => (hs t).mono (fun _ h => h) (fun k hk => am6 w b _ k (fun e => q9 (e ▸ hk))) (fun _ _ h => h)⟩;refine hi.turn hob rfl p1 q9 ?_;have keep : ∀ k, F k → (w.setRow b (vs.take (lo * te.size) ++ (Builtin.zeroCells te.zero.cells n).toList ++ vs.drop (lo * te.size + n * te.size)).toArray).heap[k]? = w.heap[k]? := fun k hk => am6 w b _ k (fun e => q9 (e ▸ hk))
 have hvl : vs.length = cc * te.size := q2
 have hmem : ∀ x, x ∈ xs.take lo ++ List.replicate n zd ++ xs.drop (lo + n) → x ∈ xs ∨ x = zd := by
  intro x hx;rw [fb7, fb7] at hx;rcases hx with (hx | hx) | hx
  ·exact .inl (fg1 hx)
  ·exact .inr (fj3.1 hx).2
  ·exact .inl (fh9 hx)
 refine ⟨_, setRow_heap w b vs.toArray _ te.t _ q1, ?_, ?_, q4, q4', fun u hu' => ?_, fun u hu' c hcu => ?_, fun i u j cd hu' hcu => ?_, q8, q9⟩
 ·simp only [fb5, fb6, ff2, hzlen, hvl];omega
 ·simp only [fb5, fb6, ff2, List.length_replicate];omega
 ·rcases hmem u hu' with h | rfl
  ·exact q5 u h
  ·exact hdl
 ·rcases hmem u hu' with h | rfl
  ·exact q6 u h c hcu
  ·obtain ⟨j, hj⟩ := fb0 hcu;have hlt : j < te.zero.cells.toList.length := by rw [← (hz0 w).len]; exact (ez7.1 hj).1
   obtain ⟨d', e1, e2⟩ := (hz0 w).rd j _ (ez5 hlt);rw [hj] at e1
   cases e1
   exact e2.one_of ((hz0 w).one _ (fc9 hlt))
 ·have hj : j < te.size := by
   have : u.cells.length = te.size := by
    rcases hmem u (ez9 hu') with h | rfl
    ·exact q5 u h
    ·exact hdl
   rw [← this]; exact (ez7.1 hcu).1
  have e1 : (vs.take (lo * te.size)).length = lo * te.size := by rw [fb6]; omega
  have e2 : (xs.take lo).length = lo := by rw [fb6]; omega
  rcases ez6 i lo with hlt | hge
  ·rw [fc1, fa7 (by omega), fb1, if_pos hlt] at hu';obtain ⟨v, r1, r2⟩ := q7 i u j cd hu' hcu;have hm : (i + 1) * te.size ≤ lo * te.size := ff8 _ hlt;rw [fe8, Nat.one_mul] at hm;refine ⟨v, ?_, r2.mono (fun _ h => h) keep⟩;rw [fc1, fa7 (by omega), fb1, if_pos (by omega)];exact r1
  ·rw [fc1, fa9 (by omega), e2] at hu';have hm : lo * te.size ≤ i * te.size := ff8 _ hge;rcases ez6 (i - lo) n with hlt2 | hge2
   ·rw [fa7 (by simpa using hlt2), List.getElem?_replicate, if_pos hlt2] at hu'
    cases hu'
    have hlt : j < te.zero.cells.toList.length := by simpa [hzs] using hj
    obtain ⟨d', e3, e4⟩ := (hz0 w).rd j _ (ez5 hlt);rw [hcu] at e3
    cases e3
    refine ⟨_, ?_, (e4.mono (fun _ h => h) keep)⟩;have hm2 : (i + 1) * te.size ≤ (lo + n) * te.size := ff8 _ (by omega);rw [fe8, fe8, Nat.one_mul] at hm2;rw [fc1, fa9 (by omega), e1, fa7 (by rw [hzlen]; omega)];have hjj : j < te.zero.cells.size := by simpa using hlt
    have hsub : i * te.size + j - lo * te.size = (i - lo) * te.size + j := by rw [Nat.sub_mul]; omega
    have hmod : ((i - lo) * te.size + j) % te.zero.cells.size = j := by rw [hzs]; exact (aq2 hj).2
    have hin : (i - lo) * te.size + j < n * te.zero.cells.size := by rw [hzs]; exact aq1 hlt2 hj
    rw [hsub];simp only [Builtin.zeroCells, Array.toList_map, Array.toList_range, ez8, ff0 hin, fd0, hmod];simp [hjj]
   ·rw [fa9 (by simpa using hge2), List.length_replicate, fe4] at hu';obtain ⟨v, r1, r2⟩ := q7 _ u j cd hu' hcu;refine ⟨v, ?_, r2.mono (fun _ h => h) keep⟩;have hm2 : (lo + n) * te.size ≤ i * te.size := ff8 _ (by omega);rw [fe8] at hm2;rw [fc1, fa9 (by omega), e1, fa9 (by rw [hzlen]; omega), hzlen, fe4, ← r1];congr 1;rw [show lo + n + (i - lo - n) = i by omega];omega
end
section
variable {C : Cx} {all : Array Oper} {pu : Bool} {rest : List Oper} {tm : List (Nat × X)} {ob : List aa5} {K : St → Prop} {o : Oper} {d : Nat} {p : Prop} {x : X}
theorem bm5 {t : TypeId} {y : Operand} {lo hi : Option Operand} {te : TE} {k l h : Nat} {xs : List D} (ho : o.op = .slice t y lo hi none) (hg : ap1 all tm o = some true) (hdst : o.dst = some d) (hd : Nat.blt d C.N = true) (hy' : (⟨tm, ob⟩ : St).ev C.E y = .own k)
  (hte : ak6 C.E t = some te) (hob : ob[k]? = some (.row te.t te.size xs)) (hl : loX (lo.map ((⟨tm, ob⟩ : St).ev C.E)) = some l) (hh : hiX xs.length (hi.map ((⟨tm, ob⟩ : St).ev C.E)) = some h) (h12 : l ≤ h ∧ h ≤ xs.length)
  (hgo : SGo C all pu rest ⟨(d, .sub k l (h - l) te.size) :: tm, ob⟩ K) : SGo C all pu (o :: rest) ⟨tm, ob⟩ K :=
 au7 hg hdst hd (bm2 ho hy' hob hte hl hh h12.1 h12.2) hgo
theorem bm6 {t : TypeId} {y z : Operand} {kd : IntKind} {i : Int} {te : TE} {k lo n : Nat} (ho : o.op = .indexAddr t y z) (hg : ap1 all tm o = some true) (hdst : o.dst = some d) (hd : Nat.blt d C.N = true) (hte : ak6 C.E t = some te) (hy' : (⟨tm, ob⟩ : St).ev C.E y = .sub k lo n te.size) (hz' : (⟨tm, ob⟩ : St).ev C.E z = .d (.imm (.int kd i)))
  (h0 : 0 ≤ i ∧ i < n) (hgo : SGo C all pu rest ⟨(d, .pel k (lo + i.toNat) 0 te.size) :: tm, ob⟩ K) : SGo C all pu (o :: rest) ⟨tm, ob⟩ K :=
 au7 hg hdst hd (bm3 ho hy' hz' hte h0.1 h0.2) hgo
theorem bm7 {t : TypeId} {y : Operand} {te : TE} {k lo n : Nat} {xs : List D} {zd : D} (ho : o.op = .call { callee := .builtin .clear, args := #[y], argTypes := #[t] }) (hg : ap1 all tm o = some true) (hdst : o.dst = none) (hy' : (⟨tm, ob⟩ : St).ev C.E y = .sub k lo n te.size) (hte : ak6 C.E t = some te) (hob : ob[k]? = some (.row te.t te.size xs))
  (hzd : ar4 te = some zd) (h1z : al2 te.zero.cells.toList = true) (hzs : te.zero.cells.size = te.size) (hle : lo + n ≤ xs.length) (hgo : SGo C all false rest ⟨tm, ob.set k (.row te.t te.size (xs.take lo ++ List.replicate n zd ++ xs.drop (lo + n)))⟩ K) : SGo C all false (o :: rest) ⟨tm, ob⟩ K :=
 SGo.eff (ap2 hg) (bm4 ho hdst hy' hob hte hzd h1z hzs hle) hgo
end
end Go.Abs
namespace Go.Abs
open Go Go.RowKit
section
variable {C : Cx} {K : St → Prop} {all : Array Oper} {rest : List Oper} {tm : List (Nat × X)} {ob : List aa5} {d : Nat} {pu : Bool} {o : Oper}
theorem bm8 {t u : TypeId} {y z : Operand} {k : IntKind} {m : Int} (h : Int) (ho : o.op = .binOp .shr t y z u) (hg : ap1 all tm o = some true) (hdst : o.dst = some d) (hd : Nat.blt d C.N = true) (hy : (⟨tm, ob⟩ : St).ev C.E y = .d (.imm (.int .u64 m)))
  (hz : (⟨tm, ob⟩ : St).ev C.E z = .d (.imm (.int k 1))) (he : m / 2 = h) (h0 : 0 ≤ m) (h1 : m < 18446744073709551616) (hn : SGo C all pu rest ⟨(d, .d (.imm (.int .u64 h))) :: tm, ob⟩ K) : SGo C all pu (o :: rest) ⟨tm, ob⟩ K := by
 obtain ⟨a, rfl⟩ := fi3 h0;have e : h = ((a / 2 ^ 1 : Nat) : Int) := by omega
 refine au7 hg hdst hd (at9 ho hy hz (by simp) (by simp) (fun w => ?_) (af2 (k := .u64) (by simp only [inR]; omega))) hn;rw [e];exact bf4 a 1 (by omega) w
end
end Go.Abs
namespace Go.Abs
open Go
theorem yz {P R : Prop} (h : R) (f : R → P := by
  first
  | exact fun h => zS rfl h | exact qA | exact qB rfl | exact qD | exact qF | exact qE | exact qG | exact fun h => zT rfl h | exact fun h => zU rfl h | exact qL rfl rfl | exact qH rfl | exact qM rfl rfl rfl | exact qC (by kernel_rfl) | exact qO rfl rfl rfl) : P := f h
section
variable {C : Cx} {all : Array Oper} {pu : Bool} {K : St → Prop} {rest : List Oper} {o : Oper} {tm : List (Nat × X)} {ob : List aa5} {d : Nat}
theorem yp {y : Operand} {args : List Operand} {tys : Array TypeId} {f : FuncId} {ds : List D} {rx : X} (hb : an2 C.E f) (h0 : Ev C.E f ds rx) (h : SGo C all pu rest ⟨(d, rx) :: tm, ob⟩ K)
  (ho : o.op = .call { callee := .value y, args := args.toArray, argTypes := tys } := by exact rfl) (hg : ap1 all tm o = some true := by exact rfl) (hdst : o.dst = some d := by exact rfl) (hd : Nat.blt d C.N = true := by exact rfl)
  (hf : (⟨tm, ob⟩ : St).ev C.E y = .d (.imm (.func (.func f) #[] #[])) := by exact rfl) (hds : an0 C.E ⟨tm, ob⟩ args = some ds := by exact rfl) : SGo C all pu (o :: rest) ⟨tm, ob⟩ K := qP ho hg hdst hd hf hds hb h0 h
theorem yi {t : TypeId} {y z : Operand} {xs : List D} {k : IntKind} {i : Int} {te : TE} (x : D) (hx : xs[i.toNat]? = some x) (h : SGo C all pu rest ⟨(d, .at_ x 0) :: tm, ob⟩ K) (ho : o.op = .indexAddr t y z := by exact rfl) (hg : ap1 all tm o = some true := by exact rfl) (hdst : o.dst = some d := by exact rfl)
  (hd : Nat.blt d C.N = true := by exact rfl) (hy : (⟨tm, ob⟩ : St).ev C.E y = .d (.sl xs) := by exact rfl) (hz : (⟨tm, ob⟩ : St).ev C.E z = .d (.imm (.int k i)) := by exact rfl) (hte : ak6 C.E t = some te := by exact rfl) (hsz : Nat.beq x.cells.length te.size = true := by exact rfl)
  (h0 : 0 ≤ i := by first | omega | decide) : SGo C all pu (o :: rest) ⟨tm, ob⟩ K := qI x ho (ap2 hg) hdst hd hy hz hte hsz h0 hx h
theorem yc (sel : List Nat) {y : Operand} {args : List Operand} {tys : Array TypeId} {f : FuncId} {cs xs : List X} {ob1 ob1' ob2 : List aa5} {rx x2 : X} (hb : an2 C.E f) (h0 : EvS C.E f xs ob1 rx ob1') (h : SGo C all false rest ⟨(d, x2) :: tm, ob2⟩ K)
  (ho : o.op = .call { callee := .value y, args := args.toArray, argTypes := tys } := by exact rfl) (hg : ap1 all tm o = some true := by exact rfl) (hdst : o.dst = some d := by exact rfl) (hd : Nat.blt d C.N = true := by exact rfl)
  (hf : FnX ((⟨tm, ob⟩ : St).ev C.E y) f cs := by exact FnX.plain _) (hn : ax6 sel = true := by exact rfl) (hob : ax5 sel ob sel = some ob1 := by exact rfl) (hx : ax2 sel (args.map (fun z => nrm ((⟨tm, ob⟩ : St).ev C.E z)) ++ cs) = some xs := by exact rfl)
  (hob2 : bb7 (bk sel ob.length) sel ob1' ob = ob2 := by exact rfl) (hx2 : bkX (bk sel ob.length) rx = x2 := by exact rfl) : SGo C all false (o :: rest) ⟨tm, ob⟩ K := bc8 sel ho hg hdst hd hf hb h0 hn hob hx hob2 hx2 h
theorem yv {k : Nat} {tm : List (Nat × X)} {P : Prop} (h : P) (hb : TmB k tm := by repeat (first | exact trivial | refine ⟨rfl, ?_⟩)) : TmB k tm ∧ P := ⟨hb, h⟩
end
section
variable {C : Cx} {l : List Oper} {E : List Nat} {wob : List aa5} {ops : List Oper} {tm : List (Nat × X)} {ob : List aa5} {K : St → Prop} {r : List It} {Q : Exit → St → Prop}
theorem yq (id : Nat) (E : List Nat) (h : RGo C id l E (List.replicate C.base.n0 aa5.dead) 0 l ⟨tm, ob⟩ (fun s' => go C r s' Q)) (ho : ad6 l = true := by kernel_rfl) (hE : bh0 (bg0 l) E = true := by kernel_rfl)
  (hw : wkP (List.replicate C.base.n0 aa5.dead).length (List.replicate C.base.n0 aa5.dead) ob := by repeat (first | exact trivial | refine ⟨⟨rfl, rfl⟩, ?_⟩ | refine ⟨trivial, ?_⟩)) : go C (.code (.region id l.toArray true) :: r) ⟨tm, ob⟩ Q := qR0 E ho hE hw h
theorem yf (id i n : Nat) (h : SGo C l.toArray true (ops.take n) ⟨tm, ob⟩ (fun s1 => RGo C id l E wob (i + n) (ops.drop n) ⟨s1.tm, ob⟩ K)) (hc : rgFB l E i n = true := by kernel_rfl) (hn : Nat.ble n ops.length = true := by exact rfl) : RGo C id l E wob i ops ⟨tm, ob⟩ K := rgF n hc hn h
end
theorem yy {P R1 R2 : Prop} (h1 : R1) (h2 : R2) (f : R1 → R2 → P := by exact qY rfl rfl rfl rfl) : P := f h1 h2
theorem yx {P R : Prop} (h : R) (f : R → P := by first | exact fun h => zX rfl rfl rfl rfl h | exact fun h => zW rfl rfl rfl rfl h) : P := f h
theorem yw {P R : Prop} (h : R) (f : R → P := by
  first
  | exact bh5 rfl rfl rfl rfl rfl rfl rfl rfl rfl rfl rfl (by repeat (first | exact trivial | refine ⟨⟨rfl, rfl⟩, ?_⟩ | refine ⟨trivial, ?_⟩))
  | exact bh6 rfl rfl rfl rfl rfl rfl rfl (by repeat (first | exact trivial | refine ⟨⟨rfl, rfl⟩, ?_⟩ | refine ⟨trivial, ?_⟩))
  | exact rgBox rfl rfl rfl rfl rfl rfl rfl (by repeat (first | exact trivial | refine ⟨⟨rfl, rfl⟩, ?_⟩ | refine ⟨trivial, ?_⟩))
  | exact bk4 rfl rfl rfl rfl rfl rfl rfl (by repeat (first | exact trivial | refine ⟨⟨rfl, rfl⟩, ?_⟩ | refine ⟨trivial, ?_⟩))
  | exact bh7 _ rfl rfl rfl rfl rfl rfl rfl (by assumption) rfl rfl rfl (by repeat (first | exact trivial | refine ⟨⟨rfl, rfl⟩, ?_⟩ | refine ⟨trivial, ?_⟩))
  | exact fun h => rgS rfl rfl rfl rfl (by first | exact True.intro | rfl | assumption | omega | (simp only [inR]; omega) | ((show _ ≤ (9223372036854775807 : Nat)); (try simp only [ByteArray.size_append]); omega) | exact av2 (by omega) (by omega) | exact av3 (by omega) (by omega) | exact ⟨rfl, by decide, by decide⟩) (by repeat (first | exact trivial | refine ⟨⟨rfl, rfl⟩, ?_⟩ | refine ⟨trivial, ?_⟩)) h) : P := f h
theorem yF (p : Prop) [Decidable p] (h : ¬p) : decide p = false := decide_eq_false h
theorem yT (p : Prop) [Decidable p] (h : p) : decide p = true := decide_eq_true h
section
variable {C : Cx} {all : Array Oper} {pu : Bool} {K : St → Prop} {rest : List Oper} {o : Oper} {tm : List (Nat × X)} {ob ob' : List aa5} {d : Nat} {r : List It} {fn : Func}
theorem yl {t te : TypeId} {y : Operand} {i k off size : Nat} {xs : List D} {e : D} {x : X} {p : Prop} (he : xs[i]? = some e) (h : SGo C all pu rest ⟨(d, x) :: tm, ob⟩ K) (ho : o.op = .load t y := by exact rfl) (hg : ap1 all tm o = some true := by exact rfl) (hdst : o.dst = some d := by exact rfl) (hd : Nat.blt d C.N = true := by exact rfl)
  (hy : (⟨tm, ob⟩ : St).ev C.E y = .pel k i off size := by exact rfl) (hob : ob[k]? = some (.row te size xs) := by exact rfl) (hl : af9 C.E ob t (.at_ e off) = some (p, x) := by exact rfl) : SGo C all pu (o :: rest) ⟨tm, ob⟩ K := qW e ho hg hdst hd hy hob he hl h
theorem yr (ks : List Nat) {q : ResultVar} {d d' : D} (he : d = d') (hn : ax6 ks = true := by exact rfl) (hk0 : ((List.range C.base.n0).all fun i => ks[i]? == some i) = true := by exact rfl) (hob : ax5 ks ob ks = some ob' := by exact rfl) (hr : fn.results = #[q] := by exact rfl) (h : an7 C ⟨tm, ob⟩ q = some d := by exact rfl) :
  go C (.code .ret :: r) ⟨tm, ob⟩ (bh9 C fn (.d d') ob') := retD1 ks hn hk0 hob hr h he
theorem yt (ks : List Nat) {q q' : ResultVar} {d d' : D} {l : List D} (he : [d, d'] = l) (hn : ax6 ks = true := by exact rfl) (hk0 : ((List.range C.base.n0).all fun i => ks[i]? == some i) = true := by exact rfl) (hob : ax5 ks ob ks = some ob' := by exact rfl) (hr : fn.results = #[q, q'] := by exact rfl) (h : an7 C ⟨tm, ob⟩ q = some d := by exact rfl) (h' : an7 C ⟨tm, ob⟩ q' = some d' := by exact rfl) :
  go C (.code .ret :: r) ⟨tm, ob⟩ (bh9 C fn (.tup l) ob') := retD2 ks hn hk0 hob hr h h' he
theorem yo (ks : List Nat) (hn : ax6 ks = true := by exact rfl) (hk0 : ((List.range C.base.n0).all fun i => ks[i]? == some i) = true := by exact rfl) (hob : ax5 ks ob ks = some ob' := by exact rfl) (hr : fn.results = #[] := by exact rfl) : go C [] ⟨tm, ob⟩ (bd0 C fn (.tup []) ob') := endS0 ks hn hk0 hob hr
end
section
variable {E : Env} {f : FuncId} {fn : Func} {c : Code} {rx : X} {N : Nat} {d0 d1 d2 : D}
theorem ye1 (hf : E.P.funcs[f]? = some fn) (hN : fn.ntmps = N) (h : ∀ (w0 : World) (F0 O : Nat → Prop), go ⟨E, w0, F0, N, ⟨O, 0, []⟩⟩ [.code c] ⟨[(0, .d d0)], []⟩ (an6 ⟨E, w0, F0, N, ⟨O, 0, []⟩⟩ fn rx)) (hb : fn.body = some c := by exact rfl) (hle : Nat.ble 1 N = true := by exact rfl) : Ev E f [d0] rx := ap6 hf hN hb hle h
theorem ye2 (hf : E.P.funcs[f]? = some fn) (hN : fn.ntmps = N) (h : ∀ (w0 : World) (F0 O : Nat → Prop), go ⟨E, w0, F0, N, ⟨O, 0, []⟩⟩ [.code c] ⟨[(0, .d d0), (1, .d d1)], []⟩ (an6 ⟨E, w0, F0, N, ⟨O, 0, []⟩⟩ fn rx)) (hb : fn.body = some c := by exact rfl) (hle : Nat.ble 2 N = true := by exact rfl) : Ev E f [d0, d1] rx := ap7 hf hN hb hle h
theorem ye3 (hf : E.P.funcs[f]? = some fn) (hN : fn.ntmps = N) (h : ∀ (w0 : World) (F0 O : Nat → Prop), go ⟨E, w0, F0, N, ⟨O, 0, []⟩⟩ [.code c] ⟨[(0, .d d0), (1, .d d1), (2, .d d2)], []⟩ (an6 ⟨E, w0, F0, N, ⟨O, 0, []⟩⟩ fn rx)) (hb : fn.body = some c := by exact rfl) (hle : Nat.ble 3 N = true := by exact rfl) : Ev E f [d0, d1, d2] rx := ap8 hf hN hb hle h
variable {xs : List X} {ob ob' : List aa5} {tm : List (Nat × X)} {n : Nat}
theorem yn (hf : E.P.funcs[f]? = some fn) (hN : fn.ntmps = N) (h : ∀ (w0 : World) (F0 O : Nat → Prop) (σ0 : Sg), go ⟨E, w0, F0, N, ⟨O, n, σ0⟩⟩ [.code c] ⟨tm, ob⟩ (bd0 ⟨E, w0, F0, N, ⟨O, n, σ0⟩⟩ fn rx ob')) (hb : fn.body = some c := by exact rfl) (hle : Nat.ble xs.length N = true := by exact rfl)
  (hn : ob.length = n := by (dsimp only [List.range, List.range.loop, List.zip, List.zipWith, List.length] <;> exact rfl)) (ht : (List.range xs.length).zip xs = tm := by (dsimp only [List.range, List.range.loop, List.zip, List.zipWith, List.length] <;> exact rfl)) : EvS E f xs ob rx ob' := by
 subst hn ht;exact EvS.enter hf hN hb hle h
theorem yd (hf : E.P.funcs[f]? = some fn) (hN : fn.ntmps = N) (h : ∀ (w0 : World) (F0 O : Nat → Prop) (σ0 : Sg), go ⟨E, w0, F0, N, ⟨O, n, σ0⟩⟩ [.code c] ⟨tm, ob⟩ (bh9 ⟨E, w0, F0, N, ⟨O, n, σ0⟩⟩ fn rx ob')) (hb : fn.body = some c := by exact rfl) (hle : Nat.ble xs.length N = true := by exact rfl)
  (hn : ob.length = n := by (dsimp only [List.range, List.range.loop, List.zip, List.zipWith, List.length] <;> exact rfl)) (ht : (List.range xs.length).zip xs = tm := by (dsimp only [List.range, List.range.loop, List.zip, List.zipWith, List.length] <;> exact rfl)) : EvS E f xs ob rx ob' := by
 subst hn ht;exact EvS.enterD hf hN hb hle h
end
section
variable {C : Cx} {l : List Oper} {wob : List aa5} {E : List Nat} {ops : List Oper} {tm : List (Nat × X)} {ob : List aa5} {K : St → Prop} {r : List It} {Q : Exit → St → Prop}
theorem yu (id : Nat) (E T : List Nat) (h : RGo C id l E (bh3 T ob) 0 l ⟨tm, ob⟩ (fun s' => go C r s' Q)) (ho : ad6 l = true := by kernel_rfl) (hE : bh0 (bg0 l) E = true := by kernel_rfl) (hn : Nat.ble C.base.n0 (bh3 T ob).length = true := by exact rfl) (hw : wkP (bh3 T ob).length (bh3 T ob) ob := by repeat (first | exact trivial | refine ⟨⟨rfl, rfl⟩, ?_⟩ | refine ⟨trivial, ?_⟩)) : go C (.code (.region id l.toArray true) :: r) ⟨tm, ob⟩ Q := qRT E T ho hE hn hw h
theorem yk (id i n : Nat) (h : SGo C l.toArray true (ops.take n) ⟨tm, wob⟩ (fun s1 => TmB wob.length s1.tm ∧ RGo C id l E wob (i + n) (ops.drop n) ⟨s1.tm, ob⟩ K)) (hc : rgWB E i n = true := by kernel_rfl) (hn : Nat.ble n ops.length = true := by exact rfl) (hnd : bh2 (ops.take n) = true := by kernel_rfl) (hb : TmB wob.length tm := by repeat (first | exact trivial | refine ⟨rfl, ?_⟩)) : RGo C id l E wob i ops ⟨tm, ob⟩ K := rgW n hc hn hnd hb h
end
end Go.Abs
namespace Go.Abs
open Go Go.RowKit
section
variable {C : Cx} {s : St} {o : Oper}
end
section
variable {C : Cx} {s : St} {o : Oper}
end
section
variable {C : Cx} {all : Array Oper} {pu : Bool} {K : St → Prop} {rest : List Oper} {tm : List (Nat × X)} {ob : List aa5} {d : Nat} {o : Oper}
end
end Go.Abs
namespace Go.Abs
open Go Go.RowKit
section
variable {C : Cx} {s : St} {o : Oper}
def bm9 : List Value → Option (List D)
 | [] => some []
 | v :: r => bif okV v then (bm9 r).map (D.imm v :: ·) else none
theorem bn0 {w : World} {F : Nat → Prop} : ∀ {vs : List Value} {cs : List D}, bm9 vs = some cs → ao2 w F vs cs
 | [], cs, h => by
  simp only [bm9] at h
  cases h
  exact ⟨rfl, fun v h => (by simp at h), fun i v h => (by simp at h)⟩
 | v :: r, cs, h => by
  simp only [bm9] at h
  cases hv : okV v with
  | false => rw [hv] at h; cases h
  | true =>
   rw [hv, cond_true, fa2] at h;obtain ⟨cs', hc, rfl⟩ := h;have ih := bn0 (w := w) (F := F) hc;refine ⟨by simp [ih.len], fun u hu => ?_, fun i u hu => ?_⟩
   ·rcases fa6.1 hu with e | e
    ·rw [e]; exact aa3 hv
    ·exact ih.one u e
   ·cases i with
    | zero => simp at hu; subst hu; exact ⟨.imm v, by simp, Rd.imm v hv⟩
    | succ i => simpa using ih.rd i u (by simpa using hu)
theorem bn1 {w : World} {F : Nat → Prop} {v : Value} (h : Rd w F (.imm (.slice none 0 0)) v) : Rd w F (.sl []) v := by
 rw [(Rd.imm_inv h).1];exact Rd.slnil
theorem bn2 {t t' : TypeId} {y z : Operand} {te : TE} {e' : TypeId} {k : Nat} {xs : List D} (ho : o.op = .call { callee := .builtin .append, args := #[y, z], argTypes := #[t, t'] }) (hte : ak6 C.E t = some te) (hd' : as9 C.E t' = some (.slice e'))
  (hy' : s.ev C.E y = .own k) (hob : s.ob[k]? = some (.row te.t te.size xs)) (hz' : s.ev C.E z = .d (.sl [])) : VOp C s o (.own k) := by
 obtain ⟨hu, hok⟩ := ak7 hte;refine VOp.pure_ fun F σ w a hi hr => ?_
 have hy := hr y (by simp [ho, Op.operands, Call.operands]);have hz := hr z (by simp [ho, Op.operands, Call.operands]);rw [hy'] at hy;rw [hz'] at hz
 have key : ∀ v, (Builtin.append_ #[t, t'] o.type #[a.eval y, a.eval z]).run C.E.P w = .ok v w → (execOp a.eval o).run C.E.P w = .ok (.value v) w := by
  intro v hv;simp [execOp, ho, resolve, invoke, builtin, hv]
 have hzv : ∃ zb zc, a.eval z = .slice zb 0 zc := by
  rcases Rd.sl_inv hz with ⟨-, e⟩ | ⟨_, ad, cap, e, -⟩
  ·exact ⟨_, _, e⟩
  ·exact ⟨_, _, e⟩
 obtain ⟨zb, zc, ez⟩ := hzv;refine ⟨a.eval y, key _ ?_, hy⟩;obtain ⟨b, c, n, p1, p2⟩ := hy;obtain ⟨vs, q1, q2, q3, q4, -⟩ := hi.obs k _ _ hob p1;rw [p2, ez];exact az2 hu hok (at0 hd') q4
end
section
variable {C : Cx} {all : Array Oper} {pu : Bool} {K : St → Prop} {rest : List Oper} {tm : List (Nat × X)} {ob : List aa5} {d : Nat} {o : Oper}
theorem bn3 {t t' : TypeId} {y z : Operand} {te : TE} {e' : TypeId} {k : Nat} {xs : List D} (ho : o.op = .call { callee := .builtin .append, args := #[y, z], argTypes := #[t, t'] })
  (hg : ap1 all tm o = some true) (hdst : o.dst = some d) (hd : Nat.blt d C.N = true) (hte : ak6 C.E t = some te) (hd' : as9 C.E t' = some (.slice e')) (hy' : (⟨tm, ob⟩ : St).ev C.E y = .own k) (hob : ob[k]? = some (.row te.t te.size xs)) (hz' : (⟨tm, ob⟩ : St).ev C.E z = .d (.sl []))
  (h : SGo C all pu rest ⟨(d, .own k) :: tm, ob⟩ K) : SGo C all pu (o :: rest) ⟨tm, ob⟩ K :=
 au7 hg hdst hd (bn2 ho hte hd' hy' hob hz') h
end
end Go.Abs
namespace Go.Abs
open Go Go.RowKit
theorem Le.dead {C : Cx} {tm : List (Nat × X)} {ob : List aa5} : Le C ⟨tm, ob⟩ ⟨tm, ob ++ [.dead]⟩ := by
 rintro a w ⟨F, σ, h1, h2, h3, hi, h4, h5, hs⟩
 have hget : ∀ (o : Nat) (x : aa5) (p : Nat × Nat × Nat), (ob ++ [aa5.dead])[o]? = some x → (σ ++ [(0, 0, 0)])[o]? = some p → x.live = true → ob[o]? = some x ∧ σ[o]? = some p := by
  intro o x p hx hp hl
  have hlt : o < ob.length := by
   rcases ez6 o ob.length with h | h
   ·exact h
   ·rw [fa9 h] at hx;rcases fi0 (o - ob.length) with e | e
    ·rw [e] at hx; cases hx; simp [aa5.live] at hl
    ·rw [fc8 (by simp; omega)] at hx; cases hx
  rw [fa7 hlt] at hx;rw [fa7 (by rw [hi.len]; exact hlt)] at hp;exact ⟨hx, hp⟩
 refine ⟨F, σ ++ [(0, 0, 0)], h1, h2, h3, ⟨hi.flt, hi.glob, by simp [hi.len], fun o x p hx hp => ?_, fun o o' x x' p p' hne hx hl hx' hl' hp hp' => ?_, fun i p hp hq => σ_app _ _ (hi.pre i p hp hq)⟩, h4, h5, fun t => (hs t).mono (fun _ h => h) (fun _ _ => rfl) σ_app⟩
 ·cases hl : x.live with
  | false =>
   cases x with
   | dead => trivial
   | _ => simp [aa5.live] at hl
  | true =>
   obtain ⟨g1, g2⟩ := hget o x p hx hp hl;exact (hi.obs o x p g1 g2).mono (fun _ h => h) (fun _ _ => rfl) σ_app (fun _ => rfl) (fun _ h => h)
 ·obtain ⟨g1, g2⟩ := hget o x p hx hp hl;obtain ⟨g3, g4⟩ := hget o' x' p' hx' hp' hl';exact hi.inj o o' x x' p p' hne g1 hl g3 hl' g2 g4
theorem Le.objW {C : Cx} {tm : List (Nat × X)} {ob : List aa5} (k : Nat) {ty : TypeId} {c c' : VC} (hob : ob[k]? = some (.var ty c)) (hl : c.cells.length = c'.cells.length)
  (hw : ∀ (i : Nat) x x', c.cells[i]? = some x → c'.cells[i]? = some x' → ∀ w F σ v, RdX w F σ x v → RdX w F σ x' v) : Le C ⟨tm, ob⟩ ⟨tm, ob.set k (.var ty c')⟩ := by
 rintro a w ⟨F, σ, h1, h2, h3, hi, h4, h5, hs⟩
 have hget : ∀ (i : Nat) (y : aa5), (ob.set k (.var ty c'))[i]? = some y → ∃ x, ob[i]? = some x ∧ (x = y ∨ (x = .var ty c ∧ y = .var ty c')) := by
  intro i y hy;rw [fd2] at hy;split at hy
  ·rename_i e
   subst e;split at hy
   ·cases hy; exact ⟨_, hob, .inr ⟨rfl, rfl⟩⟩
   ·cases hy
  ·exact ⟨y, hy, .inl rfl⟩
 have hlive : ∀ x y : aa5, (x = y ∨ (x = .var ty c ∧ y = .var ty c')) → y.live = true → x.live = true := by
  rintro x y (rfl | ⟨rfl, rfl⟩) hy
  ·exact hy
  ·rfl
 refine ⟨F, σ, h1, h2, h3, ⟨hi.flt, hi.glob, by rw [hi.len]; simp, fun o x p hx hp => ?_, fun o o' x x' p p' hne hx hlx hx' hlx' hp hp' => ?_, hi.pre⟩, h4, h5, hs⟩
 ·obtain ⟨x0, hx0, e⟩ := hget o x hx;rcases e with rfl | ⟨rfl, rfl⟩
  ·exact hi.obs o x0 p hx0 hp
  ·have hobs := hi.obs o _ p hx0 hp;obtain ⟨pb, pc, pn⟩ := p;obtain ⟨vs, q1, q2, q3, q4, q5⟩ := hobs;refine ⟨vs, q1, by rw [← hl]; exact q2, q3, fun i x v hx hv => ?_, q5⟩;have hlt : i < c.cells.length := by rw [hl]; exact (ez7.1 hx).1
   exact hw i _ x (ez5 hlt) hx w F σ v (q4 i _ v (ez5 hlt) hv)
 ·obtain ⟨x0, hx0, e⟩ := hget o x hx;obtain ⟨x1, hx1, e'⟩ := hget o' x' hx';exact hi.inj o o' x0 x1 p p' hne hx0 (hlive _ _ e hlx) hx1 (hlive _ _ e' hlx') hp hp'
section
variable {C : Cx} {r : List It} {Q : Exit → St → Prop} {tm : List (Nat × X)} {ob : List aa5} {c : Code}
theorem bn4 (h : go C (.code c :: r) ⟨tm, ob ++ [.dead]⟩ Q) : go C (.code c :: r) ⟨tm, ob⟩ Q := ac6 Le.dead h
end
end Go.Abs
namespace Go.Abs
open Go Go.RowKit
theorem bn5 (k : Value) (x : Value × D) (r : List (Value × D)) (z : D) : bl0 k (x :: r) z = bif vEq k x.1 then x.2 else bl0 k r z := by
 simp only [bl0, bk9]
 cases vEq k x.1 with
 | true => rfl
 | false =>
  simp only [cond_false]
  cases bk9 k r <;> rfl
theorem bn6 (k : Value) (d : D) : bl1 k d [] = [(k, d)] := rfl
theorem bn7 (k : Value) (d : D) (x : Value × D) (r : List (Value × D)) : bl1 k d (x :: r) = bif vEq k x.1 then (k, d) :: r else x :: bl1 k d r := by
 simp only [bl1, bk9]
 cases vEq k x.1 with
 | true => rfl
 | false =>
  simp only [cond_false]
  cases bk9 k r <;> rfl
theorem bn8 {a b : Int} {x : Value} (h : vEq (.int .i64 a) x = true) : vEq (.int .i64 b) x = (b == a) := by
 cases x <;> simp_all [vEq]
theorem bn9 (a b : Int) (d z : D) : ∀ (xs : List (Value × D)), bl0 (.int .i64 b) (bl1 (.int .i64 a) d xs) z = bif b == a then d else bl0 (.int .i64 b) xs z
 | [] => by rw [bn6, bn5]; rfl
 | x :: r => by
  rw [bn7, bn5]
  cases h : vEq (.int .i64 a) x.1 with
  | true =>
   rw [cond_true, bn5, bn8 h];show (bif (b == a) then d else _) = _
   cases b == a <;> rfl
  | false =>
   rw [cond_false, bn5, bn9 a b d z r]
   cases hb : vEq (.int .i64 b) x.1 with
   | false => rfl
   | true =>
    have : (b == a) = false := by rw [← fg9, beq_iff_eq]; rintro rfl; rw [h] at hb; cases hb
    rw [this]; rfl
section
variable {C : Cx} {s : St} {o : Oper}
theorem bo0 {t kt et : TypeId} {y z v : Operand} {k : Nat} {kd : TypeDesc} {xs : List (Value × D)} {kv : Value} {e : D} (ho : o.op = .mapUpdate t y z v) (hdst : o.dst = none) (hy : s.ev C.E y = .mp k) (hz : s.ev C.E z = .d (.imm kv)) (hv : toD (s.ev C.E v) = some e)
  (hob : s.ob[k]? = some (.map kd xs)) (hm : as9 C.E t = some (.map kt et)) (hk : as9 C.E kt = some kd) (hkv : bk7 kd kv = true) : SOp C s o (s.setOb k (.map kd (bl1 kv e xs))) := by
 rintro w a K Q ⟨F, σ, h1, h2, h3, hi, h4, h5, hs⟩ hK;have g1 := ab6 (E := C.E) hi hs y;have g2 := ab6 (E := C.E) hi hs z;have g3 := an8 hv (ab6 (E := C.E) hi hs v);rw [hy] at g1;rw [hz] at g2;obtain ⟨b, c, n, p1, p2⟩ := g1;obtain ⟨e2, -⟩ := Rd.imm_inv g2;obtain ⟨es, q1, q2, q3, q4, q5, q6⟩ := hi.obs k _ _ hob p1;have hkk := bk8 hkv;have hf := bl3 hkk es.toList xs 0 (by simpa using q2) (fun j e x he hx => (q3 j e x (by simpa using he) hx).1.1) q4
 cases hi' : bk9 kv xs with
 | none =>
  rw [hi'] at hf;have hp : bl1 kv e xs = xs ++ [(kv, e)] := by rw [bl1, hi']
  have hrun : (execOp a.eval o).run C.E.P w = .ok .skip { w with heap := w.heap.setIfInBounds b (.map (es.push { key := kv, val := a.eval v, born := es.size }) (es.size + 1)) } := by
   simp [execOp, ho, p2, e2, Instr.mapUpdate, run_underlying (at0 hm), MapKept.run_getObj_map q1, MapKept.run_checkKey (at0 hk) hkk, MapKept.run_findKey (at0 hk) hf, MapKept.run_setObj_map _ q1, Result.andThen]
  unfold Oper.wp;rw [hp] at hK;rw [hrun];simp only [Oper.upon];rw [hdst];have := bl7 (s := s) (ys := xs ++ [(kv, e)]) (es' := es.push { key := kv, val := a.eval v, born := es.size }) h1 h2 h3 hi h4 h5 hs hob p1 q1 q5 q6 (by simp [q2]) (fun i u x he hx => ?_) (fun x hx => ?_)
  ·rw [Array.size_push] at this;exact hK _ _ this
  ·rcases ez6 i xs.length with hlt | hge
   ·rw [fa7 hlt] at hx;rw [Array.getElem?_push, if_neg (by omega)] at he;exact q3 i u x he hx
   ·have hie : i = xs.length := by
     have := (ez7.1 hx).1;simp at this;omega
    subst hie;rw [fa9 (fa4 _), Nat.sub_self] at hx;rw [Array.getElem?_push, if_pos q2.symm] at he
    cases hx
    cases he
    exact ⟨⟨rfl, q2⟩, g3⟩
  ·rcases fb7.1 hx with hx | hx
   ·exact q4 x hx
   ·rw [fa0.1 hx]; exact hkk
 | some i =>
  rw [hi'] at hf;obtain ⟨x, hx, hxv⟩ := bl2 hi';have hix : i < xs.length := (ez7.1 hx).1;have hil : i < es.size := by omega
  obtain ⟨u, he⟩ : ∃ u, es[i]? = some u := ⟨es[i], by simp [hil]⟩;have hf' : Instr.findNow kd kv es.toList 0 = some (some (i, u.val)) := by rw [hf]; simp [he]
  have hkx : kv = x.1 := (bk6 hkk (q4 x (ez9 hx))).1 hxv;obtain ⟨⟨hek, heb⟩, hev⟩ := q3 i u x he hx;have hekv : u.key = kv := by rw [hek, hkx]
  have hp : bl1 kv e xs = xs.set i (kv, e) := by rw [bl1, hi']
  have hrun : (execOp a.eval o).run C.E.P w = .ok .skip { w with heap := w.heap.setIfInBounds b (.map (es.modify i fun e' => { e' with key := kv, val := a.eval v }) es.size) } := by
   simp [execOp, ho, p2, e2, Instr.mapUpdate, run_underlying (at0 hm), MapKept.run_getObj_map q1, MapKept.run_checkKey (at0 hk) hkk, MapKept.run_findKey (at0 hk) hf', he, hekv, MapKept.run_keyThatStays hkk, MapKept.run_setObj_map _ q1, Result.andThen]
  unfold Oper.wp;rw [hp] at hK;rw [hrun];simp only [Oper.upon];rw [hdst];have := bl7 (s := s) (ys := xs.set i (kv, e)) (es' := es.modify i fun e' => { e' with key := kv, val := a.eval v }) h1 h2 h3 hi h4 h5 hs hob p1 q1 q5 q6 (by simp [q2]) (fun j w' v' hu hv' => ?_) (fun u' hu => ?_)
  ·rw [Array.size_modify] at this;exact hK _ _ this
  ·rw [Array.getElem?_modify] at hu;rw [fd2] at hv';split at hu
   ·rename_i e1
    subst e1;rw [if_pos rfl, if_pos hix] at hv'
    cases hv'
    rw [fa2] at hu;obtain ⟨u0, hu0, rfl⟩ := hu;rw [he] at hu0
    cases hu0
    exact ⟨⟨rfl, heb⟩, g3⟩
   ·rename_i e1
    rw [if_neg e1] at hv';exact q3 j w' v' hu hv'
  ·rcases fk6 hu with h | h
   ·exact q4 u' h
   ·rw [h]; exact hkk
end
section
variable {C : Cx} {K : St → Prop} {all : Array Oper} {pu : Bool} {rest : List Oper} {tm : List (Nat × X)} {ob : List aa5} {d : Nat} {o : Oper}
theorem bo1 {t kt et : TypeId} {y z : Operand} {k : Nat} {kd : TypeDesc} {xs : List (Value × D)} {kv : Value} {te : TE} {zd e : D} (he : bl0 kv xs zd = e) (h : SGo C all pu rest ⟨(d, .d e) :: tm, ob⟩ K) (ho : o.op = .lookup t y z false := by exact rfl) (hg : ap1 all tm o = some true := by exact rfl) (hdst : o.dst = some d := by exact rfl) (hd : Nat.blt d C.N = true := by exact rfl) (hy : (⟨tm, ob⟩ : St).ev C.E y = .mp k := by exact rfl) (hz : (⟨tm, ob⟩ : St).ev C.E z = .d (.imm kv) := by exact rfl) (hob : ob[k]? = some (.map kd xs) := by exact rfl)
  (hm : as9 C.E t = some (.map kt et) := by exact rfl) (hk : as9 C.E kt = some kd := by exact rfl) (hkv : bk7 kd kv = true := by exact rfl) (hte : aa8 C.E.T et = some te := by exact rfl) (hzd : ag7 [te.zero] = some [zd] := by exact rfl) (hz1 : te.zero.oneCell' = true := by exact rfl) : SGo C all pu (o :: rest) ⟨tm, ob⟩ K := by
 subst he;exact bl9 ho hg hdst hd hy hz hob hm hk hkv hte hzd hz1 h
theorem bo2 {t kt et : TypeId} {y z v : Operand} {k : Nat} {kd : TypeDesc} {xs : List (Value × D)} {kv : Value} {e : D} (h : SGo C all false rest ⟨tm, ob.set k (.map kd (bl1 kv e xs))⟩ K) (ho : o.op = .mapUpdate t y z v := by exact rfl) (hg : ap1 all tm o = some true := by exact rfl) (hdst : o.dst = none := by exact rfl) (hy : (⟨tm, ob⟩ : St).ev C.E y = .mp k := by exact rfl) (hz : (⟨tm, ob⟩ : St).ev C.E z = .d (.imm kv) := by exact rfl)
  (hv : toD ((⟨tm, ob⟩ : St).ev C.E v) = some e := by exact rfl) (hob : ob[k]? = some (.map kd xs) := by exact rfl) (hm : as9 C.E t = some (.map kt et) := by exact rfl) (hk : as9 C.E kt = some kd := by exact rfl) (hkv : bk7 kd kv = true := by exact rfl) : SGo C all false (o :: rest) ⟨tm, ob⟩ K :=
 SGo.eff (ap2 hg) (bo0 ho hdst hy hz hv hob hm hk hkv) h
end
end Go.Abs
namespace Go.Abs
open Go Go.RowKit
section
variable {C : Cx} {s : St} {o : Oper}
end
section
variable {C : Cx} {all : Array Oper} {pu : Bool} {K : St → Prop} {rest : List Oper} {tm : List (Nat × X)} {ob : List aa5} {d : Nat} {o : Oper}
end
end Go.Abs
namespace Go.Abs
open Go Go.RowKit
def Dn (eff : Nat → Bool) (L : Array Bool) : Nat → Bool := fun i => eff i && L.getD i false
structure bo3 (ops : List Oper) (eff : Nat → Bool) (i : Nat) (D : Nat → Bool) : Prop where
 sub : ∀ j, D j = true → eff j = true
 pre : ∀ j, eff j = true → bf7 ops j i → D j = true
 post : ∀ j, eff j = true → bf7 ops i j → D j = false
structure Dr2 (C : Cx) (s : St) (xs : List (Oper × Option X)) (ops : List Oper) (obT : (Nat → Bool) → List aa5) (eff : Nat → Bool) (L : Array Bool) (a : Act) (w : World) : Prop where
 size : L.size = ops.length
 down : bf6 ops L
 rel : ∃ tm, C.Rel ⟨tm, obT (Dn eff L)⟩ a w ∧
  (∀ t, (∀ (j : Nat) o, ops[j]? = some o → L.getD j false = true → o.dst ≠ some t) → lk tm t = lk s.tm t) ∧
  (∀ (j : Nat) o x t, xs[j]? = some (o, x) → L.getD j false = true → o.dst = some t → lk tm t = x.getD .und)
theorem Dr2.all {C : Cx} {s : St} {xs : List (Oper × Option X)} {ops : List Oper} {obT : (Nat → Bool) → List aa5} {eff : Nat → Bool} (hx : xs.map (·.1) = ops) (ho : ad7 ops)
  (hdk : ∀ (i : Nat) o x, xs[i]? = some (o, x) → ac8 C o = true ∧ ad1 ops.toArray (stps s (xs.take i)) o x.isSome)
  (hv : ∀ (i : Nat) o x, eff i = false → xs[i]? = some (o, x) → ∀ y, x = some y → ∀ D, bo3 ops eff i D → VOp C ⟨(stps s (xs.take i)).tm, obT D⟩ o y)
  (hve : ∀ (i : Nat) o x, eff i = true → xs[i]? = some (o, x) → ∃ y, x = some y ∧ ∀ D, bo3 ops eff i D → D i = false → ∀ tm', (∀ z ∈ o.op.operands.toList, (⟨tm', obT D⟩ : St).ev C.E z = (⟨(stps s (xs.take i)).tm, obT D⟩ : St).ev C.E z) →
   (∀ t, lk tm' t = lk s.tm t ∨ ∃ j p z, j ≠ i ∧ ¬ bf7 ops i j ∧ xs[j]? = some (p, z) ∧ lk tm' t = z.getD .und) → SOp C ⟨tm', obT D⟩ o ((⟨tm', obT (fun j => D j || j == i)⟩ : St).put o.dst y))
  {Q : Exit → Act → World → Prop} (hq : ∀ a w, C.Rel ⟨(stps s xs).tm, obT (fun j => eff j && decide (j < ops.length))⟩ a w → Q .normal a w) :
  ∀ (fuel : Nat) (L : Array Bool) (a : Act) (w : World), unl ops.length L ≤ fuel → Dr2 C s xs ops obT eff L a w → wpAny C.E.P .any ops.toArray Q fuel L a w := by
 have hxo : ∀ (i : Nat) o, ops[i]? = some o → ∃ x, xs[i]? = some (o, x) := by
  intro i o hi;rw [← hx, ez8] at hi
  cases hxi : xs[i]? with
  | none => rw [hxi] at hi; cases hi
  | some p => rw [hxi] at hi; simp at hi; exact ⟨p.2, by rw [← hi]⟩
 have hox : ∀ (i : Nat) o x, xs[i]? = some (o, x) → ops[i]? = some o := by
  intro i o x hi;rw [← hx, ez8, hi]; rfl
 have hdst : ∀ (j : Nat) (p : Oper) d, ops.toArray[j]? = some p → p.dst = some d → d < C.N := by
  intro j p d hj hd;rw [fd4] at hj;obtain ⟨x, hx'⟩ := hxo j p hj;exact ac9 (hdk j p x hx').1 d hd
 -- what a slot that the operation looks at holds
 have hlook : ∀ (i : Nat) (o : Oper) (x : Option X) (L : Array Bool) (tm : List (Nat × X)), xs[i]? = some (o, x) → L.getD i false = false → bf6 ops L →
   (∀ e ∈ o.after, Region.binds .any e = true → L.getD e.on false = true) →
   (∀ t, (∀ (j : Nat) o, ops[j]? = some o → L.getD j false = true → o.dst ≠ some t) → lk tm t = lk s.tm t) →
   (∀ (j : Nat) o x t, xs[j]? = some (o, x) → L.getD j false = true → o.dst = some t → lk tm t = x.getD .und) →
   ∀ t ∈ o.looksAt ops.toArray, lk tm t = lk (stps s (xs.take i)).tm t := by
  intro i o x L tm hi hL hdown hready h1 h2 t ht
  by_cases hw : ∃ (j : Nat) (p : Oper), ops[j]? = some p ∧ p.dst = some t
  ·obtain ⟨j, p, hj, hp⟩ := hw;obtain ⟨y, hy⟩ := hxo j p hj;have huniq : ∀ (k : Nat) (q : Oper), k ≠ j → ops[k]? = some q → q.dst ≠ some t := fun k q hk hq => ho.uniq k j q p t hk hq hj hp
   by_cases hij : i = j
   ·subst hij
    have e : lk (stps s (xs.take i)).tm t = lk s.tm t := by
     refine ae2 _ _ _ fun q hq => ?_
     obtain ⟨k, hk⟩ := fb0 hq;rw [fb1] at hk;split at hk
     ·exact huniq k q.1 (by omega) (hox k q.1 q.2 hk)
     ·cases hk
    rw [e];refine h1 t fun k q hk hkl => ?_
    by_cases hki : k = i
    ·subst hki; rw [hL] at hkl; cases hkl
    ·exact huniq k q hki hk
   ·obtain ⟨ha, hb⟩ := ho.looks i j o p t hij (hox i o x hi) hj hp ht
    by_cases hlt : j < i
    ·obtain ⟨e, he, hbd, hej⟩ := ha hlt;have hjl : L.getD j false = true := by rw [← hej]; exact hready e he hbd
     have e1 : lk (stps s (xs.take i)).tm t = y.getD .und := by
      refine ae4 _ _ t j p y (by rw [fb1, if_pos hlt]; exact hy) hp fun k q hk hq => ?_
      rw [fb1] at hq;split at hq
      ·exact huniq k q.1 hk (hox k q.1 q.2 hq)
      ·cases hq
     rw [e1];exact h2 j p y t hy hjl hp
    ·obtain ⟨e, he, hbd, hei⟩ := hb hlt
     have hjl : L.getD j false = false := by
      cases hjl : L.getD j false with
      | false => rfl
      | true =>
       have := hdown j p e hj hjl he hbd;rw [hei, hL] at this
       cases this
     have e1 : lk (stps s (xs.take i)).tm t = lk s.tm t := by
      refine ae2 _ _ _ fun q hq => ?_
      obtain ⟨k, hk⟩ := fb0 hq;rw [fb1] at hk;split at hk
      ·exact huniq k q.1 (by omega) (hox k q.1 q.2 hk)
      ·cases hk
     rw [e1];refine h1 t fun k q hk hkl => ?_
     by_cases hkj : k = j
     ·subst hkj; rw [hjl] at hkl; cases hkl
     ·exact huniq k q hkj hk
  ·have hno : ∀ (k : Nat) (q : Oper), ops[k]? = some q → q.dst ≠ some t := fun k q hk hq => hw ⟨k, q, hk, hq⟩
   have e1 : lk (stps s (xs.take i)).tm t = lk s.tm t := by
    refine ae2 _ _ _ fun q hq => ?_
    obtain ⟨k, hk⟩ := fb0 hq;rw [fb1] at hk;split at hk
    ·exact hno k q.1 (hox k q.1 q.2 hk)
    ·cases hk
   rw [e1];exact h1 t fun k q hk _ => hno k q hk
 -- the end
 have hfin : ∀ (L : Array Bool) (a : Act) (w : World), (∀ i, i < ops.length → L.getD i false = true) → Dr2 C s xs ops obT eff L a w → Q .normal a w := by
  intro L a w hall hO;obtain ⟨tm, hr, h1, h2⟩ := hO.rel
  have hk : Dn eff L = fun j => eff j && decide (j < ops.length) := by
   funext j
   unfold Dn
   by_cases hj : j < ops.length
   ·rw [hall j hj, decide_eq_true hj]
   ·rw [decide_eq_false hj]
    have : L.getD j false = false := by
     rw [fg5, fl0 (by rw [hO.size]; omega)]; rfl
    rw [this]
  rw [hk] at hr;refine hq a w (ad2.rel (s := ⟨tm, obT _⟩) (s' := ⟨(stps s xs).tm, obT _⟩) ⟨fun t => ?_, rfl⟩ hr);show lk (stps s xs).tm t = lk tm t
  by_cases hw : ∃ (j : Nat) (p : Oper), ops[j]? = some p ∧ p.dst = some t
  ·obtain ⟨j, p, hj, hp⟩ := hw;obtain ⟨y, hy⟩ := hxo j p hj;rw [ae4 s xs t j p y hy hp fun k q hk hq => ho.uniq k j q.1 p t hk (hox k q.1 q.2 hq) hj hp];exact (h2 j p y t hy (hall j (ez7.1 hj).1) hp).symm
  ·have hno : ∀ (k : Nat) (q : Oper), ops[k]? = some q → q.dst ≠ some t := fun k q hk hq => hw ⟨k, q, hk, hq⟩
   rw [ae2 s xs t fun q hq => by
    obtain ⟨k, hk⟩ := fb0 hq;exact hno k q.1 (hox k q.1 q.2 hk)]
   exact (h1 t fun k q hk _ => hno k q hk).symm
 -- whoever is ready
 have hready : ∀ (L : Array Bool) i, i ∈ Region.ready .any ops.toArray L → L.size = ops.length → ∃ o, ops[i]? = some o ∧ L.getD i false = false ∧ ∀ e ∈ o.after, Region.binds .any e = true → L.getD e.on false = true := by
  intro L i hi hs;unfold Region.ready at hi;rw [fe7, fc6] at hi;obtain ⟨hlt, h⟩ := hi;rw [fd5] at hlt;rw [fa3] at h;obtain ⟨h1, h2⟩ := h;have ho' : ops[i]? = some ops[i] := ez5 hlt;refine ⟨ops[i], ho', ?_, ?_⟩
  ·rw [← ae9 (by omega)]; simpa using h1
  ·intro e he hbd;rw [fd4, ho'] at h2;simp only [fd0, fd8] at h2;obtain ⟨k, hk, rfl⟩ := fl2 he;have := fg6.1 h2 k hk;rw [hbd] at this;simpa using this
 have hsome : ∀ (L : Array Bool) (a : Act) (w : World), Dr2 C s xs ops obT eff L a w → Region.ready .any ops.toArray L = [] → ∀ i, i < ops.length → L.getD i false = true := by
  intro L a w hO hr i
  induction i using Nat.strongRecOn with
  | _ i ih =>
   intro hi
   cases hL : L.getD i false with
   | true => rfl
   | false =>
    have ho' : ops[i]? = some ops[i] := ez5 hi
    have hm : i ∈ Region.ready .any ops.toArray L := by
     unfold Region.ready;rw [fe7, fc6, fd5];refine ⟨hi, ?_⟩;rw [ae9 (by rw [hO.size]; exact hi), hL, fd4, ho'];simp only [fh8, fc3, fd0, fd8];refine fg6.2 fun k hk => ?_
     cases hbd : Region.binds .any (ops[i]).after[k] with
     | false => simp
     | true =>
      have hb := ho.back i _ _ ho' (Array.getElem_mem hk) hbd;rw [ih _ hb (by omega)];simp
    rw [hr] at hm
    cases hm
 intro fuel
 induction fuel with
 | zero =>
  intro L a w hu hO
  have hall : ∀ i, i < ops.length → L.getD i false = true := fun i hi => by
   rw [← ae9 (by rw [hO.size]; exact hi)];exact ae6 (by omega) i hi
  refine ⟨?_, hfin L a w hall hO⟩;refine fl4.2 fun i hi => ?_
  obtain ⟨o, h1, h2, _⟩ := hready L i hi hO.size;rw [hall i (ez7.1 h1).1] at h2
  cases h2
 | succ fuel ih =>
  intro L a w hu hO;refine ⟨fun hr => hfin L a w (hsome L a w hO hr) hO, fun i hi => ?_⟩;obtain ⟨o, hoi, hL, hed⟩ := hready L i hi hO.size;have hlt : i < ops.length := (ez7.1 hoi).1;obtain ⟨x, hxi⟩ := hxo i o hoi;obtain ⟨hd, hg⟩ := hdk i o x hxi;obtain ⟨tm, hr, h1, h2⟩ := hO.rel;have hl := hlook i o x L tm hxi hL hO.down hed h1 h2;have hset : ∀ j, (L.setIfInBounds i true).getD j false = (L.getD j false || j == i) := fun j => ae8 (by rw [hO.size]; exact hlt)
  have hu' : unl ops.length (L.setIfInBounds i true) ≤ fuel := by
   have := ae5 (L := L) hO.size hlt (by rw [ae9 (by rw [hO.size]; exact hlt)]; exact hL);omega
  have hdown' : bf6 ops (L.setIfInBounds i true) := by
   intro j p e hj hjl hee hbd;rw [hset] at hjl ⊢;rw [fc7] at hjl ⊢;rcases hjl with hjl | hjl
   ·exact .inl (hO.down j p e hj hjl hee hbd)
   ·obtain rfl : j = i := by simpa using hjl
    rw [hoi] at hj
    cases hj
    exact .inl (hed e hee hbd)
  have hwant : Region.wanted o (yielded ops.toArray a.tmps) = x.isSome := by
   obtain ⟨F, σ, _, _, _, _, _, r5, hs⟩ := hr;refine hg.wanted (N := C.N) hdst r5 (w := w) (F := F) (σ := σ) fun j pol t hgj ht => ?_
   rw [← hl t (by
    unfold Oper.looksAt;refine fb7.2 (.inr ?_);rw [hgj];show t ∈ ((ops.toArray[j]?).bind (·.dst)).toList;rw [ht];simp)]
   exact hs t
  have hops : ∀ (ob : List aa5) (z : Operand), z ∈ o.op.operands.toList → (⟨tm, ob⟩ : St).ev C.E z = (stps s (xs.take i)).ev C.E z := by
   intro ob z hz
   cases z with
   | tmp t =>
    refine hl t ?_;unfold Oper.looksAt;refine fb7.2 (.inl ?_);rw [List.mem_filterMap];exact ⟨_, hz, rfl⟩
   | _ => rfl
  have hone : ∀ (y : Option X) (ob : List aa5) (t : Nat), o.dst ≠ some t → lk ((⟨tm, ob⟩ : St).put o.dst (y.getD .und)).tm t = lk tm t := by
   intro y ob t ht
   cases hdd : o.dst with
   | none => rfl
   | some d =>
    simp only [St.put, lk]
    cases hb : Nat.beq d t with
    | true => exact absurd (by rw [hdd, fa5 hb]) ht
    | false => rfl
  have hnew : ∀ (ob : List aa5), (∀ t, (∀ (j : Nat) o, ops[j]? = some o → (L.setIfInBounds i true).getD j false = true → o.dst ≠ some t) → lk ((⟨tm, ob⟩ : St).put o.dst (x.getD .und)).tm t = lk s.tm t) ∧
    (∀ (j : Nat) o' x' t, xs[j]? = some (o', x') → (L.setIfInBounds i true).getD j false = true → o'.dst = some t → lk ((⟨tm, ob⟩ : St).put o.dst (x.getD .und)).tm t = x'.getD .und) := by
   intro ob;refine ⟨fun t ht => ?_, fun j p y t hj hjl hp => ?_⟩
   ·rw [hone x ob t (ht i o hoi (by rw [hset]; simp))];exact h1 t fun j q hj hjl => ht j q hj (by rw [hset, hjl]; rfl)
   ·rw [hset, fc7] at hjl
    by_cases hji : j = i
    ·subst hji;rw [hxi] at hj
     cases hj
     rw [hp];exact ae3 _ _ _
    ·have hjl' : L.getD j false = true := by
      rcases hjl with h | h
      ·exact h
      ·exact absurd (by simpa using h) hji
     rw [hone x ob t (ho.uniq i j o p t (fun e => hji e.symm) hoi (hox j p y hj) hp)];exact h2 j p y t hj hjl' hp
  have hputob : ∀ (ob : List aa5) (y : X), (⟨tm, ob⟩ : St).put o.dst y = ⟨((⟨tm, ob⟩ : St).put o.dst y).tm, ob⟩ := by
   intro ob y
   cases o.dst <;> rfl
  have hD : bo3 ops eff i (Dn eff L) := by
   refine ⟨fun j hj => ?_, fun j hj ha => ?_, fun j hj ha => ?_⟩
   ·unfold Dn at hj;rw [fa3] at hj;exact hj.1
   ·unfold Dn;rw [hj, ha.ready hO.down hoi hed]; rfl
   ·unfold Dn;rw [hj]
    cases hjl : L.getD j false with
    | false => rfl
    | true => rw [ha.down hO.down hjl] at hL; cases hL
  have hDset : Dn eff (L.setIfInBounds i true) = bif eff i then (fun j => Dn eff L j || j == i) else Dn eff L := by
   cases he : eff i with
   | true =>
    funext j
    show (eff j && (L.setIfInBounds i true).getD j false) = ((eff j && L.getD j false) || j == i);rw [hset]
    cases hji : j == i with
    | false => rw [fc2, fc2]
    | true => obtain rfl := eq_of_beq hji; rw [he]; simp
   | false =>
    funext j
    show (eff j && (L.setIfInBounds i true).getD j false) = (eff j && L.getD j false);rw [hset]
    cases hji : j == i with
    | false => rw [fc2]
    | true => obtain rfl := eq_of_beq hji; rw [he]; rfl
  unfold wpOp;rw [fd4, hoi];simp only
  cases he : eff i with
  | true =>
   rw [he, cond_true] at hDset;obtain ⟨y, hy, heop⟩ := hve i o x he hxi;rw [hy] at hwant hnew;rw [if_pos (by rw [hwant]; rfl)];have hDi : Dn eff L i = false := by unfold Dn; rw [hL, fh1]
   have hslots : ∀ t, lk tm t = lk s.tm t ∨ ∃ j p z, j ≠ i ∧ ¬ bf7 ops i j ∧ xs[j]? = some (p, z) ∧ lk tm t = z.getD .und := by
    intro t
    by_cases hw : ∃ (j : Nat) (p : Oper), ops[j]? = some p ∧ L.getD j false = true ∧ p.dst = some t
    ·obtain ⟨j, p, hj, hjl, hp⟩ := hw;obtain ⟨z, hz⟩ := hxo j p hj;exact .inr ⟨j, p, z, (fun e => by rw [e, hL] at hjl; cases hjl), (fun ha => by have := ha.down hO.down hjl; rw [hL] at this; cases this), hz, h2 j p z t hz hjl hp⟩
    ·exact .inl (h1 t fun j p hj hjl hp => hw ⟨j, p, hj, hjl, hp⟩)
   have hsop := heop _ hD hDi tm (fun z hz => (hops _ z hz).trans (by cases z <;> rfl)) hslots;refine .inl (hsop w a _ Q hr fun a' w' hr' => ih _ _ _ hu' ⟨by simp [hO.size], hdown', ?_⟩);rw [hputob] at hr';rw [hDset];exact ⟨_, hr', (hnew _).1, (hnew _).2⟩
  | false =>
   rw [he, cond_false] at hDset
   have hnext : ∀ a' w', C.Rel ((⟨tm, obT (Dn eff L)⟩ : St).put o.dst (x.getD .und)) a' w' → wpAny C.E.P .any ops.toArray Q fuel (L.setIfInBounds i true) a' w' := by
    intro a' w' hr';refine ih _ _ _ hu' ⟨by simp [hO.size], hdown', ?_⟩;rw [hputob] at hr';rw [hDset];exact ⟨_, hr', (hnew _).1, (hnew _).2⟩
   cases hx' : x with
   | none =>
    rw [hx'] at hwant hnext;rw [if_neg (by rw [hwant]; simp)];refine hnext _ _ ?_;obtain ⟨F, σ, r1, r2, r3, hi', r4, r5, hs⟩ := hr;exact ad0 r1 r2 r3 hi' r4 r5 hs hd (Ext.refl hi'.flt) fun _ => rfl
   | some y =>
    rw [hx'] at hwant hnext;rw [if_pos (by rw [hwant]; rfl)]
    have hvop' : VOp C ⟨tm, obT (Dn eff L)⟩ o y := by
     intro F σ w a K Q hi ho hK
     exact hv i o x he hxi y hx' _ hD F σ w a K Q hi (fun z hz => by
      have := ho z hz;rw [hops _ z hz] at this;exact this) hK
    refine .inl (hvop'.sop hd w a _ Q hr fun a' w' hr' => hnext a' w' hr')
def Cap.refs : Cap → List Nat
 | .d _ => []
 | .ptr o _ => [o]
 | .own o => [o]
def X.refs : X → List Nat
 | .ptr o _ => [o]
 | .own o => [o]
 | .mp o => [o]
 | .pel o _ _ _ => [o]
 | .sub o _ _ _ => [o]
 | .clo _ cs => cs.flatMap Cap.refs
 | .bnd _ cs => cs.flatMap Cap.refs
 | .st cs => cs.flatMap Cap.refs
 | _ => []
def aa5.refs : aa5 → List Nat
 | .var _ c => c.cells.flatMap X.refs
 | _ => []
theorem bo4 {w : World} {F : Nat → Prop} {σ σ' : Sg} {c : Cap} {v : Value} (h : aa4 w F σ c v) (hσ : ∀ o ∈ c.refs, ∀ p, σ[o]? = some p → σ'[o]? = some p) : aa4 w F σ' c v := by
 cases c with
 | d x => exact h
 | ptr o off => obtain ⟨b, c, k, h1, h2⟩ := h; exact ⟨b, c, k, hσ o (by simp [Cap.refs]) _ h1, h2⟩
 | own o => obtain ⟨b, c, k, h1, h2⟩ := h; exact ⟨b, c, k, hσ o (by simp [Cap.refs]) _ h1, h2⟩
theorem RdX.agree {w : World} {F : Nat → Prop} {σ σ' : Sg} {x : X} {v : Value} (h : RdX w F σ x v) (hσ : ∀ o ∈ x.refs, ∀ p, σ[o]? = some p → σ'[o]? = some p) : RdX w F σ' x v := by
 cases x with
 | ptr o off => obtain ⟨b, c, n, h1, h2⟩ := h; exact ⟨b, c, n, hσ o (by simp [X.refs]) _ h1, h2⟩
 | own o => obtain ⟨b, c, n, h1, h2⟩ := h; exact ⟨b, c, n, hσ o (by simp [X.refs]) _ h1, h2⟩
 | pel o i off size => obtain ⟨b, c, n, h1, h2⟩ := h; exact ⟨b, c, n, hσ o (by simp [X.refs]) _ h1, h2⟩
 | sub o lo m size => obtain ⟨b, c, n, h1, h2⟩ := h; exact ⟨b, c, n, hσ o (by simp [X.refs]) _ h1, h2⟩
 | mp o => obtain ⟨b, c, n, h1, h2⟩ := h; exact ⟨b, c, n, hσ o (by simp [X.refs]) _ h1, h2⟩
 | clo f cs =>
  obtain ⟨us, e, hl, hr⟩ := h;exact ⟨us, e, hl, fun i c u h1 h2 => bo4 (hr i c u h1 h2) fun o ho => hσ o (fi4.2 ⟨c, ez9 h1, ho⟩)⟩
 | bnd f cs =>
  obtain ⟨us, e, hl, hr⟩ := h;exact ⟨us, e, hl, fun i c u h1 h2 => bo4 (hr i c u h1 h2) fun o ho => hσ o (fi4.2 ⟨c, ez9 h1, ho⟩)⟩
 | st cs =>
  obtain ⟨us, e, hl, h1', hr⟩ := h;exact ⟨us, e, hl, h1', fun i c u h1 h2 => bo4 (hr i c u h1 h2) fun o ho => hσ o (fi4.2 ⟨c, ez9 h1, ho⟩)⟩
 | _ => exact h
theorem aa6.agree {w : World} {F : Nat → Prop} {σ σ' : Sg} {B : Nat → Prop} {x : aa5} {p : Nat × Nat × Nat} (h : aa6 w F σ B x p) (hσ : ∀ o ∈ x.refs, ∀ p, σ[o]? = some p → σ'[o]? = some p) : aa6 w F σ' B x p := by
 obtain ⟨b, c, k⟩ := p
 cases x with
 | var ty cs =>
  obtain ⟨vs, h1, h2, h3, h4, h5⟩ := h;exact ⟨vs, h1, h2, h3, fun i x v a e => (h4 i x v a e).agree fun o ho => hσ o (fi4.2 ⟨x, ez9 a, ho⟩), h5⟩
 | _ => exact h
theorem bo5 {n : Nat} {cs : List Cap} (h : (cs.all fun c => match c with | .ptr o _ => Nat.blt o n | .own o => Nat.blt o n | .d _ => true) = true) : ∀ o ∈ cs.flatMap Cap.refs, o < n := by
 intro o ho;obtain ⟨c, hc, ho⟩ := fi4.1 ho;have := fb2.1 h c hc
 cases c with
 | d x => simp [Cap.refs] at ho
 | ptr q off => simp [Cap.refs] at ho; subst ho; simpa using this
 | own q => simp [Cap.refs] at ho; subst ho; simpa using this
theorem X.refs_below {n : Nat} {x : X} (h : x.below n = true) : ∀ o ∈ x.refs, o < n := by
 cases x with
 | ptr o off => intro q hq; simp [X.refs] at hq; subst hq; simpa [X.below] using h
 | own o => intro q hq; simp [X.refs] at hq; subst hq; simpa [X.below] using h
 | mp o => intro q hq; simp [X.refs] at hq; subst hq; simpa [X.below] using h
 | pel o i off size => intro q hq; simp [X.refs] at hq; subst hq; simpa [X.below] using h
 | sub o lo m size => intro q hq; simp [X.refs] at hq; subst hq; simpa [X.below] using h
 | clo f cs => exact bo5 h
 | bnd f cs => exact bo5 h
 | st cs => exact bo5 h
 | _ => intro q hq; simp [X.refs] at hq
theorem aa5.refs_below {n : Nat} {x : aa5} (h : x.below n = true) : ∀ o ∈ x.refs, o < n := by
 cases x with
 | var t c =>
  intro q hq;obtain ⟨y, hy, hq⟩ := fi4.1 hq;exact X.refs_below (fb2.1 h y hy) q hq
 | _ => intro q hq; simp [aa5.refs] at hq
inductive bo6 : (Nat → X) → Prop
 | own : bo6 .own
 | ptr (off : Nat) : bo6 (.ptr · off)
theorem bo6.rd {R : Nat → X} (h : bo6 R) {w : World} {F : Nat → Prop} {σ σ' : Sg} {n j : Nat} {v : Value} (hv : RdX w F σ (R n) v) (hσ : ∀ p, σ[n]? = some p → σ'[j]? = some p) : RdX w F σ' (R j) v := by
 cases h with
 | own => obtain ⟨b, c, k, h1, h2⟩ := hv; exact ⟨b, c, k, hσ _ h1, h2⟩
 | ptr off => obtain ⟨b, c, k, h1, h2⟩ := hv; exact ⟨b, c, k, hσ _ h1, h2⟩
theorem bo7 {C : Cx} {tm tm' : List (Nat × X)} {ob : List aa5} {j : Nat} {y : aa5} {R : Nat → X} {a : Act} {w : World} (hR : bo6 R) (hj : ob[j]? = some .dead) (hjn : C.base.n0 ≤ j)
  (hob : ∀ x ∈ ob, ∀ o ∈ x.refs, o < ob.length ∧ o ≠ j) (hy : ∀ o ∈ y.refs, o < ob.length ∧ o ≠ j)
  (ht : ∀ t, (lk tm' t = lk tm t ∧ ∀ o ∈ (lk tm t).refs, o < ob.length ∧ o ≠ j) ∨ (lk tm t = R ob.length ∧ lk tm' t = R j))
  (h : C.Rel ⟨tm, ob ++ [y]⟩ a w) : C.Rel ⟨tm', ob.set j y⟩ a w := by
 obtain ⟨F, σ, h1, h2, h3, hi, h4, h5, hs⟩ := h;have hlen : σ.length = ob.length + 1 := by have := hi.len; simpa using this
 have hjl : j < ob.length := (ez7.1 hj).1;obtain ⟨p, hp⟩ : ∃ p, σ[ob.length]? = some p := ⟨_, ez5 (by omega)⟩
 have hag : ∀ o, o < ob.length → o ≠ j → ∀ q, σ[o]? = some q → ((σ.take ob.length).set j p)[o]? = some q := by
  intro o ho hne q hq;rw [fk2 (fun e => hne e.symm), fb1, if_pos ho];exact hq
 have hgj : ((σ.take ob.length).set j p)[j]? = some p := by
  rw [List.getElem?_set_self (by rw [fb6]; omega)]
 have hyl : (ob ++ [y])[ob.length]? = some y := by simp
 have hold : ∀ o x, (ob.set j y)[o]? = some x → (o = j ∧ x = y) ∨ (o ≠ j ∧ ob[o]? = some x) := by
  intro o x hx
  by_cases e : o = j
  ·subst e;rw [List.getElem?_set_self hjl] at hx;exact .inl ⟨rfl, (Option.some.inj hx).symm⟩
  ·rw [fk2 (fun e' => e e'.symm)] at hx;exact .inr ⟨e, hx⟩
 have happ : ∀ {o x}, ob[o]? = some x → (ob ++ [y])[o]? = some x := fun {o x} hx => by
  rw [fa7 (ez7.1 hx).1]; exact hx
 have hback : ∀ o q, o ≠ j → ((σ.take ob.length).set j p)[o]? = some q → σ[o]? = some q := by
  intro o q hne hq;rw [fk2 (fun e => hne e.symm), fb1] at hq;split at hq
  ·exact hq
  ·cases hq
 refine ⟨F, (σ.take ob.length).set j p, h1, h2, h3, ⟨hi.flt, hi.glob, by simp [fb6, hlen], fun o x q hx hq => ?_, fun o o' x x' q q' hne hx hl hx' hl' hq hq' => ?_, fun i q hin hq => ?_⟩, h4, h5, fun t => ?_⟩
 ·rcases hold o x hx with ⟨rfl, rfl⟩ | ⟨hne, hx1⟩
  ·rw [hgj] at hq
   cases hq
   exact (hi.obs _ _ _ hyl hp).agree fun o ho q hq => hag o (hy o ho).1 (hy o ho).2 q hq
  ·exact (hi.obs o x q (happ hx1) (hback o q hne hq)).agree fun r hr q hq => hag r (hob x (ez9 hx1) r hr).1 (hob x (ez9 hx1) r hr).2 q hq
 ·rcases hold o x hx with ⟨rfl, rfl⟩ | ⟨hn1, hx1⟩
  ·rcases hold o' x' hx' with ⟨rfl, rfl⟩ | ⟨hn2, hx2⟩
   ·exact absurd rfl hne
   ·rw [hgj] at hq
    cases hq
    have := (ez7.1 hx2).1;exact hi.inj ob.length o' _ _ _ _ (by omega) hyl hl (happ hx2) hl' hp (hback o' q' hn2 hq')
  ·rcases hold o' x' hx' with ⟨rfl, rfl⟩ | ⟨hn2, hx2⟩
   ·rw [hgj] at hq'
    cases hq'
    have := (ez7.1 hx1).1;exact hi.inj o ob.length _ _ _ _ (by omega) (happ hx1) hl hyl hl' (hback o q hn1 hq) hp
   ·exact hi.inj o o' _ _ _ _ hne (happ hx1) hl (happ hx2) hl' (hback o q hn1 hq) (hback o' q' hn2 hq')
 ·refine hag i (by omega) (by omega) q ?_;exact hi.pre i q hin hq
 ·rcases ht t with ⟨e1, e2⟩ | ⟨e1, e2⟩
  ·show RdX w F _ (lk tm' t) _;rw [e1];exact (hs t).agree fun o ho q hq => hag o (e2 o ho).1 (e2 o ho).2 q hq
  ·show RdX w F _ (lk tm' t) _;have := hs t;rw [show lk (⟨tm, ob ++ [y]⟩ : St).tm t = R ob.length from e1] at this;rw [e2];exact hR.rd this fun q hq => by rw [hp] at hq; cases hq; exact hgj
def NOp (C : Cx) (tm : List (Nat × X)) (ob : List aa5) (o : Oper) (d : Nat) (R : Nat → X) (y : aa5) : Prop :=
 o.dst = some d ∧ ∀ tm' ob', Wk ob ob' → (∀ z ∈ o.op.operands.toList, (⟨tm', ob'⟩ : St).ev C.E z = (⟨tm, ob⟩ : St).ev C.E z) → SOp C ⟨tm', ob'⟩ o ⟨(d, R ob'.length) :: tm', ob' ++ [y]⟩
def bo8 (tm : List (Nat × X)) (o : Oper) (x : X) : List (Nat × X) := match o.dst with | some d => (d, x) :: tm | none => tm
inductive RM (C : Cx) (l : List Oper) (E : List Nat) (ob : List aa5) : Nat → Nat → List Oper → List (Nat × X) → List aa5 → List (Nat × X) → Prop
 | nil (i k : Nat) (tm : List (Nat × X)) : RM C l E ob i k [] tm [] tm
 | skip {i k : Nat} {o : Oper} {rest : List Oper} {tm tm' : List (Nat × X)} {ys : List aa5} (hg : ad1 l.toArray ⟨tm, ob⟩ o false) (hd : ac8 C o = true) (hne : E.contains i = false) (h : RM C l E ob (i + 1) k rest (bo8 tm o .und) ys tm') : RM C l E ob i k (o :: rest) tm ys tm'
 | val {i k : Nat} {o : Oper} {rest : List Oper} {tm tm' : List (Nat × X)} {ys : List aa5} {x : X} (hg : ad1 l.toArray ⟨tm, ob⟩ o true) (hd : ac8 C o = true) (hne : E.contains i = false) (hv : ∀ ob', Wk ob ob' → VOp C ⟨tm, ob'⟩ o x)
   (hr : ∀ r ∈ x.refs, r < ob.length ∨ ∃ e, E[r - ob.length]? = some e ∧ bf7 l e i) (h : RM C l E ob (i + 1) k rest (bo8 tm o x) ys tm') : RM C l E ob i k (o :: rest) tm ys tm'
 | eff {i k d : Nat} {o : Oper} {rest : List Oper} {tm tm' : List (Nat × X)} {ys : List aa5} {R : Nat → X} {y : aa5} (hg : ad1 l.toArray ⟨tm, ob⟩ o true) (hd : ac8 C o = true) (he : E[k]? = some i) (hR : bo6 R) (hv : NOp C tm ob o d R y) (hy : ∀ r ∈ y.refs, r < ob.length)
   (h : RM C l E ob (i + 1) (k + 1) rest ((d, R (ob.length + k)) :: tm) ys tm') : RM C l E ob i k (o :: rest) tm (y :: ys) tm'
theorem bo9 (tm : List (Nat × X)) (ob : List aa5) (o : Oper) (x : X) : (⟨tm, ob⟩ : St).put o.dst x = ⟨bo8 tm o x, ob⟩ := by
 unfold bo8
 cases o.dst <;> rfl
theorem RM.data {C : Cx} {l : List Oper} {E : List Nat} {ob : List aa5} {i k : Nat} {ops : List Oper} {tm tm' : List (Nat × X)} {ys : List aa5} (h : RM C l E ob i k ops tm ys tm') :
    ∃ xs : List (Oper × Option X), xs.map (·.1) = ops ∧ stps ⟨tm, ob⟩ xs = ⟨tm', ob⟩ ∧ (∀ (q : Nat) y, ys[q]? = some y → ∃ j, j < ops.length ∧ E[k + q]? = some (i + j)) ∧
      ∀ (j : Nat) o x, xs[j]? = some (o, x) → ac8 C o = true ∧ ad1 l.toArray (stps ⟨tm, ob⟩ (xs.take j)) o x.isSome ∧
        ((E.contains (i + j) = false ∧ ∀ y, x = some y → (∀ ob', Wk ob ob' → VOp C ⟨(stps ⟨tm, ob⟩ (xs.take j)).tm, ob'⟩ o y) ∧ ∀ r ∈ y.refs, r < ob.length ∨ ∃ e, E[r - ob.length]? = some e ∧ bf7 l e (i + j)) ∨
         ∃ q d R y, E[k + q]? = some (i + j) ∧ ys[q]? = some y ∧ x = some (R (ob.length + (k + q))) ∧ bo6 R ∧ NOp C (stps ⟨tm, ob⟩ (xs.take j)).tm ob o d R y ∧ ∀ r ∈ y.refs, r < ob.length) := by
  induction h with
  | nil i k tm => exact ⟨[], rfl, rfl, fun q y h => by simp at h, fun j o x h => by simp at h⟩
  | @skip i k o rest tm tm' ys hg hd hne hh ih =>
    obtain ⟨xs, h1, h2, h3, h4⟩ := ih
    have hs : ∀ zs, stps ⟨tm, ob⟩ ((o, none) :: zs) = stps ⟨bo8 tm o .und, ob⟩ zs := fun zs => by
      show stps ((⟨tm, ob⟩ : St).put o.dst .und) zs = _;rw [bo9]
    refine ⟨(o, none) :: xs, by simp [h1], (hs xs).trans h2, fun q y hq => ?_, fun j o' x' hj => ?_⟩
    · obtain ⟨j, j1, j2⟩ := h3 q y hq;exact ⟨j + 1, by simpa using j1, by rw [j2, show i + 1 + j = i + (j + 1) by omega]⟩
    · cases j with
      | zero =>
        simp at hj;obtain ⟨rfl, rfl⟩ := hj;exact ⟨hd, hg, .inl ⟨hne, fun y hy => by cases hy⟩⟩
      | succ j =>
        have := h4 j o' x' (by simpa using hj);rw [show i + 1 + j = i + (j + 1) by omega, ← hs] at this;exact this
  | @val i k o rest tm tm' ys x hg hd hne hv hr hh ih =>
    obtain ⟨xs, h1, h2, h3, h4⟩ := ih
    have hs : ∀ zs, stps ⟨tm, ob⟩ ((o, some x) :: zs) = stps ⟨bo8 tm o x, ob⟩ zs := fun zs => by
      show stps ((⟨tm, ob⟩ : St).put o.dst x) zs = _;rw [bo9]
    refine ⟨(o, some x) :: xs, by simp [h1], (hs xs).trans h2, fun q y hq => ?_, fun j o' x' hj => ?_⟩
    · obtain ⟨j, j1, j2⟩ := h3 q y hq;exact ⟨j + 1, by simpa using j1, by rw [j2, show i + 1 + j = i + (j + 1) by omega]⟩
    · cases j with
      | zero =>
        simp at hj;obtain ⟨rfl, rfl⟩ := hj;exact ⟨hd, hg, .inl ⟨hne, fun y hy => by cases hy; exact ⟨hv, hr⟩⟩⟩
      | succ j =>
        have := h4 j o' x' (by simpa using hj);rw [show i + 1 + j = i + (j + 1) by omega, ← hs] at this;exact this
  | @eff i k d o rest tm tm' ys R y hg hd he hR hv hy hh ih =>
    obtain ⟨xs, h1, h2, h3, h4⟩ := ih
    have hs : ∀ zs, stps ⟨tm, ob⟩ ((o, some (R (ob.length + k))) :: zs) = stps ⟨(d, R (ob.length + k)) :: tm, ob⟩ zs := fun zs => by
      show stps ((⟨tm, ob⟩ : St).put o.dst (R (ob.length + k))) zs = _;rw [hv.1]; rfl
    refine ⟨(o, some (R (ob.length + k))) :: xs, by simp [h1], (hs xs).trans h2, fun q z hq => ?_, fun j o' x' hj => ?_⟩
    · cases q with
      | zero => exact ⟨0, by simp, by simpa using he⟩
      | succ q =>
        obtain ⟨j, j1, j2⟩ := h3 q z (by simpa using hq);exact ⟨j + 1, by simpa using j1, by rw [show k + (q + 1) = k + 1 + q by omega, j2, show i + 1 + j = i + (j + 1) by omega]⟩
    · cases j with
      | zero =>
        simp at hj;obtain ⟨rfl, rfl⟩ := hj;exact ⟨hd, hg, .inr ⟨0, d, R, y, by simpa using he, rfl, rfl, hR, hv, hy⟩⟩
      | succ j =>
        obtain ⟨a1, a2, a3⟩ := h4 j o' x' (by simpa using hj);rw [show i + 1 + j = i + (j + 1) by omega, ← hs] at a3;rw [← hs] at a2;refine ⟨a1, a2, ?_⟩;rcases a3 with a3 | ⟨q, d', R', y', b1, b2, b3, b4, b5, b6⟩
        · exact .inl a3
        · refine .inr ⟨q + 1, d', R', y', by rw [show k + (q + 1) = k + 1 + q by omega]; exact b1, by simpa using b2, by rw [b3, show k + 1 + q = k + (q + 1) by omega], b4, b5, b6⟩
def bp0 (D : Nat → Bool) : List Nat → List aa5 → List aa5
 | e :: E, y :: ys => (bif D e then y else .dead) :: bp0 D E ys
 | _, _ => []
theorem bp1 (D : Nat → Bool) : ∀ {E : List Nat} {ys : List aa5} {q e : Nat} {y : aa5}, E[q]? = some e → ys[q]? = some y → (bp0 D E ys)[q]? = some (bif D e then y else .dead)
 | a :: E, b :: ys, 0, e, y, h1, h2 => by simp at h1 h2; subst h1 h2; rfl
 | a :: E, b :: ys, q + 1, e, y, h1, h2 => by
  simp only [bp0, List.getElem?_cons_succ];exact bp1 D (by simpa using h1) (by simpa using h2)
theorem bp2 (D : Nat → Bool) : ∀ {E : List Nat} {ys : List aa5}, E.length = ys.length → (bp0 D E ys).length = ys.length
 | [], [], _ => rfl
 | a :: E, b :: ys, h => by simp only [bp0, fa8]; rw [bp2 D (by simpa using h)]
theorem bp3 (D : Nat → Bool) : ∀ {E : List Nat} {ys : List aa5} {x : aa5}, x ∈ bp0 D E ys → x = .dead ∨ x ∈ ys
 | a :: E, b :: ys, x, h => by
  simp only [bp0, fa6] at h;rcases h with h | h
  ·cases hD : D a with
   | true => rw [hD] at h; exact .inr (by rw [h]; simp)
   | false => rw [hD] at h; exact .inl h
  ·rcases bp3 D h with h | h
   ·exact .inl h
   ·exact .inr (by simp [h])
 | [], ys, x, h => by simp [bp0] at h
 | a :: E, [], x, h => by simp [bp0] at h
theorem bp4 {D D' : Nat → Bool} : ∀ {E : List Nat} {ys : List aa5}, (∀ e ∈ E, D e = D' e) → bp0 D E ys = bp0 D' E ys
 | [], ys, _ => rfl
 | a :: E, [], _ => rfl
 | a :: E, b :: ys, h => by simp only [bp0]; rw [h a (by simp), bp4 (E := E) fun e he => h e (by simp [he])]
theorem bp5 {D : Nat → Bool} {i : Nat} : ∀ {E : List Nat} {ys : List aa5} {q : Nat} {y : aa5}, ax6 E = true → E[q]? = some i → ys[q]? = some y → bp0 (fun j => D j || j == i) E ys = (bp0 D E ys).set q y
 | a :: E, b :: ys, 0, y, hn, h1, h2 => by
  simp at h1 h2; subst h1 h2;simp only [bp0, List.set_cons_zero, beq_self_eq_true, fe5, cond_true];congr 1;refine bp4 fun e he => ?_
  have hne : e ≠ a := by
   rintro rfl;obtain ⟨k, hk⟩ := fb0 he;have := ax7 (i := 0) (j := k + 1) (a := e) hn (by simp) (by simpa using hk);omega
  rw [show (e == a) = false by simpa using hne, fc2]
 | a :: E, b :: ys, q + 1, y, hn, h1, h2 => by
  have hne : a ≠ i := by
   rintro rfl;have := ax7 (i := 0) (j := q + 1) (a := a) hn (by simp) h1;omega
  simp only [bp0, List.set_cons_succ];rw [bp5 (E := E) (q := q) (by simp only [ax6, fa3] at hn; exact hn.2) (by simpa using h1) (by simpa using h2), show (a == i) = false by simpa using hne, fc2]
theorem bp6 {D : Nat → Bool} : ∀ {E : List Nat} {ys : List aa5}, E.length = ys.length → (∀ e ∈ E, D e = true) → bp0 D E ys = ys
 | [], [], _, _ => rfl
 | a :: E, b :: ys, hl, h => by simp only [bp0]; rw [h a (by simp), cond_true, bp6 (E := E) (by simpa using hl) fun e he => h e (by simp [he])]
theorem bp7 {D : Nat → Bool} : ∀ {E : List Nat} {ys : List aa5}, E.length = ys.length → (∀ e ∈ E, D e = false) → bp0 D E ys = List.replicate ys.length .dead
 | [], [], _, _ => rfl
 | a :: E, b :: ys, hl, h => by simp only [bp0]; rw [h a (by simp), cond_false, bp7 (E := E) (by simpa using hl) fun e he => h e (by simp [he]), fa8, List.replicate_succ]
theorem Le.deads {C : Cx} {tm : List (Nat × X)} : ∀ (n : Nat) (ob : List aa5), Le C ⟨tm, ob⟩ ⟨tm, ob ++ List.replicate n .dead⟩
 | 0, ob => by rw [List.replicate_zero, fg4]; exact fun _ _ h => h
 | n + 1, ob => by
  intro a w h;have := Le.deads n (ob ++ [.dead]) a w (Le.dead a w h);rwa [fc1, show [aa5.dead] ++ List.replicate n .dead = List.replicate (n + 1) .dead by rw [List.replicate_succ]; rfl] at this
theorem bo6.refs {R : Nat → X} (h : bo6 R) (n : Nat) : (R n).refs = [n] := by cases h <;> rfl
theorem bp8 {ob zs : List aa5} (hO : ∀ x ∈ ob, x.below ob.length = true) : Wk ob (ob ++ zs) :=
 ⟨by simp, fun i x hx _ => ⟨by rw [fa7 (ez7.1 hx).1]; exact hx, hO x (ez9 hx)⟩⟩
theorem qRM_ {C : Cx} {r : List It} {Q : Exit → St → Prop} {tm tm' : List (Nat × X)} {ob ys : List aa5} {id : Nat} {l : List Oper} (E : List Nat) (ho : ad6 l = true) (hE : ax6 E = true) (hl : E.length = ys.length) (hT : ∀ t, (lk tm t).below ob.length = true) (hO : ∀ x ∈ ob, x.below ob.length = true) (hn : C.base.n0 ≤ ob.length)
  (h : RM C l E ob 0 0 l tm ys tm') (hk : go C r ⟨tm', ob ++ ys⟩ Q) : go C (.code (.region id l.toArray true) :: r) ⟨tm, ob⟩ Q := by
 intro a w hr0;obtain ⟨xs, e1, e2, e3, e4⟩ := h.data;have hr := Le.deads (C := C) (tm := tm) ys.length ob a w hr0
 have hxo : ∀ j, j < l.length → ∃ o x, xs[j]? = some (o, x) := fun j hj => by
  have : j < xs.length := by have h9 := congrArg List.length e1; rw [fb8] at h9; omega
  exact ⟨xs[j].1, xs[j].2, ez5 this⟩
 have huniq : ∀ {p q e : Nat}, E[p]? = some e → E[q]? = some e → p = q := fun h1 h2 => ax7 hE h1 h2
 have hys : ∀ y ∈ ys, ∀ r ∈ y.refs, r < ob.length := by
  intro y hy;obtain ⟨q, hq⟩ := fb0 hy;obtain ⟨j, j1, j2⟩ := e3 q y hq;obtain ⟨o, x, hx⟩ := hxo j j1;rcases (e4 j o x hx).2.2 with ⟨b1, -⟩ | ⟨q', d, R, y', b1, b2, -, -, -, b6⟩
  ·exfalso;have : E.contains (0 + j) = true := by rw [fl6]; exact ez9 j2
   rw [this] at b1
   cases b1
  ·have := huniq b1 j2;have e : q' = q := by omega
   subst e;rw [hq] at b2
   cases b2
   exact b6
 have hfin : ∀ a w, C.Rel ⟨(stps ⟨tm, ob⟩ xs).tm, ob ++ bp0 (fun j => E.contains j && decide (j < l.length)) E ys⟩ a w → C.Rel ⟨tm', ob ++ ys⟩ a w := by
  intro a w hr2
  have hz : bp0 (fun j => E.contains j && decide (j < l.length)) E ys = ys := bp6 hl fun e he => by
   obtain ⟨q, hq⟩ := fb0 he;have hql := (ez7.1 hq).1;obtain ⟨j, j1, j2⟩ := e3 q ys[q] (ez5 (by omega));rw [fc0, fc0, hq] at j2
   cases j2
   rw [decide_eq_true j1, fj6, fl6];exact he
  rw [hz, e2] at hr2;exact hr2
 refine wp_region_any C.E.hM ?_
 refine Dr2.all (s := ⟨tm, ob⟩) (xs := xs) (obT := fun D => ob ++ bp0 D E ys) (eff := fun i => E.contains i) e1 (ad9 ho) (fun i o x hi => ⟨(e4 i o x hi).1, (e4 i o x hi).2.1⟩) (fun i o x he hi y hy D hD => ?_) (fun i o x he hi => ?_) (fun a w hr2 => ⟨⟨tm', ob ++ ys⟩, hfin a w hr2, hk⟩) _ _ _ _ ?_
  ⟨by simp, fun j o' ed ho' hL => ?_, tm, ?_, fun t _ => rfl, fun j o' x t hj hL => ?_⟩
 ·rcases (e4 i o x hi).2.2 with ⟨-, b2⟩ | ⟨q', d, R, y', b1, -⟩
  ·exact (b2 y hy).1 _ (bp8 hO)
  ·exfalso;rw [fc0, fc0] at b1;have : E.contains i = true := by rw [fl6]; exact ez9 b1
   rw [this] at he
   cases he
 ·rcases (e4 i o x hi).2.2 with ⟨b1, -⟩ | ⟨q, d, R, y, b1, b2, b3, b4, b5, b6⟩
  ·rw [fc0] at b1;rw [b1] at he
   cases he
  ·rw [fc0, fc0] at b1;rw [fc0] at b3;refine ⟨_, b3, fun D hD hDi tm2 hev hsl => ?_⟩;have hql : q < ys.length := (ez7.1 b2).1;have hzl := bp2 D hl;have hfl : (ob ++ bp0 D E ys).length = ob.length + ys.length := by rw [fb5, hzl]
   intro w2 a2 K2 Q2 hr3 hK;refine b5.2 tm2 (ob ++ bp0 D E ys) (bp8 hO) (fun z hz => hev z hz) w2 a2 K2 Q2 hr3 fun a' w' hr4 => hK a' w' ?_
   have hset : ob ++ bp0 (fun j => D j || j == i) E ys = (ob ++ bp0 D E ys).set (ob.length + q) y := by
    rw [bp5 hE b1 b2, List.set_append, if_neg (by omega), fm1]
   rw [b5.1];show C.Rel ⟨(d, R (ob.length + q)) :: tm2, ob ++ bp0 (fun j => D j || j == i) E ys⟩ a' w';rw [hset];refine bo7 b4 ?_ (by omega) (fun x hx o ho => ?_) (fun o ho => ?_) (fun t => ?_) hr4
   ·rw [fa9 (by omega), fm1, bp1 D b1 b2, hDi]; rfl
   ·rw [hfl];rcases fb7.1 hx with hx | hx
    ·have := aa5.refs_below (hO x hx) o ho;omega
    ·rcases bp3 D hx with rfl | hx
     ·simp [aa5.refs] at ho
     ·have := hys x hx o ho;omega
   ·rw [hfl];have := b6 o ho;omega
   ·cases hdt : Nat.beq d t with
    | true =>
     refine .inr ⟨?_, ?_⟩
     ·simp only [lk, hdt, cond_true]
     ·simp only [lk, hdt, cond_true]
    | false =>
     refine .inl ⟨by simp only [lk, hdt, cond_false], ?_⟩;simp only [lk, hdt, cond_false];rw [hfl];intro o ho;rcases hsl t with e | ⟨j, p, z, j1, j2, j3, e⟩
     ·rw [e] at ho;have := X.refs_below (hT t) o ho;omega
     ·rw [e] at ho
      cases z with
      | none => simp [X.refs] at ho
      | some v =>
       rw [fd8] at ho;rcases (e4 j p (some v) j3).2.2 with ⟨-, c2⟩ | ⟨q', d', R', y', c1, c2, c3, c4, -, -⟩
       ·rcases (c2 v rfl).2 o ho with h1 | ⟨e', h1, h2⟩
        ·omega
        ·have hlt := (ez7.1 h1).1;refine ⟨by omega, fun eq => j2 ?_⟩;subst eq;rw [fm1, b1] at h1
         cases h1
         rwa [fc0] at h2
       ·rw [fc0] at c3
        cases c3
        rw [c4.refs, fa0] at ho;have hlt := (ez7.1 c2).1;refine ⟨by omega, fun eq => j1 ?_⟩;have : q' = q := by omega
        subst this;rw [fc0, fc0, b1] at c1
        cases c1
        rfl
 ·refine fd3 (fh7 _ _) ?_;simp
 ·exfalso
  by_cases hlt : j < l.length <;> simp [hlt] at hL
 ·have hz : bp0 (Dn (fun i => E.contains i) (Array.replicate l.toArray.size false)) E ys = List.replicate ys.length .dead := bp7 hl fun e he => by
   unfold Dn
   have : (Array.replicate l.toArray.size false).getD e false = false := by
    rw [fg5, Array.getElem?_replicate];split <;> rfl
   rw [this, fh1]
  show C.Rel ⟨tm, ob ++ bp0 (Dn (fun i => E.contains i) (Array.replicate l.toArray.size false)) E ys⟩ a { w with drawn := w.drawn + 1 };rw [hz];obtain ⟨F, σ, r1, r2, r3, hi, r4, r5, hs⟩ := hr;have hext : Ext w F { w with drawn := w.drawn + 1 } F := ⟨⟨rfl, rfl, rfl, fa4 _, fun _ _ => rfl⟩, fun _ h => h, fun _ h => .inl h, hi.flt⟩;exact ⟨F, σ, r1.step hext.below, r2, r3, hi.ext hext, r4, r5, fun t => (hs t).ext hext hi.flt⟩
 ·exfalso
  by_cases hlt : j < l.length <;> simp [hlt] at hL
def bp9 (C : Cx) (_id : Nat) (l : List Oper) (E : List Nat) (ob : List aa5) (i k : Nat) (ops : List Oper) (tm : List (Nat × X)) (K : List (Nat × X) → List aa5 → Prop) : Prop := ∃ ys tm', RM C l E ob i k ops tm ys tm' ∧ K tm' ys
section
variable {C : Cx} {r : List It} {Q : Exit → St → Prop} {tm : List (Nat × X)} {ob : List aa5} {id : Nat} {l : List Oper} {E : List Nat} {i k d : Nat} {o : Oper} {rest : List Oper} {K : List (Nat × X) → List aa5 → Prop} {p : Prop} {x : X}
theorem qRM (id : Nat) (E : List Nat) (h : bp9 C id l E ob 0 0 l tm fun tm' ys => E.length = ys.length ∧ go C r ⟨tm', ob ++ ys⟩ Q) (ho : ad6 l = true := by kernel_rfl) (hE : ax6 E = true := by exact rfl) (hn : Nat.ble C.base.n0 ob.length = true := by exact rfl)
  (hT : TmB ob.length tm := by repeat (first | exact trivial | refine ⟨rfl, ?_⟩)) (hO : ap0 ob.length ob := by repeat (first | exact trivial | refine ⟨rfl, ?_⟩)) : go C (.code (.region id l.toArray true) :: r) ⟨tm, ob⟩ Q := by
 obtain ⟨ys, tm', h1, h2, h3⟩ := h;exact qRM_ E ho hE h2 (fun t => hT.lk t) (fun x hx => hO.all x hx) (fb3 hn) h1 h3
theorem rmN (h : K tm []) : bp9 C id l E ob i k [] tm K := ⟨[], tm, .nil _ _ _, h⟩
theorem rmV (hv : vop C ⟨bi9 ob.length tm, ob⟩ o = some (p, x)) (h : bp9 C id l E ob (i + 1) k rest ((d, x) :: tm) K) (hp : p) (hne : E.contains i = false := by exact rfl) (hg : ap1 l.toArray tm o = some true := by exact rfl) (hdst : o.dst = some d := by exact rfl) (hd : Nat.blt d C.N = true := by exact rfl)
  (hn : Nat.ble C.base.n0 ob.length = true := by exact rfl) (hb : x.below ob.length = true := by exact rfl) : bp9 C id l E ob i k (o :: rest) tm K := by
 obtain ⟨ys, tm', h1, h2⟩ := h;refine ⟨ys, tm', .val (ap2 hg) (by simp only [ac8, hdst]; exact hd) hne (fun ob' hw' => ((ao9 hv hp).wk hw' (fb3 hn) (bj1 _ tm)).dim) (fun r hr => .inl (X.refs_below hb r hr)) ?_, h2⟩;rw [bo8, hdst];exact h1
theorem rmM {y : Operand} (hm : o.op = .move y ∨ o.op = .assign y) (h : bp9 C id l E ob (i + 1) k rest ((d, x) :: tm) K) (hf : fw ((⟨tm, ob⟩ : St).ev C.E y) = some (True, x) := by exact rfl) (hne : E.contains i = false := by exact rfl) (hg : ap1 l.toArray tm o = some true := by exact rfl) (hdst : o.dst = some d := by exact rfl) (hd : Nat.blt d C.N = true := by exact rfl)
  (hb : (x.refs.all fun r => Nat.blt r ob.length || (match E[r - ob.length]? with | some e => bg1 (bg0 l) e i | none => false)) = true := by kernel_rfl) : bp9 C id l E ob i k (o :: rest) tm K := by
 obtain ⟨ys, tm', h1, h2⟩ := h;refine ⟨ys, tm', .val (ap2 hg) (by simp only [ac8, hdst]; exact hd) hne (fun ob' _ => ah0 (s := ⟨tm, ob'⟩) hm (show fw ((⟨tm, ob'⟩ : St).ev C.E y) = some (True, x) by cases y <;> exact hf)) (fun r hr => ?_) ?_, h2⟩
 ·have := fb2.1 hb r hr;rw [fc7] at this;rcases this with this | this
  ·exact .inl (by simpa using this)
  ·split at this
   ·rename_i e he
    exact .inr ⟨e, he, bg4 this⟩
   ·cases this
 ·rw [bo8, hdst];exact h1
theorem rmMk {t : TypeId} {y z : Operand} {te : TE} {ky kz : IntKind} {n : Nat} {d0 : D} (h : bp9 C id l E ob (i + 1) (k + 1) rest ((d, .own (ob.length + k)) :: tm) fun tm' ys => K tm' (.row te.t te.size (List.replicate n d0) :: ys)) (hb : te.bytes * n ≤ 281474976710656) (hmx : n ≤ 9223372036854775807)
  (he : E[k]? = some i := by exact rfl) (ho : o.op = .makeSlice t y z := by exact rfl) (hg : ap1 l.toArray tm o = some true := by exact rfl) (hdst : o.dst = some d := by exact rfl) (hd : Nat.blt d C.N = true := by exact rfl) (hte : ak6 C.E t = some te := by exact rfl) (hy : (⟨tm, ob⟩ : St).ev C.E y = .d (.imm (.int ky (n : Int))) := by exact rfl)
  (hz : (⟨tm, ob⟩ : St).ev C.E z = .d (.imm (.int kz (n : Int))) := by exact rfl) (hzd : ar4 te = some d0 := by exact rfl) (h1z : al2 te.zero.cells.toList = true := by exact rfl) (hzs : te.zero.cells.size = te.size := by exact rfl) : bp9 C id l E ob i k (o :: rest) tm K := by
 obtain ⟨ys, tm', h1, h2⟩ := h;have hdk : ac8 C o = true := by simp only [ac8, hdst]; exact hd
 refine ⟨_ :: ys, tm', .eff (ap2 hg) hdk he .own ⟨hdst, fun tm2 ob2 hw hev => ?_⟩ (fun r hr => by simp [aa5.refs] at hr) h1, h2⟩;have := ar6 (C := C) (s := ⟨tm2, ob2⟩) ho hte ((hev y (by simp [ho, Op.operands])).trans hy) ((hev z (by simp [ho, Op.operands])).trans hz) hzd h1z hzs hb hmx hdk;rw [hdst] at this;exact this
end
end Go.Abs
namespace Go.Abs
open Go Go.RowKit
def mvG (k n o : Nat) : Nat := bif Nat.beq o k then n else o
def mvT (k n : Nat) : List (Nat × X) → List (Nat × X)
 | [] => []
 | p :: r => (p.1, bkX (mvG k n) p.2) :: mvT k n r
def mvB (g : Nat → Nat) : List aa5 → List aa5
 | [] => []
 | x :: r => bkO g x :: mvB g r
theorem bq0 (g : Nat → Nat) : ∀ l : List aa5, mvB g l = l.map (bkO g)
 | [] => rfl
 | x :: r => by rw [mvB, bq0 g r]; rfl
theorem bq1 (k n : Nat) (t : Nat) : ∀ tm : List (Nat × X), lk (mvT k n tm) t = bkX (mvG k n) (lk tm t)
 | [] => rfl
 | (a, x) :: r => by
  simp only [mvT, lk]
  cases Nat.beq a t with
  | true => rfl
  | false => exact bq1 k n t r
theorem Le.move {C : Cx} {tm : List (Nat × X)} {ob : List aa5} (k : Nat) {x : aa5} (hx : ob[k]? = some x) :
  Le C ⟨tm, ob⟩ ⟨mvT k ob.length tm, (mvB (mvG k ob.length) ob).set k .dead ++ [bkO (mvG k ob.length) x]⟩ := by
 rintro a w ⟨F, σ, h1, h2, h3, hi, h4, h5, hs⟩;have hlen : σ.length = ob.length := hi.len;have hk : k < ob.length := (ez7.1 hx).1;obtain ⟨p, hp⟩ : ∃ p, σ[k]? = some p := ⟨_, ez5 (by rw [hlen]; exact hk)⟩
 have hg : ∀ (i : Nat) q, σ[i]? = some q → (σ ++ [p])[mvG k ob.length i]? = some q := fun i q hq => by
  have hil : i < σ.length := (ez7.1 hq).1;unfold mvG
  cases e : Nat.beq i k with
  | true =>
   have : i = k := fa5 e;subst this;rw [cond_true, ← hlen, fa9 (fa4 _), Nat.sub_self];rw [hp] at hq
   cases hq
   rfl
  | false =>
   rw [cond_false, fa7 hil];exact hq
 have hget : ∀ (o : Nat) (y : aa5) q, ((mvB (mvG k ob.length) ob).set k .dead ++ [bkO (mvG k ob.length) x])[o]? = some y → (σ ++ [p])[o]? = some q → y.live = true →
   ∃ o1 z, ob[o1]? = some z ∧ σ[o1]? = some q ∧ y = bkO (mvG k ob.length) z ∧ ((o = ob.length ∧ o1 = k) ∨ (o1 = o ∧ o ≠ k)) := by
  intro o y q hy hq hl;rw [bq0] at hy;rcases ez6 o ob.length with h | h
  ·rw [fa7 (by simpa using h), fd2] at hy;rw [fa7 (by rw [hlen]; exact h)] at hq;split at hy
   ·split at hy
    ·cases hy; cases hl
    ·cases hy
   ·rename_i hne
    rw [ez8, fa2] at hy;obtain ⟨z, hz, rfl⟩ := hy;exact ⟨o, z, hz, hq, rfl, .inr ⟨rfl, fun e => hne e.symm⟩⟩
  ·have ho : o = ob.length := by
    have := (ez7.1 hy).1;simp at this;omega
   subst ho;rw [fa9 (by simp)] at hy;rw [fa9 (by omega), hlen, Nat.sub_self] at hq;simp at hy
   cases hy
   cases hq
   exact ⟨k, x, hx, hp, rfl, .inl ⟨rfl, rfl⟩⟩
 refine ⟨F, σ ++ [p], h1, h2, h3, ⟨hi.flt, hi.glob, by rw [bq0]; simp [hlen], fun o y q hy hq => ?_, fun o o' y y' q q' hne hy hl hy' hl' hq hq' => ?_, fun i p hp hq => σ_app _ _ (hi.pre i p hp hq)⟩, h4, h5, fun t => ?_⟩
 ·cases hl : y.live with
  | false =>
   cases y with
   | dead => trivial
   | _ => simp [aa5.live] at hl
  | true =>
   obtain ⟨o1, z, g1, g2, rfl, -⟩ := hget o y q hy hq hl;exact bb4 hg (hi.obs o1 z q g1 g2)
 ·obtain ⟨o1, z, g1, g2, rfl, g3⟩ := hget o y q hy hq hl;obtain ⟨o2, z', g1', g2', rfl, g3'⟩ := hget o' y' q' hy' hq' hl';rw [bb5] at hl hl';exact hi.inj o1 o2 z z' q q' (by rcases g3 with ⟨e1, e2⟩ | ⟨e1, e2⟩ <;> rcases g3' with ⟨e3, e4⟩ | ⟨e3, e4⟩ <;> omega) g1 hl g1' hl' g2 g2'
 ·rw [show (⟨mvT k ob.length tm, (mvB (mvG k ob.length) ob).set k .dead ++ [bkO (mvG k ob.length) x]⟩ : St).tm = mvT k ob.length tm from rfl, bq1];exact bb3 hg (hs t)
section
variable {C : Cx} {r : List It} {Q : Exit → St → Prop} {tm : List (Nat × X)} {ob : List aa5} {c : Code}
theorem bq2 {l : Nat} {s : St} : ∀ {r : List It}, ab9 C r Q (.goto l) s → Q (.goto l) s
 | [], h => h
 | .code _ :: r, h => bq2 (r := r) h
 | .blk _ :: r, h => bq2 (r := r) h
 | .stop _ :: r, h => bq2 (r := r) h
theorem bq3 {s : St} (hQ : ∀ l s, ¬ Q (.goto l) s) (h : go C (.code c :: r) s Q) : go C (.code (.scope c) :: r) s Q := by
 intro a w hr;refine wp_scope_straight (wp_mono (h a w hr) ?_);intro e a' w' ⟨s', hs, hq⟩
 cases e with
 | goto l => exact (hQ l s' (bq2 hq)).elim
 | normal => exact ⟨s', hs, hq⟩
 | exit i => exact ⟨s', hs, hq⟩
 | ret => exact ⟨s', hs, hq⟩
 | panic ch => exact ⟨s', hs, hq⟩
 | outgrown => exact ⟨s', hs, hq⟩
theorem bq4 {l : Nat} {s : St} (h : go C r s Q) : go C (.code (.label l) :: r) s Q := fun _ _ hr => wp_label ⟨s, hr, h⟩
end
end Go.Abs
namespace Go.Abs
open Go Go.RowKit
section
variable {C : Cx} {s : St} {o : Oper}
theorem bq5 {t ty : TypeId} {y z : Operand} {i : Nat} {c : VC} {e : TE} {cs : List Cap} (ho : o.op = .store t y z) (hdst : o.dst = none) (hy : s.ev C.E y = .ptr i 0) (hz : s.ev C.E z = .st cs) (hob : s.ob[i]? = some (.var ty c))
  (he : aa8 C.E.T t = some e) (hsz : Nat.beq cs.length e.size = true) (hle : Nat.beq c.cells.length cs.length = true) : SOp C s o (s.setOb i (.var ty (.cs (cs.map Cap.x)))) := by
 obtain ⟨hok, rfl⟩ := ab0 he;have hsz' := fa5 hsz;have hle' := fa5 hle;rintro w a K Q ⟨F, σ, h1, h2, h3, hi, h4, h5, hs⟩ hK;have hv := ab6 (E := C.E) hi hs z;rw [hz] at hv;have hp := ab6 (E := C.E) hi hs y;rw [hy] at hp;obtain ⟨b, cc, n, p1, p2⟩ := hp;obtain ⟨vs, q1, q2, q3, q4, q5, q6⟩ := hi.obs i _ _ hob p1;obtain ⟨c1, c3, c2⟩ := bj7 (x := .st cs) rfl hv;have hcl : (a.eval z).cells.toList.length = cs.length := by simpa using c1
 have hrow := run_storeCells_at C.E.P b 0 ty (a.eval z).cells.toList 0 vs.toArray w q1 (by simp; omega) c2
 have hall : vs.take 0 ++ (a.eval z).cells.toList ++ vs.drop (0 + (a.eval z).cells.toList.length) = (a.eval z).cells.toList := by
  rw [List.take_zero, fd9, fa1 (by omega), fg4]
 have hrun : (execOp a.eval o).run C.E.P w = .ok .skip (w.setRow b (a.eval z).cells.toList.toArray) := by
  simp only [execOp, ho, Instr.storeAt, p2, Instr.sureAddr, storeVar, Sem.run_bind, Sem.run_pure, Result.andThen_ok, ai8 hok];rw [if_neg (by rw [c1, hsz']; simp)];simp only [fc5] at hrow;rw [hrow, hall];rfl
 unfold Oper.wp;rw [hrun];simp only [Oper.upon];rw [hdst];refine hK _ _ ⟨F, σ, ?_, h2, h3, ?_, h4, h5, fun t => ?_⟩
 ·exact h1.setRow q5 _
 ·refine hi.turn hob rfl p1 q6 ?_;have keep : ∀ k, F k → (w.setRow b (a.eval z).cells.toList.toArray).heap[k]? = w.heap[k]? := fun k hk => am6 w b _ k (fun e => q6 (e ▸ hk))
  refine ⟨_, setRow_heap w b vs.toArray _ ty _ q1, ?_, fun v hv => ?_, fun j xj v hj hvj => ?_, q5, q6⟩
  ·simp only [VC.cells, fb8];omega
  ·exact c2 v (by simpa using hv)
  ·refine RdX.mono ?_ (fun _ h => h) keep (fun _ _ h => h);simp only [VC.cells, ez8, fa2] at hj;obtain ⟨c', hc', rfl⟩ := hj;exact Cap.x_rd (c3 j c' v hc' (by simpa using hvj))
 ·exact (hs t).mono (fun _ h => h) (fun k hk => am6 w b _ k (fun e => q6 (e ▸ hk))) (fun _ _ h => h)
theorem bq6 {t : TypeId} {parts : List (Nat × Operand)} {e : TE} {fs : Array Field} {zs : List D} {cs : List Cap} (ho : o.op = .build t parts.toArray) (he : aa8 C.E.T t = some e) (hd : e.desc = .struct fs)
  (hb : ag8 C.E fs.toList = true) (hzs : bm9 e.zero.cells.toList = some zs) (hcs : bk1 C.E fs s parts (zs.map Cap.d) = some cs) : VOp C s o (.st cs) := by
 refine VOp.pure_ fun F σ w a hi hr => ?_
 obtain ⟨hok, rfl⟩ := ab0 he;have hu := hok.1;rw [hd] at hu;obtain ⟨ps, m1, m2⟩ := ao7 (E := C.E) (w := w) fs.toList hb;have hz0 := bn0 (w := w) (F := F) hzs
 have hz1 : bj8 w F σ e.zero.cells.toList (zs.map Cap.d) := by
  refine ⟨by simpa using hz0.len, hz0.one, fun i c v hc hv => ?_⟩;rw [ez8, fa2] at hc;obtain ⟨d, hd, rfl⟩ := hc;obtain ⟨d', e1, e2⟩ := hz0.rd i v hv;rw [hd] at e1
  cases e1
  exact e2
 obtain ⟨vs', f1, f2⟩ := bk2 (s := s) (a := a) (σ := σ) (places := ps.toArray) (fun i off size hp => by simpa using m2 i off size (by simpa using hp)) parts e.zero.cells (zs.map Cap.d) cs
  (fun q hq => hr q.2 (by simp [ho, Op.operands]; exact ⟨q.1, by simpa using hq⟩)) hz1 hcs
 refine ⟨.agg vs', ?_, ?_⟩
 ·have m1' : (fs.mapM fun f => (do pure (f.offset, ← sizeOf f.type) : Sem (Nat × Nat))).run C.E.P w = .ok ps.toArray w := by
   rw [← Array.toArray_toList (xs := fs), List.mapM_toArray];simp only [map_eq_pure_bind, Sem.run_bind, m1, Result.andThen_ok, Sem.run_pure]
  have hparts : (parts.toArray.map fun (i, x) => (i, a.eval x)).toList = parts.map fun q => (q.1, a.eval q.2) := by simp
  simp only [execOp, ho, Instr.build, Sem.run_bind, al9 hok, Result.andThen_ok, run_underlying hu, m1', hparts, f1, Sem.run_pure]
 ·exact ⟨vs'.toList, by simp, f2.len, f2.one, f2.rd⟩
end
section
variable {C : Cx} {K : St → Prop} {all : Array Oper} {rest : List Oper} {tm : List (Nat × X)} {ob : List aa5} {o : Oper} {d : Nat} {pu : Bool}
theorem bq7 {t : TypeId} {parts : List (Nat × Operand)} {e : TE} {fs : Array Field} {zs : List D} {cs : List Cap} (ho : o.op = .build t parts.toArray) (hg : ap1 all tm o = some true) (hdst : o.dst = some d) (hd : Nat.blt d C.N = true) (he : aa8 C.E.T t = some e) (hds : e.desc = .struct fs)
  (hb : ag8 C.E fs.toList = true) (hzs : bm9 e.zero.cells.toList = some zs) (hcs : bk1 C.E fs ⟨tm, ob⟩ parts (zs.map Cap.d) = some cs) (h : SGo C all pu rest ⟨(d, .st cs) :: tm, ob⟩ K) : SGo C all pu (o :: rest) ⟨tm, ob⟩ K :=
 au7 hg hdst hd (bq6 ho he hds hb hzs hcs) h
theorem bq8 {t ty : TypeId} {y z : Operand} {i : Nat} {c : VC} {e : TE} {cs : List Cap} {l : List X} (hg : o.guard = none) (hdst : o.dst = none) (ho : o.op = .store t y z) (hy : (⟨tm, ob⟩ : St).ev C.E y = .ptr i 0) (hz : (⟨tm, ob⟩ : St).ev C.E z = .st cs)
  (hob : ob[i]? = some (.var ty c)) (he : aa8 C.E.T t = some e) (hsz : Nat.beq cs.length e.size = true) (hle : Nat.beq c.cells.length cs.length = true) (hl : cs.map Cap.x = l)
  (h : SGo C all false rest ⟨tm, ob.set i (.var ty (.cs l))⟩ K) : SGo C all false (o :: rest) ⟨tm, ob⟩ K := by
 subst hl;exact SGo.eff (by simp [ad1, hg]) (bq5 ho hdst hy hz hob he hsz hle) h
end
end Go.Abs
namespace Go.Abs
open Go Go.RowKit
def bq9 (n j : Nat) (tm : List (Nat × X)) : Prop := ∀ t, ∀ o ∈ (lk tm t).refs, o < n ∧ o ≠ j
def TOp (C : Cx) (l : List Oper) (E : List Nat) (obT : (Nat → Bool) → List aa5) (i j n : Nat) (tm : List (Nat × X)) (o : Oper) (y : X) : Prop :=
 ∀ D, bo3 l (fun e => E.contains e) i D → D i = false → ∀ tm', (∀ z ∈ o.op.operands.toList, (⟨tm', obT D⟩ : St).ev C.E z = (⟨tm, obT D⟩ : St).ev C.E z) → bq9 n j tm' → SOp C ⟨tm', obT D⟩ o ((⟨tm', obT (fun e => D e || e == i)⟩ : St).put o.dst y)
def br0 (l : List Oper) (E : List Nat) (b m i : Nat) (x : X) : Prop := ∀ r ∈ x.refs, r < b ∨ (r < b + m ∧ ∃ e, E[r - b]? = some e ∧ (e = i ∨ bf7 l e i))
inductive RT (C : Cx) (l : List Oper) (E : List Nat) (ob : List aa5) (m : Nat) (obT : (Nat → Bool) → List aa5) : Nat → List Oper → List (Nat × X) → List (Nat × X) → Prop
 | nil (i : Nat) (tm : List (Nat × X)) : RT C l E ob m obT i [] tm tm
 | skip {i : Nat} {o : Oper} {rest : List Oper} {tm tm' : List (Nat × X)} (hg : ad1 l.toArray ⟨tm, ob⟩ o false) (hd : ac8 C o = true) (hne : E.contains i = false) (h : RT C l E ob m obT (i + 1) rest (bo8 tm o .und) tm') : RT C l E ob m obT i (o :: rest) tm tm'
 | val {i : Nat} {o : Oper} {rest : List Oper} {tm tm' : List (Nat × X)} {x : X} (hg : ad1 l.toArray ⟨tm, ob⟩ o true) (hd : ac8 C o = true) (hne : E.contains i = false) (hv : ∀ D, bo3 l (fun e => E.contains e) i D → VOp C ⟨tm, obT D⟩ o x)
   (hr : br0 l E ob.length m i x) (h : RT C l E ob m obT (i + 1) rest (bo8 tm o x) tm') : RT C l E ob m obT i (o :: rest) tm tm'
 | eff {i q : Nat} {o : Oper} {rest : List Oper} {tm tm' : List (Nat × X)} {x : X} (hg : ad1 l.toArray ⟨tm, ob⟩ o true) (hd : ac8 C o = true) (he : E[q]? = some i) (hv : TOp C l E obT i (ob.length + q) (ob.length + m) tm o x)
   (hr : br0 l E ob.length m i x) (h : RT C l E ob m obT (i + 1) rest (bo8 tm o x) tm') : RT C l E ob m obT i (o :: rest) tm tm'
theorem RT.data {C : Cx} {l : List Oper} {E : List Nat} {ob : List aa5} {m : Nat} {obT : (Nat → Bool) → List aa5} {i : Nat} {ops : List Oper} {tm tm' : List (Nat × X)} (h : RT C l E ob m obT i ops tm tm') :
    ∃ xs : List (Oper × Option X), xs.map (·.1) = ops ∧ stps ⟨tm, ob⟩ xs = ⟨tm', ob⟩ ∧
      ∀ (j : Nat) o x, xs[j]? = some (o, x) → ac8 C o = true ∧ ad1 l.toArray (stps ⟨tm, ob⟩ (xs.take j)) o x.isSome ∧ (∀ y, x = some y → br0 l E ob.length m (i + j) y) ∧
        ((E.contains (i + j) = false ∧ ∀ y, x = some y → ∀ D, bo3 l (fun e => E.contains e) (i + j) D → VOp C ⟨(stps ⟨tm, ob⟩ (xs.take j)).tm, obT D⟩ o y) ∨
         ∃ q y, E[q]? = some (i + j) ∧ x = some y ∧ TOp C l E obT (i + j) (ob.length + q) (ob.length + m) (stps ⟨tm, ob⟩ (xs.take j)).tm o y) := by
  have one : ∀ {i : Nat} {o : Oper} {rest : List Oper} {tm tm' : List (Nat × X)} (x : Option X),
      (∃ xs : List (Oper × Option X), xs.map (·.1) = rest ∧ stps ⟨bo8 tm o (x.getD .und), ob⟩ xs = ⟨tm', ob⟩ ∧
        ∀ (j : Nat) o' x', xs[j]? = some (o', x') → ac8 C o' = true ∧ ad1 l.toArray (stps ⟨bo8 tm o (x.getD .und), ob⟩ (xs.take j)) o' x'.isSome ∧ (∀ y, x' = some y → br0 l E ob.length m (i + 1 + j) y) ∧
          ((E.contains (i + 1 + j) = false ∧ ∀ y, x' = some y → ∀ D, bo3 l (fun e => E.contains e) (i + 1 + j) D → VOp C ⟨(stps ⟨bo8 tm o (x.getD .und), ob⟩ (xs.take j)).tm, obT D⟩ o' y) ∨
           ∃ q y, E[q]? = some (i + 1 + j) ∧ x' = some y ∧ TOp C l E obT (i + 1 + j) (ob.length + q) (ob.length + m) (stps ⟨bo8 tm o (x.getD .und), ob⟩ (xs.take j)).tm o' y)) →
      (ac8 C o = true ∧ ad1 l.toArray ⟨tm, ob⟩ o x.isSome ∧ (∀ y, x = some y → br0 l E ob.length m i y) ∧
        ((E.contains i = false ∧ ∀ y, x = some y → ∀ D, bo3 l (fun e => E.contains e) i D → VOp C ⟨tm, obT D⟩ o y) ∨
         ∃ q y, E[q]? = some i ∧ x = some y ∧ TOp C l E obT i (ob.length + q) (ob.length + m) tm o y)) →
      ∃ xs : List (Oper × Option X), xs.map (·.1) = o :: rest ∧ stps ⟨tm, ob⟩ xs = ⟨tm', ob⟩ ∧
        ∀ (j : Nat) o' x', xs[j]? = some (o', x') → ac8 C o' = true ∧ ad1 l.toArray (stps ⟨tm, ob⟩ (xs.take j)) o' x'.isSome ∧ (∀ y, x' = some y → br0 l E ob.length m (i + j) y) ∧
          ((E.contains (i + j) = false ∧ ∀ y, x' = some y → ∀ D, bo3 l (fun e => E.contains e) (i + j) D → VOp C ⟨(stps ⟨tm, ob⟩ (xs.take j)).tm, obT D⟩ o' y) ∨
           ∃ q y, E[q]? = some (i + j) ∧ x' = some y ∧ TOp C l E obT (i + j) (ob.length + q) (ob.length + m) (stps ⟨tm, ob⟩ (xs.take j)).tm o' y) := by
    intro i o rest tm tm' x ⟨xs, h1, h2, h4⟩ hx
    have hs : ∀ zs, stps ⟨tm, ob⟩ ((o, x) :: zs) = stps ⟨bo8 tm o (x.getD .und), ob⟩ zs := fun zs => by
      show stps ((⟨tm, ob⟩ : St).put o.dst (x.getD .und)) zs = _;rw [bo9]
    refine ⟨(o, x) :: xs, by simp [h1], (hs xs).trans h2, fun j o' x' hj => ?_⟩
    cases j with
    | zero =>
      simp at hj;obtain ⟨rfl, rfl⟩ := hj;exact hx
    | succ j =>
      have := h4 j o' x' (by simpa using hj);rw [show i + 1 + j = i + (j + 1) by omega, ← hs] at this;exact this
  induction h with
  | nil i tm => exact ⟨[], rfl, rfl, fun j o x h => by simp at h⟩
  | skip hg hd hne hh ih => exact one none ih ⟨hd, hg, fun y hy => (by cases hy), .inl ⟨hne, fun y hy => (by cases hy)⟩⟩
  | val hg hd hne hv hr hh ih => exact one (some _) ih ⟨hd, hg, fun y hy => (by cases hy; exact hr), .inl ⟨hne, fun y hy => (by cases hy; exact hv)⟩⟩
  | eff hg hd he hv hr hh ih => exact one (some _) ih ⟨hd, hg, fun y hy => (by cases hy; exact hr), .inr ⟨_, _, he, rfl, hv⟩⟩
theorem qRT_ {C : Cx} {r : List It} {Q : Exit → St → Prop} {tm tm' : List (Nat × X)} {ob ob' : List aa5} {id m : Nat} {l : List Oper} (E : List Nat) (obT : (Nat → Bool) → List aa5) (ho : ad6 l = true) (hE : ax6 E = true) (hEl : (E.all fun e => Nat.blt e l.length) = true) (hT : ∀ t, (lk tm t).below ob.length = true)
  (h0 : ∀ D : Nat → Bool, (∀ e ∈ E, D e = false) → obT D = ob ++ List.replicate m .dead) (h1 : ∀ D : Nat → Bool, (∀ e ∈ E, D e = true) → obT D = ob')
  (h : RT C l E ob m obT 0 l tm tm') (hk : go C r ⟨tm', ob'⟩ Q) : go C (.code (.region id l.toArray true) :: r) ⟨tm, ob⟩ Q := by
 intro a w hr0;obtain ⟨xs, e1, e2, e4⟩ := h.data;have hr := Le.deads (C := C) (tm := tm) m ob a w hr0
 have hfin : ∀ a w, C.Rel ⟨(stps ⟨tm, ob⟩ xs).tm, obT (fun j => E.contains j && decide (j < l.length))⟩ a w → C.Rel ⟨tm', ob'⟩ a w := by
  intro a w hr2
  rw [h1 _ (fun e he => by
   have := fb2.1 hEl e he;have hlt : e < l.length := by simpa using this
   rw [decide_eq_true hlt, fj6, fl6];exact he), e2] at hr2
  exact hr2
 refine wp_region_any C.E.hM ?_
 refine Dr2.all (s := ⟨tm, ob⟩) (xs := xs) (obT := obT) (eff := fun i => E.contains i) e1 (ad9 ho) (fun i o x hi => ⟨(e4 i o x hi).1, (e4 i o x hi).2.1⟩) (fun i o x he hi y hy D hD => ?_) (fun i o x he hi => ?_) (fun a w hr2 => ⟨⟨tm', ob'⟩, hfin a w hr2, hk⟩) _ _ _ _ ?_
  ⟨by simp, fun j o' ed ho' hL => ?_, tm, ?_, fun t _ => rfl, fun j o' x t hj hL => ?_⟩
 ·rcases (e4 i o x hi).2.2.2 with ⟨-, b2⟩ | ⟨q, y', b1, -⟩
  ·rw [fc0] at b2;exact b2 y hy D hD
  ·exfalso;rw [fc0] at b1;have : E.contains i = true := by rw [fl6]; exact ez9 b1
   rw [this] at he
   cases he
 ·rcases (e4 i o x hi).2.2.2 with ⟨b1, -⟩ | ⟨q, y, b1, b3, b5⟩
  ·rw [fc0] at b1;rw [b1] at he
   cases he
  ·rw [fc0] at b1 b5;refine ⟨_, b3, fun D hD hDi tm2 hev hsl => ?_⟩;refine b5 D hD hDi tm2 (fun z hz => (hev z hz).trans (by cases z <;> rfl)) fun t o' ho' => ?_
   rcases hsl t with e | ⟨j, p, z, j1, j2, j3, e⟩
   ·rw [e] at ho';have := X.refs_below (hT t) o' ho';omega
   ·rw [e] at ho'
    cases z with
    | none => simp [X.refs] at ho'
    | some v =>
     rw [fd8] at ho';rcases (e4 j p (some v) j3).2.2.1 v rfl o' ho' with c1 | ⟨c1, e', c2, c3⟩
     ·omega
     ·refine ⟨c1, fun eq => ?_⟩;subst eq;rw [fm1, b1] at c2
      cases c2
      rw [fc0] at c3;rcases c3 with c3 | c3
      ·exact j1 c3.symm
      ·exact j2 c3
 ·refine fd3 (fh7 _ _) ?_;simp
 ·exfalso
  by_cases hlt : j < l.length <;> simp [hlt] at hL
 ·show C.Rel ⟨tm, obT (Dn (fun i => E.contains i) (Array.replicate l.toArray.size false))⟩ a { w with drawn := w.drawn + 1 }
  rw [h0 _ fun e he => by
   unfold Dn
   have : (Array.replicate l.toArray.size false).getD e false = false := by
    rw [fg5, Array.getElem?_replicate];split <;> rfl
   rw [this, fh1]]
  obtain ⟨F, σ, r1, r2, r3, hi, r4, r5, hs⟩ := hr;have hext : Ext w F { w with drawn := w.drawn + 1 } F := ⟨⟨rfl, rfl, rfl, fa4 _, fun _ _ => rfl⟩, fun _ h => h, fun _ h => .inl h, hi.flt⟩;exact ⟨F, σ, r1.step hext.below, r2, r3, hi.ext hext, r4, r5, fun t => (hs t).ext hext hi.flt⟩
 ·exfalso
  by_cases hlt : j < l.length <;> simp [hlt] at hL
theorem SOp.fill {C : Cx} {o : Oper} {d n j : Nat} {tm : List (Nat × X)} {ob ob1 : List aa5} {R : Nat → X} {y : aa5} (h : SOp C ⟨tm, ob⟩ o ⟨(d, R ob1.length) :: tm, ob1 ++ [y]⟩) (hdst : o.dst = some d) (hR : bo6 R) (hs : bq9 n j tm) (hn : ob1.length = n) (hj : ob1[j]? = some .dead) (hjn : C.base.n0 ≤ j)
  (hob : ∀ x ∈ ob1, ∀ o ∈ x.refs, o < n ∧ o ≠ j) (hy : ∀ o ∈ y.refs, o < n ∧ o ≠ j) : SOp C ⟨tm, ob⟩ o ((⟨tm, ob1.set j y⟩ : St).put o.dst (R j)) := by
 intro w a K Q hr hK;refine h w a K Q hr fun a' w' hr' => hK a' w' ?_
 subst hn;rw [hdst];refine bo7 (tm := (d, R ob1.length) :: tm) hR hj hjn hob hy (fun t => ?_) hr'
 cases hdt : Nat.beq d t with
 | true => exact .inr ⟨by simp only [lk, hdt, cond_true], by simp only [lk, hdt, cond_true]⟩
 | false =>
  refine .inl ⟨by simp only [lk, hdt, cond_false], ?_⟩;simp only [lk, hdt, cond_false];exact hs t
def br1 (C : Cx) (l : List Oper) (E : List Nat) (ob : List aa5) (m : Nat) (zs : (Nat → Bool) → List aa5) (i : Nat) (ops : List Oper) (tm : List (Nat × X)) (K : List (Nat × X) → Prop) : Prop := ∃ tm', RT C l E ob m (fun D => ob ++ zs D) i ops tm tm' ∧ K tm'
def refB (l : List Oper) (E : List Nat) (b m i : Nat) (x : X) : Bool := x.refs.all fun r => Nat.blt r b || (Nat.blt r (b + m) && (match E[r - b]? with | some e => Nat.beq e i || bg1 (bg0 l) e i | none => false))
theorem br2 {l : List Oper} {E : List Nat} {b m i : Nat} {x : X} (h : refB l E b m i x = true) : br0 l E b m i x := by
 intro r hr;have := fb2.1 h r hr;rw [fc7, fa3] at this;rcases this with h1 | ⟨h1, h2⟩
 ·exact .inl (by simpa using h1)
 ·refine .inr ⟨by simpa using h1, ?_⟩;split at h2
  ·rename_i e he
   rw [fc7] at h2;refine ⟨e, he, ?_⟩;rcases h2 with h2 | h2
   ·exact .inl (fa5 h2)
   ·exact .inr (bg4 h2)
  ·cases h2
section
variable {C : Cx} {r : List It} {Q : Exit → St → Prop} {tm : List (Nat × X)} {ob ob' : List aa5} {id m : Nat} {l : List Oper} {E : List Nat} {zs : (Nat → Bool) → List aa5} {i d : Nat} {o : Oper} {rest : List Oper} {K : List (Nat × X) → Prop} {p : Prop} {x : X}
theorem qRY (E : List Nat) (m : Nat) (zs : (Nat → Bool) → List aa5) (ob' : List aa5) (h : br1 C l E ob m zs 0 l tm fun tm' => go C r ⟨tm', ob'⟩ Q) (h0 : ∀ D : Nat → Bool, (∀ e ∈ E, D e = false) → zs D = List.replicate m .dead) (h1 : ∀ D : Nat → Bool, (∀ e ∈ E, D e = true) → ob ++ zs D = ob')
  (ho : ad6 l = true := by kernel_rfl) (hE : ax6 E = true := by exact rfl) (hEl : (E.all fun e => Nat.blt e l.length) = true := by exact rfl) (hT : TmB ob.length tm := by repeat (first | exact trivial | refine ⟨rfl, ?_⟩)) : go C (.code (.region id l.toArray true) :: r) ⟨tm, ob⟩ Q := by
 obtain ⟨tm', h2, h3⟩ := h;exact qRT_ E _ ho hE hEl (fun t => hT.lk t) (fun D hD => by rw [h0 D hD]) h1 h2 h3
theorem rtN (h : K tm) : br1 C l E ob m zs i [] tm K := ⟨tm, .nil _ _, h⟩
theorem rtV (hO : ap0 ob.length ob) (hv : vop C ⟨bi9 ob.length tm, ob⟩ o = some (p, x)) (h : br1 C l E ob m zs (i + 1) rest ((d, x) :: tm) K) (hp : p) (hne : E.contains i = false := by exact rfl) (hg : ap1 l.toArray tm o = some true := by exact rfl) (hdst : o.dst = some d := by exact rfl) (hd : Nat.blt d C.N = true := by exact rfl)
  (hn : Nat.ble C.base.n0 ob.length = true := by exact rfl) (hb : x.below ob.length = true := by exact rfl) : br1 C l E ob m zs i (o :: rest) tm K := by
 obtain ⟨tm', h1, h2⟩ := h;refine ⟨tm', .val (ap2 hg) (by simp only [ac8, hdst]; exact hd) hne (fun D _ => ((ao9 hv hp).wk (bp8 fun x hx => hO.all x hx) (fb3 hn) (bj1 _ tm)).dim) (fun r hr => .inl (X.refs_below hb r hr)) ?_, h2⟩;rw [bo8, hdst];exact h1
theorem rtX (hv : ∀ D, bo3 l (fun e => E.contains e) i D → VOp C ⟨tm, ob ++ zs D⟩ o x) (h : br1 C l E ob m zs (i + 1) rest ((d, x) :: tm) K) (hne : E.contains i = false := by exact rfl) (hg : ap1 l.toArray tm o = some true := by exact rfl) (hdst : o.dst = some d := by exact rfl) (hd : Nat.blt d C.N = true := by exact rfl)
  (hb : refB l E ob.length m i x = true := by kernel_rfl) : br1 C l E ob m zs i (o :: rest) tm K := by
 obtain ⟨tm', h1, h2⟩ := h;refine ⟨tm', .val (ap2 hg) (by simp only [ac8, hdst]; exact hd) hne hv (br2 hb) ?_, h2⟩;rw [bo8, hdst];exact h1
theorem rtE (q : Nat) (x : X) (hv : TOp C l E (fun D => ob ++ zs D) i (ob.length + q) (ob.length + m) tm o x) (h : br1 C l E ob m zs (i + 1) rest (bo8 tm o x) K) (he : E[q]? = some i := by exact rfl) (hg : ap1 l.toArray tm o = some true := by exact rfl) (hd : ac8 C o = true := by exact rfl)
  (hb : refB l E ob.length m i x = true := by kernel_rfl) : br1 C l E ob m zs i (o :: rest) tm K := by
 obtain ⟨tm', h1, h2⟩ := h;exact ⟨tm', .eff (ap2 hg) hd he hv (br2 hb) h1, h2⟩
theorem SOp.same {s s1 s2 : St} (h : SOp C s o s1) (e : s1 = s2) : SOp C s o s2 := e ▸ h
theorem bo3.ahead {D : Nat → Bool} (h : bo3 l (fun e => E.contains e) i D) (j : Nat) (hj : E.contains j = true := by exact rfl) (ha : bg1 (bg0 l) j i = true := by kernel_rfl) : D j = true := h.pre j hj (bg4 ha)
theorem bo3.behind {D : Nat → Bool} (h : bo3 l (fun e => E.contains e) i D) (j : Nat) (hj : E.contains j = true := by exact rfl) (ha : bg1 (bg0 l) i j = true := by kernel_rfl) : D j = false := h.post j hj (bg4 ha)
def br3 (n j : Nat) (zs : List aa5) : Prop := ∀ x ∈ zs, ∀ o ∈ x.refs, o < n ∧ o ≠ j
theorem br3.nil {n j : Nat} : br3 n j [] := fun _ h => by cases h
theorem br3.cons {n j : Nat} {x : aa5} {zs : List aa5} (hx : x.refs = []) (h : br3 n j zs) : br3 n j (x :: zs) := by
 intro y hy o ho;rcases fa6.1 hy with rfl | hy
 ·rw [hx] at ho; cases ho
 ·exact h y hy o ho
theorem br3.old {j m : Nat} (hO : ap0 ob.length ob) (hj : ob.length ≤ j) {zs : List aa5} (h : br3 (ob.length + m) j zs) : br3 (ob.length + m) j (ob ++ zs) := by
 intro x hx o ho;rcases fb7.1 hx with hx | hx
 ·have := aa5.refs_below (hO.all x hx) o ho;omega
 ·exact h x hx o ho
end
end Go.Abs
namespace Go.Val
open Go Go.Abs
inductive V where
 | mk (k n d : Int) (s : ByteArray) (l : List V)
 deriving Inhabited
def V.k : V → Int | .mk k _ _ _ _ => k
def V.n : V → Int | .mk _ n _ _ _ => n
def V.d : V → Int | .mk _ _ d _ _ => d
def V.s : V → ByteArray | .mk _ _ _ s _ => s
def V.l : V → List V | .mk _ _ _ _ l => l
theorem V.eta (v : V) : V.mk v.k v.n v.d v.s v.l = v := by cases v; rfl
mutual
def br4 : V → List D
 | .mk _ _ _ _ l => br5 l
def br5 : List V → List D
 | [] => []
 | v :: r => .agg [.int v.k, .int v.n, .int v.d, .str v.s, .sl (br4 v)] :: br5 r
end
def enc (v : V) : D := .agg [.int v.k, .int v.n, .int v.d, .str v.s, .sl (br4 v)]
theorem br6 (l : List V) : br5 l = l.map enc := by
 induction l with
 | nil => simp [br5]
 | cons v r ih => simp [br5, ih, enc]
theorem br7 (v : V) : br4 v = v.l.map enc := by
 cases v
 simp [br4, br6, V.l]
theorem br8 {v : V} {i : Nat} {x : V} (h : v.l[i]? = some x) : (br4 v)[i]? = some (enc x) := by
 rw [br7, ez8, h]; rfl
theorem br9 {l : List V} {i : Nat} {x : V} (h : l[i]? = some x) : (br5 l)[i]? = some (enc x) := by
 rw [br6, ez8, h]; rfl
theorem bs0 (v : V) : (br4 v).length = v.l.length := by rw [br7]; simp
theorem bs1 (l : List V) : (br5 l).length = l.length := by rw [br6]; simp
def encR (l : List (List V)) : List D := l.map fun r => .sl (br5 r)
theorem bs2 {v : V} (h : Fit (enc v)) : inR .i64 v.k ∧ inR .i64 v.n ∧ inR .i64 v.d ∧ v.s.size ≤ 9223372036854775807 ∧ v.l.length ≤ 9223372036854775807 ∧ ∀ x ∈ v.l, Fit (enc x) := by
 have hc := h.aggs;have h5 := (hc (.sl (br4 v)) (by simp)).sls;rw [bs0] at h5;refine ⟨(hc (.int v.k) (by simp)).int, (hc (.int v.n) (by simp)).int, (hc (.int v.d) (by simp)).int, (hc (.str v.s) (by simp)).str, h5.1, fun x hx => h5.2 _ ?_⟩;rw [br7];exact fh0 hx
theorem bs3 {l : List V} (h : Fit (.sl (br5 l))) : l.length ≤ 9223372036854775807 ∧ ∀ x ∈ l, Fit (enc x) := by
 have h5 := h.sls;rw [bs1] at h5;refine ⟨h5.1, fun x hx => h5.2 _ ?_⟩;rw [br6];exact fh0 hx
def inM (n : Int) : Bool := decide (n ≥ -1000000000000000) && decide (n ≤ 1000000000000000)
theorem bs4 (n : Int) : inM n = true ↔ -1000000000000000 ≤ n ∧ n ≤ 1000000000000000 := by simp [inM]
def bs5 (a b : Int) : Int := bif inM a && inM b then (Int.gcd a b : Int) else 0
def bs6 (n d : Int) : Bool := decide (d ≥ 1) && (decide (d ≤ 1000000000000000) && (inM n && ((Int.gcd n d : Int) == 1)))
def kn (t : Int) : Int := bif (t == 0) || (t == 2) then t else 1
theorem bs7 (t : Int) : kn t = 0 ∨ kn t = 1 ∨ kn t = 2 := by
 unfold kn
 cases h : (t == 0) || (t == 2) with
 | false => simp
 | true => simp at h; simp only [cond_true]; omega
def tt (b : Bool) : Int := bif b then 2 else 0
def bs8 : V := .mk 0 0 0 ⟨#[]⟩ []
def s0 (s : ByteArray) : Bool := s.toList == (⟨#[]⟩ : ByteArray).toList
def bs9 (s : ByteArray) : Bool := s.data.toList.all (fun b => !(decide (b.toNat < 32) || decide (b.toNat > 126))) && decide (s.size ≤ 100)
def bt0 (v : V) : Bool :=
 (v.k == 0 && (v.d == 0 && s0 v.s && v.l.length == 0) && v.n == 0) ||
 (v.k == 1 && (v.d == 0 && s0 v.s && v.l.length == 0) && (v.n == 0 || v.n == 1)) ||
 (v.k == 2 && (v.d == 0 && s0 v.s && v.l.length == 0) && inM v.n) ||
 (v.k == 3 && (s0 v.s && v.l.length == 0) && (decide (v.d ≥ 2) && bs6 v.n v.d)) ||
 (v.k == 4 && (v.d == 0 && v.l.length == 0) && (v.n == 0 && bs9 v.s)) ||
 ((v.k == 5 || v.k == 6) && (v.d == 0 && s0 v.s && v.l.length == 0) && (decide (v.n ≥ 1) && decide (v.n ≤ 1000000)))
def bt1 (i : Nat) (v : V) : Bool := v.k == (bif i % 2 == 0 then 5 else 6) && bt0 v
def bt2 : Nat → List V → Bool
 | _, [] => true
 | i, v :: r => bt1 i v && bt2 (i + 1) r
def bt3 (l : List V) : Bool := l.length % 2 == 1 && decide (l.length ≤ 25) && bt2 0 l
def okN : Nat → V → Bool
 | 0, v => bt0 v || (v.k == 7 && (v.d == 0 && s0 v.s) && (v.n == 0 && bt3 v.l))
 | m + 1, v => bt0 v || (v.k == 7 && (v.d == 0 && s0 v.s) && (v.n == 0 && bt3 v.l)) || (v.k == 8 && (v.d == 0 && s0 v.s) && (v.n == 0 && decide (v.l.length ≤ 64) && v.l.all (okN m)))
def okV (v : V) : Bool := okN 8 v
def bt4 (v : V) : Bool := (v.k == 1 || v.k == 2 || v.k == 4) && okV v
def bt5 (v : V) : Bool := (v.k == 2 || v.k == 3) && okV v
def bt6 (v : V) : Int := bif bt5 v then v.n else 0
def bt7 (v : V) : Int := bif bt5 v then (bif v.k == 2 then 1 else v.d) else 0
end Go.Val
namespace Go.Proofs.YtenpjlghikohmaaGreatDoor
open Go Go.Abs
set_option maxRecDepth 100000
def te3 : TE := ⟨3, .int .i64, 1, 8, .int .i64 0⟩
def te4 : TE := ⟨4, .bool, 1, 1, .bool false⟩
def te9 : TE := ⟨9, .string, 1, 16, .string { data := #[] }⟩
def te28 : TE := ⟨28, .struct #[⟨"Vars", 25, 0, false, "", "", 0⟩, ⟨"Atoms", 26, 1, false, "", "", 24⟩], 2, 48, .agg #[.slice Option.none 0 0, .slice Option.none 0 0]⟩
def te38 : TE := ⟨38, .struct #[⟨"Nodes", 35, 0, false, "", "", 0⟩, ⟨"Edges", 36, 1, false, "", "", 24⟩, ⟨"NextNode", 3, 2, false, "", "", 48⟩, ⟨"NextEdge", 3, 3, false, "", "", 56⟩], 4, 64, .agg #[.slice Option.none 0 0, .slice Option.none 0 0, .int .i64 0, .int .i64 0]⟩
def te56 : TE := ⟨56, .struct #[⟨"Kind", 3, 0, false, "", "", 0⟩, ⟨"N", 3, 1, false, "", "", 8⟩, ⟨"D", 3, 2, false, "", "", 16⟩, ⟨"S", 9, 3, false, "", "", 24⟩, ⟨"L", 54, 4, false, "", "", 40⟩], 5, 64, .agg #[.int .i64 0, .int .i64 0, .int .i64 0, .string { data := #[] }, .slice Option.none 0 0]⟩
def te58 : TE := ⟨58, .struct #[⟨"Kind", 3, 0, false, "", "", 0⟩, ⟨"Vars", 46, 1, false, "", "", 8⟩, ⟨"Name", 9, 2, false, "", "", 32⟩, ⟨"Types", 25, 3, false, "", "", 48⟩, ⟨"V", 56, 4, false, "", "", 72⟩], 9, 136, .agg #[.int .i64 0, .slice Option.none 0 0, .string { data := #[] }, .slice Option.none 0 0, .int .i64 0, .int .i64 0, .int .i64 0, .string { data := #[] }, .slice Option.none 0 0]⟩
def te63 : TE := ⟨63, .struct #[⟨"Arity", 3, 0, false, "", "", 0⟩, ⟨"Rows", 40, 1, false, "", "", 8⟩], 2, 32, .agg #[.int .i64 0, .slice Option.none 0 0]⟩
def te73 : TE := ⟨73, .struct #[⟨"Var", 9, 0, false, "", "", 0⟩, ⟨"Nodes", 70, 1, false, "", "", 16⟩, ⟨"Edges", 71, 2, false, "", "", 40⟩], 3, 64, .agg #[.string { data := #[] }, .slice Option.none 0 0, .slice Option.none 0 0]⟩
def te76 : TE := ⟨76, .struct #[⟨"Var", 9, 0, false, "", "", 0⟩, ⟨"Labels", 25, 1, false, "", "", 16⟩, ⟨"Props", 74, 2, false, "", "", 40⟩], 3, 64, .agg #[.string { data := #[] }, .slice Option.none 0 0, .slice Option.none 0 0]⟩
def te79 : TE := ⟨79, .struct #[⟨"Var", 9, 0, false, "", "", 0⟩, ⟨"Types", 25, 1, false, "", "", 16⟩, ⟨"Dir", 3, 2, false, "", "", 40⟩, ⟨"Mode", 3, 3, false, "", "", 48⟩, ⟨"Min", 3, 4, false, "", "", 56⟩, ⟨"Max", 3, 5, false, "", "", 64⟩, ⟨"Props", 74, 6, false, "", "", 72⟩], 7, 96, .agg #[.string { data := #[] }, .slice Option.none 0 0, .int .i64 0, .int .i64 0, .int .i64 0, .int .i64 0, .slice Option.none 0 0]⟩
def te81 : TE := ⟨81, .struct #[⟨"conj", 28, 0, false, "", "graphdb/atoms", 0⟩, ⟨"conds", 29, 2, false, "", "graphdb/atoms", 48⟩, ⟨"unnamed", 3, 3, false, "", "graphdb/atoms", 72⟩], 4, 80, .agg #[.slice Option.none 0 0, .slice Option.none 0 0, .slice Option.none 0 0, .int .i64 0]⟩
def te92 : TE := ⟨92, .struct #[⟨"Op", 3, 0, false, "", "", 0⟩, ⟨"V", 56, 1, false, "", "", 8⟩, ⟨"Name", 9, 6, false, "", "", 72⟩, ⟨"Distinct", 4, 7, false, "", "", 88⟩, ⟨"Kids", 29, 8, false, "", "", 96⟩], 9, 120, .agg #[.int .i64 0, .int .i64 0, .int .i64 0, .int .i64 0, .string { data := #[] }, .slice Option.none 0 0, .string { data := #[] }, .bool false, .slice Option.none 0 0]⟩
def te104 : TE := ⟨104, .struct #[⟨"Id", 3, 0, false, "", "", 0⟩, ⟨"Labels", 25, 1, false, "", "", 8⟩, ⟨"Props", 102, 2, false, "", "", 32⟩], 3, 56, .agg #[.int .i64 0, .slice Option.none 0 0, .slice Option.none 0 0]⟩
def te109 : TE := ⟨109, .struct #[⟨"Id", 3, 0, false, "", "", 0⟩, ⟨"From", 3, 1, false, "", "", 8⟩, ⟨"To", 3, 2, false, "", "", 16⟩, ⟨"Type", 9, 3, false, "", "", 24⟩, ⟨"Props", 102, 4, false, "", "", 40⟩], 5, 64, .agg #[.int .i64 0, .int .i64 0, .int .i64 0, .string { data := #[] }, .slice Option.none 0 0]⟩
def te125 : TE := ⟨125, .struct #[⟨"rels", 123, 0, false, "", "graphdb/atoms", 0⟩, ⟨"vars", 40, 1, false, "", "graphdb/atoms", 24⟩, ⟨"tuple", 46, 2, false, "", "graphdb/atoms", 48⟩, ⟨"out", 40, 3, false, "", "graphdb/atoms", 72⟩], 4, 96, .agg #[.slice Option.none 0 0, .slice Option.none 0 0, .slice Option.none 0 0, .slice Option.none 0 0]⟩
def te148 : TE := ⟨148, .struct #[⟨"Key", 9, 0, false, "", "", 0⟩, ⟨"E", 92, 1, false, "", "", 16⟩], 10, 136, .agg #[.string { data := #[] }, .int .i64 0, .int .i64 0, .int .i64 0, .int .i64 0, .string { data := #[] }, .slice Option.none 0 0, .string { data := #[] }, .bool false, .slice Option.none 0 0]⟩
def te164 : TE := ⟨164, .struct #[⟨"name", 9, 0, false, "", "graphdb/syntax", 0⟩, ⟨"names", 25, 1, false, "", "graphdb/syntax", 16⟩, ⟨"props", 74, 2, false, "", "graphdb/syntax", 40⟩], 3, 64, .agg #[.string { data := #[] }, .slice Option.none 0 0, .slice Option.none 0 0]⟩
def te210 : TE := ⟨210, .struct #[⟨"Key", 9, 0, false, "", "", 0⟩, ⟨"V", 56, 1, false, "", "", 16⟩], 6, 80, .agg #[.string { data := #[] }, .int .i64 0, .int .i64 0, .int .i64 0, .string { data := #[] }, .slice Option.none 0 0]⟩
def te236 : TE := ⟨236, .struct #[⟨"N", 3, 0, false, "", "", 0⟩, ⟨"D", 3, 1, false, "", "", 8⟩], 2, 16, .agg #[.int .i64 0, .int .i64 0]⟩
def te349 : TE := ⟨349, .struct #[⟨"neg", 4, 0, false, "", "graphdb/frac", 0⟩, ⟨"hi", 277, 1, false, "", "graphdb/frac", 8⟩, ⟨"lo", 277, 2, false, "", "graphdb/frac", 16⟩], 3, 24, .agg #[.bool false, .int .u64 0, .int .u64 0]⟩
def te22 : TE := ⟨22, .slice 73, 1, 24, .slice Option.none 0 0⟩
def te25 : TE := ⟨25, .slice 9, 1, 24, .slice Option.none 0 0⟩
def te26 : TE := ⟨26, .slice 58, 1, 24, .slice Option.none 0 0⟩
def te29 : TE := ⟨29, .slice 92, 1, 24, .slice Option.none 0 0⟩
def te35 : TE := ⟨35, .slice 104, 1, 24, .slice Option.none 0 0⟩
def te36 : TE := ⟨36, .slice 109, 1, 24, .slice Option.none 0 0⟩
def te40 : TE := ⟨40, .slice 46, 1, 24, .slice Option.none 0 0⟩
def te46 : TE := ⟨46, .slice 3, 1, 24, .slice Option.none 0 0⟩
def te54 : TE := ⟨54, .slice 56, 1, 24, .slice Option.none 0 0⟩
def te70 : TE := ⟨70, .slice 76, 1, 24, .slice Option.none 0 0⟩
def te71 : TE := ⟨71, .slice 79, 1, 24, .slice Option.none 0 0⟩
def te74 : TE := ⟨74, .slice 148, 1, 24, .slice Option.none 0 0⟩
def te102 : TE := ⟨102, .slice 210, 1, 24, .slice Option.none 0 0⟩
def te123 : TE := ⟨123, .slice 63, 1, 24, .slice Option.none 0 0⟩
def te130 : TE := ⟨130, .slice 56, 1, 24, .slice Option.none 0 0⟩
def te131 : TE := ⟨131, .slice 130, 1, 24, .slice Option.none 0 0⟩
def te156 : TE := ⟨156, .slice 4, 1, 24, .slice Option.none 0 0⟩
def te160 : TE := ⟨160, .slice 164, 1, 24, .slice Option.none 0 0⟩
def te326 : TE := ⟨326, .slice 5, 1, 24, .slice Option.none 0 0⟩
def te1 : TE := ⟨1, .func #[] #[] false, 1, 8, .nilFunc⟩
def te2 : TE := ⟨2, .int .i64, 1, 8, .int .i64 0⟩
def te5 : TE := ⟨5, .int .u8, 1, 1, .int .u8 0⟩
def te21 : TE := ⟨21, .int .i32, 1, 4, .int .i32 0⟩
def te43 : TE := ⟨43, .int .i64, 1, 8, .int .i64 0⟩
def te113 : TE := ⟨113, .func #[46, 46] #[4] false, 1, 8, .nilFunc⟩
def te134 : TE := ⟨134, .func #[46] #[] true, 1, 8, .nilFunc⟩
def te138 : TE := ⟨138, .func #[46, 46] #[3] false, 1, 8, .nilFunc⟩
def te142 : TE := ⟨142, .map 3 4, 1, 8, .map Option.none⟩
def te149 : TE := ⟨149, .func #[92] #[4] false, 1, 8, .nilFunc⟩
def te152 : TE := ⟨152, .func #[162] #[] false, 1, 8, .nilFunc⟩
def te153 : TE := ⟨153, .func #[162] #[] false, 1, 8, .nilFunc⟩
def te159 : TE := ⟨159, .func #[79] #[4] false, 1, 8, .nilFunc⟩
def te162 : TE := ⟨162, .func #[9] #[4] false, 1, 8, .nilFunc⟩
def te167 : TE := ⟨167, .pointer 81, 1, 8, .pointer Option.none⟩
def te182 : TE := ⟨182, .func #[56, 56] #[3] false, 1, 8, .nilFunc⟩
def te196 : TE := ⟨196, .func #[3] #[4] false, 1, 8, .nilFunc⟩
def te202 : TE := ⟨202, .func #[196] #[] false, 1, 8, .nilFunc⟩
def te203 : TE := ⟨203, .func #[196] #[] false, 1, 8, .nilFunc⟩
def te205 : TE := ⟨205, .pointer 125, 1, 8, .pointer Option.none⟩
def te218 : TE := ⟨218, .int .u64, 1, 8, .int .u64 0⟩
def te231 : TE := ⟨231, .func #[148] #[4] false, 1, 8, .nilFunc⟩
def te248 : TE := ⟨248, .func #[104, 3] #[3] false, 1, 8, .nilFunc⟩
def te261 : TE := ⟨261, .func #[46] #[4] false, 1, 8, .nilFunc⟩
def te268 : TE := ⟨268, .int .i64, 1, 8, .int .i64 0⟩
def te275 : TE := ⟨275, .int .u32, 1, 4, .int .u32 0⟩
def te277 : TE := ⟨277, .int .u64, 1, 8, .int .u64 0⟩
def te319 : TE := ⟨319, .int .u64, 1, 8, .int .u64 0⟩
def te323 : TE := ⟨323, .pointer 3, 1, 8, .pointer Option.none⟩
def te347 : TE := ⟨347, .func #[21] #[4] false, 1, 8, .nilFunc⟩
def te353 : TE := ⟨353, .pointer 319, 1, 8, .pointer Option.none⟩
theorem kC {P : Program} {e : TE} {l : List TE} {i : TypeInfo} (h : P.underlying e.t = some e.desc) (h' : P.info? e.t = some i) (h2 : ∀ x ∈ l, x.ok P) (a : i.size = e.size := by exact rfl) (b : i.bytes = e.bytes := by exact rfl) (c : i.zero = some e.zero := by exact rfl) : ∀ x ∈ e :: l, x.ok P := List.forall_mem_cons.2 ⟨⟨h, i, h', a, b, c⟩, h2⟩
def bt8 : List TE := [te3, te4, te9, te28, te38, te56, te58, te63, te73, te76, te79, te81, te92, te104, te109, te125, te148, te164, te210, te236, te349, te22, te25, te26, te29, te35, te36, te40, te46, te54, te70, te71, te74, te102, te123, te130, te131, te156, te160, te326, te1, te2, te5, te21, te43, te113, te134, te138, te142, te149, te152, te153, te159, te162, te167, te182, te196, te202, te203, te205, te218, te231, te248, te261, te268, te275, te277, te319, te323, te347, te353]
theorem bt9 : ∀ e ∈ bt8, e.ok Tryz.prog := by
 unfold bt8;refine kC Tryz.underlying3 Tryz.type3 ?_;refine kC Tryz.underlying4 Tryz.type4 ?_;refine kC Tryz.underlying9 Tryz.type9 ?_;refine kC Tryz.underlying28 Tryz.type28 ?_;refine kC Tryz.underlying38 Tryz.type38 ?_;refine kC Tryz.underlying56 Tryz.type56 ?_;refine kC Tryz.underlying58 Tryz.type58 ?_;refine kC Tryz.underlying63 Tryz.type63 ?_;refine kC Tryz.underlying73 Tryz.type73 ?_;refine kC Tryz.underlying76 Tryz.type76 ?_;refine kC Tryz.underlying79 Tryz.type79 ?_;refine kC Tryz.underlying81 Tryz.type81 ?_;refine kC Tryz.underlying92 Tryz.type92 ?_;refine kC Tryz.underlying104 Tryz.type104 ?_;refine kC Tryz.underlying109 Tryz.type109 ?_;refine kC Tryz.underlying125 Tryz.type125 ?_;refine kC Tryz.underlying148 Tryz.type148 ?_;refine kC Tryz.underlying164 Tryz.type164 ?_;refine kC Tryz.underlying210 Tryz.type210 ?_;refine kC Tryz.underlying236 Tryz.type236 ?_;refine kC Tryz.underlying349 Tryz.type349 ?_;refine kC Tryz.underlying22 Tryz.type22 ?_;refine kC Tryz.underlying25 Tryz.type25 ?_;refine kC Tryz.underlying26 Tryz.type26 ?_;refine kC Tryz.underlying29 Tryz.type29 ?_;refine kC Tryz.underlying35 Tryz.type35 ?_;refine kC Tryz.underlying36 Tryz.type36 ?_;refine kC Tryz.underlying40 Tryz.type40 ?_;refine kC Tryz.underlying46 Tryz.type46 ?_;refine kC Tryz.underlying54 Tryz.type54 ?_;refine kC Tryz.underlying70 Tryz.type70 ?_;refine kC Tryz.underlying71 Tryz.type71 ?_;refine kC Tryz.underlying74 Tryz.type74 ?_;refine kC Tryz.underlying102 Tryz.type102 ?_;refine kC Tryz.underlying123 Tryz.type123 ?_;refine kC Tryz.underlying130 Tryz.type130 ?_;refine kC Tryz.underlying131 Tryz.type131 ?_;refine kC Tryz.underlying156 Tryz.type156 ?_;refine kC Tryz.underlying160 Tryz.type160 ?_;refine kC Tryz.underlying326 Tryz.type326 ?_;refine kC Tryz.underlying1 Tryz.type1 ?_;refine kC Tryz.underlying2 Tryz.type2 ?_;refine kC Tryz.underlying5 Tryz.type5 ?_;refine kC Tryz.underlying21 Tryz.type21 ?_;refine kC Tryz.underlying43 Tryz.type43 ?_;refine kC Tryz.underlying113 Tryz.type113 ?_;refine kC Tryz.underlying134 Tryz.type134 ?_;refine kC Tryz.underlying138 Tryz.type138 ?_;refine kC Tryz.underlying142 Tryz.type142 ?_;refine kC Tryz.underlying149 Tryz.type149 ?_;refine kC Tryz.underlying152 Tryz.type152 ?_;refine kC Tryz.underlying153 Tryz.type153 ?_;refine kC Tryz.underlying159 Tryz.type159 ?_;refine kC Tryz.underlying162 Tryz.type162 ?_;refine kC Tryz.underlying167 Tryz.type167 ?_;refine kC Tryz.underlying182 Tryz.type182 ?_;refine kC Tryz.underlying196 Tryz.type196 ?_;refine kC Tryz.underlying202 Tryz.type202 ?_;refine kC Tryz.underlying203 Tryz.type203 ?_;refine kC Tryz.underlying205 Tryz.type205 ?_;refine kC Tryz.underlying218 Tryz.type218 ?_;refine kC Tryz.underlying231 Tryz.type231 ?_;refine kC Tryz.underlying248 Tryz.type248 ?_;refine kC Tryz.underlying261 Tryz.type261 ?_;refine kC Tryz.underlying268 Tryz.type268 ?_;refine kC Tryz.underlying275 Tryz.type275 ?_;refine kC Tryz.underlying277 Tryz.type277 ?_;refine kC Tryz.underlying319 Tryz.type319 ?_;refine kC Tryz.underlying323 Tryz.type323 ?_
 refine kC Tryz.underlying347 Tryz.type347 ?_;refine kC Tryz.underlying353 Tryz.type353 ?_;intro e h; cases h
def bu0 : List GE := [{ g := 0, x := .agg [.int 0, .int 1] }]
def bu1 (w : World) (F : Nat → Prop) : Prop := (F 2 ∧ Lib.TabIs Tryz.prog w "internal/strconv.uint64pow10" .u64 Lib.pow10Tab) ∧ (F 1 ∧ ∃ m : Int, w.cell? ⟨1, 0, none⟩ = some (.int .i64 m))
theorem bu2 : ∀ (w w' : World) (F F' : Nat → Prop), (∀ b, F b → F' b) → (∀ b, F b → w'.heap[b]? = w.heap[b]?) → bu1 w F → bu1 w' F' := by
 rintro w w' F F' hF hw ⟨h1, h2⟩;refine ⟨?_, ?_⟩
 ·obtain ⟨a, b⟩ := h1;have hg : Program.globalNamed Tryz.prog "internal/strconv.uint64pow10" = some 2 := by kernel_rfl
  refine ⟨hF _ a, ?_⟩;unfold Lib.TabIs World.var? at b ⊢;rw [hg] at b ⊢;simp only [Option.bind_some] at b ⊢;rw [hw _ a];exact b
 ·obtain ⟨a, m, b⟩ := h2;exact ⟨hF _ a, m, by rw [World.cell?_of_block (hw _ a)]; exact b⟩
theorem seatM : Tryz.prog.follows .mixedOrders = true := by kernel_rfl
noncomputable def E : Env := { P := Tryz.prog, T := bt8, G := bu0, hT := bt9, hM := seatM, I := bu1, hI := bu2 }
theorem b2 : an2 E 2 := Tryz.call2
theorem b3 : an2 E 3 := Tryz.call3
theorem b4 : an2 E 4 := Tryz.call4
theorem b5 : an2 E 5 := Tryz.call5
theorem b6 : an2 E 6 := Tryz.call6
theorem b8 : an2 E 8 := Tryz.call8
theorem b9 : an2 E 9 := Tryz.call9
theorem b11 : an2 E 11 := Tryz.call11
theorem b19 : an2 E 19 := Tryz.call19
theorem b20 : an2 E 20 := Tryz.call20
theorem b21 : an2 E 21 := Tryz.call21
theorem b23 : an2 E 23 := Tryz.call23
theorem b25 : an2 E 25 := Tryz.call25
theorem b26 : an2 E 26 := Tryz.call26
theorem b27 : an2 E 27 := Tryz.call27
theorem b28 : an2 E 28 := Tryz.call28
theorem b30 : an2 E 30 := Tryz.call30
theorem b31 : an2 E 31 := Tryz.call31
theorem b32 : an2 E 32 := Tryz.call32
theorem b33 : an2 E 33 := Tryz.call33
theorem b38 : an2 E 38 := Tryz.call38
theorem b41 : an2 E 41 := Tryz.call41
theorem b43 : an2 E 43 := Tryz.call43
theorem b52 : an2 E 52 := Tryz.call52
theorem b53 : an2 E 53 := Tryz.call53
theorem b54 : an2 E 54 := Tryz.call54
theorem b55 : an2 E 55 := Tryz.call55
theorem b56 : an2 E 56 := Tryz.call56
theorem b57 : an2 E 57 := Tryz.call57
theorem b58 : an2 E 58 := Tryz.call58
theorem b59 : an2 E 59 := Tryz.call59
theorem b60 : an2 E 60 := Tryz.call60
theorem b61 : an2 E 61 := Tryz.call61
theorem b62 : an2 E 62 := Tryz.call62
theorem b63 : an2 E 63 := Tryz.call63
theorem b65 : an2 E 65 := Tryz.call65
theorem b66 : an2 E 66 := Tryz.call66
theorem b68 : an2 E 68 := Tryz.call68
theorem b69 : an2 E 69 := Tryz.call69
theorem b74 : an2 E 74 := Tryz.call74
theorem b75 : an2 E 75 := Tryz.call75
theorem b76 : an2 E 76 := Tryz.call76
theorem b77 : an2 E 77 := Tryz.call77
theorem b78 : an2 E 78 := Tryz.call78
theorem b79 : an2 E 79 := Tryz.call79
theorem b81 : an2 E 81 := Tryz.call81
theorem b82 : an2 E 82 := Tryz.call82
theorem b83 : an2 E 83 := Tryz.call83
theorem b84 : an2 E 84 := Tryz.call84
theorem b85 : an2 E 85 := Tryz.call85
theorem b86 : an2 E 86 := Tryz.call86
theorem b87 : an2 E 87 := Tryz.call87
theorem b88 : an2 E 88 := Tryz.call88
theorem b89 : an2 E 89 := Tryz.call89
theorem b90 : an2 E 90 := Tryz.call90
theorem b91 : an2 E 91 := Tryz.call91
theorem b92 : an2 E 92 := Tryz.call92
theorem b93 : an2 E 93 := Tryz.call93
theorem b94 : an2 E 94 := Tryz.call94
theorem b95 : an2 E 95 := Tryz.call95
theorem b96 : an2 E 96 := Tryz.call96
theorem b97 : an2 E 97 := Tryz.call97
theorem b98 : an2 E 98 := Tryz.call98
theorem b99 : an2 E 99 := Tryz.call99
theorem b100 : an2 E 100 := Tryz.call100
theorem b101 : an2 E 101 := Tryz.call101
theorem b103 : an2 E 103 := Tryz.call103
theorem b104 : an2 E 104 := Tryz.call104
theorem b116 : an2 E 116 := Tryz.call116
theorem bu3 : an2 E 117 := Tryz.call117
theorem b120 : an2 E 120 := Tryz.call120
theorem b121 : an2 E 121 := Tryz.call121
theorem bu4 : an2 E 122 := Tryz.call122
theorem b124 : an2 E 124 := Tryz.call124
theorem bu5 : an2 E 132 := Tryz.call132
theorem bu6 : an2 E 138 := Tryz.call138
theorem b139 : an2 E 139 := Tryz.call139
theorem b140 : an2 E 140 := Tryz.call140
theorem b141 : an2 E 141 := Tryz.call141
theorem b142 : an2 E 142 := Tryz.call142
theorem bu7 : an2 E 143 := Tryz.call143
theorem b144 : an2 E 144 := Tryz.call144
theorem bu8 : an2 E 145 := Tryz.call145
theorem bu9 : an2 E 146 := Tryz.call146
theorem b147 : an2 E 147 := Tryz.call147
theorem b148 : an2 E 148 := Tryz.call148
theorem bv0 : an2 E 149 := Tryz.call149
theorem b150 : an2 E 150 := Tryz.call150
theorem bv1 : an2 E 151 := Tryz.call151
theorem b152 : an2 E 152 := Tryz.call152
theorem b153 : an2 E 153 := Tryz.call153
theorem b154 : an2 E 154 := Tryz.call154
theorem b155 : an2 E 155 := Tryz.call155
theorem b158 : an2 E 158 := Tryz.call158
theorem b159 : an2 E 159 := Tryz.call159
theorem b160 : an2 E 160 := Tryz.call160
theorem b161 : an2 E 161 := Tryz.call161
theorem b162 : an2 E 162 := Tryz.call162
theorem b171 : an2 E 171 := Tryz.call171
theorem b172 : an2 E 172 := Tryz.call172
theorem b173 : an2 E 173 := Tryz.call173
theorem b174 : an2 E 174 := Tryz.call174
theorem b175 : an2 E 175 := Tryz.call175
theorem b176 : an2 E 176 := Tryz.call176
theorem b177 : an2 E 177 := Tryz.call177
theorem b178 : an2 E 178 := Tryz.call178
theorem bv2 : an2 E 179 := Tryz.call179
theorem bv3 : an2 E 180 := Tryz.call180
theorem bv4 : an2 E 196 := Tryz.call196
theorem b197 : an2 E 197 := Tryz.call197
theorem b198 : an2 E 198 := Tryz.call198
theorem bv5 : an2 E 199 := Tryz.call199
theorem b200 : an2 E 200 := Tryz.call200
theorem b201 : an2 E 201 := Tryz.call201
theorem b202 : an2 E 202 := Tryz.call202
theorem b212 : an2 E 212 := Tryz.call212
theorem bv6 : an2 E 213 := Tryz.call213
theorem b214 : an2 E 214 := Tryz.call214
theorem b215 : an2 E 215 := Tryz.call215
theorem bv7 : an2 E 216 := Tryz.call216
theorem b227 : an2 E 227 := Tryz.call227
theorem b229 : an2 E 229 := Tryz.call229
theorem b230 : an2 E 230 := Tryz.call230
theorem bv8 : an2 E 231 := Tryz.call231
theorem b232 : an2 E 232 := Tryz.call232
theorem b233 : an2 E 233 := Tryz.call233
theorem b234 : an2 E 234 := Tryz.call234
theorem b235 : an2 E 235 := Tryz.call235
theorem b236 : an2 E 236 := Tryz.call236
theorem b237 : an2 E 237 := Tryz.call237
theorem b238 : an2 E 238 := Tryz.call238
theorem b239 : an2 E 239 := Tryz.call239
theorem b240 : an2 E 240 := Tryz.call240
theorem bv9 : an2 E 252 := Tryz.call252
theorem b255 : an2 E 255 := Tryz.call255
theorem b256 : an2 E 256 := Tryz.call256
theorem b257 : an2 E 257 := Tryz.call257
theorem b258 : an2 E 258 := Tryz.call258
theorem b259 : an2 E 259 := Tryz.call259
theorem b260 : an2 E 260 := Tryz.call260
theorem b261 : an2 E 261 := Tryz.call261
theorem bw0 : an2 E 268 := Tryz.call268
theorem b269 : an2 E 269 := Tryz.call269
theorem b270 : an2 E 270 := Tryz.call270
theorem b271 : an2 E 271 := Tryz.call271
theorem b272 : an2 E 272 := Tryz.call272
theorem b273 : an2 E 273 := Tryz.call273
theorem b274 : an2 E 274 := Tryz.call274
theorem b275 : an2 E 275 := Tryz.call275
theorem b306 : an2 E 306 := Tryz.call306
theorem bw1 : an2 E 307 := Tryz.call307
theorem bw2 : an2 E 308 := Tryz.call308
theorem bw3 : an2 E 309 := Tryz.call309
theorem b310 : an2 E 310 := Tryz.call310
theorem b311 : an2 E 311 := Tryz.call311
theorem b312 : an2 E 312 := Tryz.call312
theorem b313 : an2 E 313 := Tryz.call313
theorem b314 : an2 E 314 := Tryz.call314
theorem b325 : an2 E 325 := Tryz.call325
theorem b326 : an2 E 326 := Tryz.call326
theorem b327 : an2 E 327 := Tryz.call327
theorem bw4 : an2 E 338 := Tryz.call338
theorem b339 : an2 E 339 := Tryz.call339
theorem b340 : an2 E 340 := Tryz.call340
theorem b341 : an2 E 341 := Tryz.call341
theorem b342 : an2 E 342 := Tryz.call342
theorem b343 : an2 E 343 := Tryz.call343
theorem b344 : an2 E 344 := Tryz.call344
theorem bw5 : an2 E 345 := Tryz.call345
theorem b346 : an2 E 346 := Tryz.call346
theorem bw6 : an2 E 366 := Tryz.call366
theorem b367 : an2 E 367 := Tryz.call367
theorem b368 : an2 E 368 := Tryz.call368
theorem b370 : an2 E 370 := Tryz.call370
theorem b371 : an2 E 371 := Tryz.call371
theorem b372 : an2 E 372 := Tryz.call372
theorem b373 : an2 E 373 := Tryz.call373
theorem b374 : an2 E 374 := Tryz.call374
theorem b391 : an2 E 391 := Tryz.call391
theorem b393 : an2 E 393 := Tryz.call393
theorem b394 : an2 E 394 := Tryz.call394
theorem b396 : an2 E 396 := Tryz.call396
theorem b407 : an2 E 407 := Tryz.call407
end Go.Proofs.YtenpjlghikohmaaGreatDoor
