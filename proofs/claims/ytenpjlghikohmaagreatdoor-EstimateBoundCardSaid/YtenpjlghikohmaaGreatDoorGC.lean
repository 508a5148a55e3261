/- The walk through a region whose order is drawn and that holds several effects; Calls that are handed objects: data handed back; such calls in a region whose order is drawn; A row that grew out of nil, given up as data; Laws whose statement bears a bound on how much is read; Short names for the steps of a walk whose premises say themselves; In a region whose order is drawn: a literal of a slice as a row of the call's own, and an append whose row is given up as data at once; Drawn regions in which one operation calls a function that is handed objects and leaves them as they are; shifts, masks an. Conditions: each part's own, as it says. -/
import Derived.Test.YtenpjlghikohmaaGreatDoorGB
import Derived.Deep.DeepHandedRow
import Derived.Scope
import Derived.Test.YtenpjlghikohmaaGreatDoorGA
import Derived.Test.YtenpjlghikohmaaGreatDoorProg
import Derived.KernelRfl
import Derived.Lib.LaidTab
import Derived.Shelf.Strconv.Itoa3
set_option linter.unusedVariables false
set_option linter.unusedSimpArgs false
namespace Go.Abs
open Go Go.RowKit
structure Wk (wob ob : List AObj) : Prop where
 len : wob.length ≤ ob.length
 get : ∀ (i : Nat) x, wob[i]? = some x → x.live = true → ob[i]? = some x ∧ x.below wob.length = true
def wkP (n : Nat) : List AObj → List AObj → Prop
 | [], _ => True
 | .dead :: r, _ :: q => True ∧ wkP n r q
 | _ :: _, [] => False
 | x :: r, y :: q => (x = y ∧ x.below n = true) ∧ wkP n r q
theorem wkP_ok {n : Nat} : ∀ {wob ob : List AObj}, wkP n wob ob → wob.length ≤ ob.length ∧ ∀ (i : Nat) x, wob[i]? = some x → x.live = true → ob[i]? = some x ∧ x.below n = true
 | [], _, _ => ⟨Nat.zero_le _, fun i x h => by simp at h⟩
 | x :: r, [], h => by cases x <;> simp [wkP] at h
 | x :: r, y :: q, h => by
  have key : (x.live = true → x = y ∧ x.below n = true) ∧ wkP n r q := by
   cases x with
   | dead => exact ⟨fun hl => by simp [AObj.live] at hl, h.2⟩
   | _ => exact ⟨fun _ => h.1, h.2⟩
  obtain ⟨h1, h2⟩ := wkP_ok key.2
  refine ⟨by simpa using h1, fun i z hz hl => ?_⟩
  cases i with
  | zero =>
   simp at hz
   subst hz
   obtain ⟨rfl, h4⟩ := key.1 hl
   exact ⟨rfl, h4⟩
  | succ i => exact h2 i z (by simpa using hz) hl
theorem Wk.mk' {wob ob : List AObj} (h : wkP wob.length wob ob) : Wk wob ob := ⟨(wkP_ok h).1, (wkP_ok h).2⟩
theorem WInv.wk {E : Env} {B : Base} {F : Nat → Prop} {σ : Sg} {ob wob : List AObj} {w : World} (h : WInv E B F σ ob w) (hw : Wk wob ob) (hn : B.n0 ≤ wob.length) : WInv E B F (σ.take wob.length) wob w := by
 have hlen := h.len
 have hl := hw.len
 have hget : ∀ (o : Nat) p, (σ.take wob.length)[o]? = some p → σ[o]? = some p := by
  intro o p hp
  rw [List.getElem?_take] at hp
  split at hp
  ·exact hp
  ·cases hp
 refine ⟨h.flt, h.glob, by rw [List.length_take]; omega, fun o x p hx hp => ?_, fun o o' x x' p p' hne hx hlx hx' hlx' hp hp' => ?_, fun i p hi hp => ?_⟩
 ·cases hlv : x.live with
  | false => cases x <;> simp [AObj.live] at hlv <;> trivial
  | true => exact (h.obs o x p (hw.get o x hx hlv).1 (hget o p hp)).take (hw.get o x hx hlv).2
 ·exact h.inj o o' x x' p p' hne (hw.get o x hx hlx).1 hlx (hw.get o' x' hx' hlx').1 hlx' (hget o p hp) (hget o' p' hp')
 ·rw [List.getElem?_take, if_pos (by omega)]
  exact h.pre i p hi hp
theorem St.ev_below {E : Env} {tm : List (Nat × X)} {ob : List AObj} {n : Nat} (h : ∀ t, (lk tm t).below n = true) (z : Operand) : ((⟨tm, ob⟩ : St).ev E z).below n = true := by
 cases z with
 | tmp t => exact h t
 | const v =>
  show (ofConst v).below n = true
  unfold ofConst
  split
  ·rfl
  ·cases okV v <;> rfl
 | global g =>
  show (findG E.G g).below n = true
  have : ∀ l : List GE, (findG l g).below n = true := by
   intro l
   induction l with
   | nil => rfl
   | cons a r ih =>
    simp only [findG]
    cases Nat.beq a.g g
    ·exact ih
    ·rfl
  exact this _
 | func f => rfl
theorem VOp.wk {C : Cx} {tm : List (Nat × X)} {ob wob : List AObj} {o : Oper} {x : X} (h : VOp C ⟨tm, wob⟩ o x) (hw : Wk wob ob) (hn : C.base.n0 ≤ wob.length) (hb : ∀ t, (lk tm t).below wob.length = true) : VOp C ⟨tm, ob⟩ o x := by
 intro F σ w a K Q hi hr hK
 refine h F (σ.take wob.length) w a K Q (hi.wk hw hn) (fun y hy => ?_) fun v w' F' he hv => hK v w' F' he ?_
 ·have := hr y hy
  exact RdX.take (n := wob.length) this (St.ev_below (ob := ob) hb y)
 ·refine hv.mono (fun _ h => h) (fun _ _ => rfl) fun o p hp => ?_
  rw [List.getElem?_take] at hp
  split at hp
  ·exact hp
  ·cases hp
def fixedB (A E : List Nat) (i : Nat) : Bool := E.all fun e => Nat.beq e i || (bif Nat.blt e i then aheadB A e i else aheadB A i e)
def FixedP (l : List Oper) (E : List Nat) (i : Nat) : Prop := ∀ e, E.contains e = true → (e < i → Ahead l e i) ∧ (i < e → Ahead l i e)
theorem fixedB_ok {l : List Oper} {E : List Nat} {i : Nat} (h : fixedB (ancs l) E i = true) : FixedP l E i := by
 intro e he
 have h1 := List.all_eq_true.1 h e (by simpa using he)
 refine ⟨fun hlt => ?_, fun hlt => ?_⟩
 ·have e1 : Nat.beq e i = false := by rw [← Bool.not_eq_true]; intro hb; have := Nat.eq_of_beq_eq_true hb; omega
  have e2 : Nat.blt e i = true := by simpa using hlt
  rw [e1, e2] at h1
  exact ancs_spec (by simpa using h1)
 ·have e1 : Nat.beq e i = false := by rw [← Bool.not_eq_true]; intro hb; have := Nat.eq_of_beq_eq_true hb; omega
  have e2 : Nat.blt e i = false := by rw [← Bool.not_eq_true]; simp; omega
  rw [e1, e2] at h1
  exact ancs_spec (by simpa using h1)
def chainB (A E : List Nat) : Bool := E.all fun e => fixedB A E e
inductive RD (C : Cx) (l : List Oper) (E : List Nat) (wob : List AObj) : Nat → List Oper → St → St → Prop
 | nil (i : Nat) (s : St) : RD C l E wob i [] s s
 | same {i : Nat} {ops : List Oper} {s s1 s' : St} (hs : StEq s s1) (h : RD C l E wob i ops s1 s') : RD C l E wob i ops s s'
 | fix {i : Nat} {o : Oper} {rest : List Oper} {s s' : St} {x : X} (hg : GuardIs l.toArray s o true) (hd : dstOK C o = true) (hne : E.contains i = false) (hf : FixedP l E i) (hv : VOp C s o x) (h : RD C l E wob (i + 1) rest (s.put o.dst x) s') : RD C l E wob i (o :: rest) s s'
 | skip {i : Nat} {o : Oper} {rest : List Oper} {s s' : St} (hg : GuardIs l.toArray s o false) (hd : dstOK C o = true) (hne : E.contains i = false) (h : RD C l E wob (i + 1) rest (s.put o.dst .und) s') : RD C l E wob i (o :: rest) s s'
 | weak {i : Nat} {o : Oper} {rest : List Oper} {s s' : St} {x : X} (hg : GuardIs l.toArray s o true) (hd : dstOK C o = true) (hne : E.contains i = false) (hv : VOp C ⟨s.tm, wob⟩ o x) (hb : ∀ t, (lk s.tm t).below wob.length = true) (h : RD C l E wob (i + 1) rest (s.put o.dst x) s') : RD C l E wob i (o :: rest) s s'
 | eff {i : Nat} {o : Oper} {rest : List Oper} {s s' : St} {x : X} {ob' : List AObj} (hg : GuardIs l.toArray s o true) (hd : dstOK C o = true) (hne : E.contains i = true) (hv : EOp C s o x ob') (hw : Wk wob ob') (h : RD C l E wob (i + 1) rest ((⟨s.tm, ob'⟩ : St).put o.dst x) s') : RD C l E wob i (o :: rest) s s'
theorem stps_tm : ∀ (xs : List (Oper × Option X)) (s s2 : St), (∀ t, lk s.tm t = lk s2.tm t) → ∀ t, lk (stps s xs).tm t = lk (stps s2 xs).tm t
 | [], _, _, h => h
 | (o, x) :: r, s, s2, h => by
  refine stps_tm r _ _ fun t => ?_
  cases o.dst with
  | none => exact h t
  | some d =>
   simp only [St.put, lk]
   cases Nat.beq d t
   ·exact h t
   ·rfl
theorem VOp.look {C : Cx} {tm tm' : List (Nat × X)} {ob : List AObj} {o : Oper} {x : X} (h : VOp C ⟨tm, ob⟩ o x) (he : ∀ t, lk tm' t = lk tm t) : VOp C ⟨tm', ob⟩ o x :=
 StEq.vop (s := ⟨tm, ob⟩) (s' := ⟨tm', ob⟩) ⟨he, rfl⟩ h
theorem EOp.look {C : Cx} {tm tm' : List (Nat × X)} {ob ob' : List AObj} {o : Oper} {x : X} (h : EOp C ⟨tm, ob⟩ o x ob') (he : ∀ t, lk tm' t = lk tm t) : EOp C ⟨tm', ob⟩ o x ob' := by
 intro t2 h2
 refine h t2 fun z hz => (h2 z hz).trans ?_
 cases z with
 | tmp t => exact he t
 | _ => rfl
theorem GuardIs.look {all : Array Oper} {s s' : St} {o : Oper} {b : Bool} (h : GuardIs all s o b) (he : ∀ t, lk s'.tm t = lk s.tm t) : GuardIs all s' o b := by
 unfold GuardIs at *
 cases hgd : o.guard with
 | none => rw [hgd] at h; exact h
 | some jp =>
  rw [hgd] at h
  obtain ⟨t, h1, h2⟩ := h
  exact ⟨t, h1, by rw [he]; exact h2⟩
theorem RD.data {C : Cx} {l : List Oper} {E : List Nat} {wob : List AObj} {i : Nat} {ops : List Oper} {s s' : St} (h : RD C l E wob i ops s s') (hw0 : Wk wob s.ob) :
  ∃ (xs : List (Oper × Option X)) (obT : Nat → List AObj), xs.map (·.1) = ops ∧ obT 0 = s.ob ∧ obT ops.length = s'.ob ∧ (∀ t, lk (stps s xs).tm t = lk s'.tm t) ∧ (∀ j, j ≤ ops.length → Wk wob (obT j)) ∧
   ∀ (j : Nat) o x, xs[j]? = some (o, x) → dstOK C o = true ∧ GuardIs l.toArray (stps s (xs.take j)) o x.isSome ∧
    (E.contains (i + j) = true → ∃ y, x = some y ∧ EOp C ⟨(stps s (xs.take j)).tm, obT j⟩ o y (obT (j + 1))) ∧
    (E.contains (i + j) = false → obT (j + 1) = obT j ∧ ∀ y, x = some y → (FixedP l E (i + j) ∧ VOp C ⟨(stps s (xs.take j)).tm, obT j⟩ o y) ∨ (VOp C ⟨(stps s (xs.take j)).tm, wob⟩ o y ∧ ∀ t, (lk (stps s (xs.take j)).tm t).below wob.length = true)) := by
 induction h with
 | nil i s => exact ⟨[], fun _ => s.ob, rfl, rfl, rfl, fun _ => rfl, fun _ _ => hw0, fun j o x h => by simp at h⟩
 | @same i ops s s1 s' hs hh ih =>
  obtain ⟨xs, obT, h1, h2, h3, h4, h5, h6⟩ := ih (by rw [hs.2]; exact hw0)
  have hst : ∀ ys t, lk (stps s ys).tm t = lk (stps s1 ys).tm t := fun ys => stps_tm ys s s1 fun t => (hs.1 t).symm
  refine ⟨xs, obT, h1, h2.trans hs.2, h3, fun t => (hst xs t).trans (h4 t), h5, fun j o x hj => ?_⟩
  obtain ⟨a1, a2, a3, a4⟩ := h6 j o x hj
  refine ⟨a1, a2.look (hst _), fun he => ?_, fun he => ⟨(a4 he).1, fun y hy => ?_⟩⟩
  ·obtain ⟨y, hy, hv⟩ := a3 he
   exact ⟨y, hy, hv.look (hst _)⟩
  ·rcases (a4 he).2 y hy with ⟨b1, b2⟩ | ⟨b1, b2⟩
   ·exact .inl ⟨b1, b2.look (hst _)⟩
   ·exact .inr ⟨b1.look (hst _), fun t => by rw [hst]; exact b2 t⟩
 | @fix i o rest s s' x hg hd hne hf hv hh ih =>
  obtain ⟨xs, obT, h1, h2, h3, h4, h5, h6⟩ := ih (by rw [St.put_ob]; exact hw0)
  rw [St.put_ob] at h2
  refine ⟨(o, some x) :: xs, fun j => match j with | 0 => s.ob | j + 1 => obT j, by simp [h1], rfl, h3, h4, fun j hj => ?_, fun j o' x' hj => ?_⟩
  ·cases j with
   | zero => exact hw0
   | succ j => exact h5 j (by simpa using hj)
  ·cases j with
   | zero =>
    simp at hj
    obtain ⟨rfl, rfl⟩ := hj
    refine ⟨hd, hg, fun he => ?_, fun _ => ⟨h2, fun y hy => ?_⟩⟩
    ·rw [Nat.add_zero, hne] at he; cases he
    ·cases hy; exact .inl ⟨hf, hv⟩
   | succ j =>
    have := h6 j o' x' (by simpa using hj)
    rw [show i + 1 + j = i + (j + 1) by omega] at this
    exact this
 | @skip i o rest s s' hg hd hne hh ih =>
  obtain ⟨xs, obT, h1, h2, h3, h4, h5, h6⟩ := ih (by rw [St.put_ob]; exact hw0)
  rw [St.put_ob] at h2
  refine ⟨(o, none) :: xs, fun j => match j with | 0 => s.ob | j + 1 => obT j, by simp [h1], rfl, h3, h4, fun j hj => ?_, fun j o' x' hj => ?_⟩
  ·cases j with
   | zero => exact hw0
   | succ j => exact h5 j (by simpa using hj)
  ·cases j with
   | zero =>
    simp at hj
    obtain ⟨rfl, rfl⟩ := hj
    refine ⟨hd, hg, fun he => ?_, fun _ => ⟨h2, fun y hy => ?_⟩⟩
    ·rw [Nat.add_zero, hne] at he; cases he
    ·cases hy
   | succ j =>
    have := h6 j o' x' (by simpa using hj)
    rw [show i + 1 + j = i + (j + 1) by omega] at this
    exact this
 | @weak i o rest s s' x hg hd hne hv hb hh ih =>
  obtain ⟨xs, obT, h1, h2, h3, h4, h5, h6⟩ := ih (by rw [St.put_ob]; exact hw0)
  rw [St.put_ob] at h2
  refine ⟨(o, some x) :: xs, fun j => match j with | 0 => s.ob | j + 1 => obT j, by simp [h1], rfl, h3, h4, fun j hj => ?_, fun j o' x' hj => ?_⟩
  ·cases j with
   | zero => exact hw0
   | succ j => exact h5 j (by simpa using hj)
  ·cases j with
   | zero =>
    simp at hj
    obtain ⟨rfl, rfl⟩ := hj
    refine ⟨hd, hg, fun he => ?_, fun _ => ⟨h2, fun y hy => ?_⟩⟩
    ·rw [Nat.add_zero, hne] at he; cases he
    ·cases hy; exact .inr ⟨hv, hb⟩
   | succ j =>
    have := h6 j o' x' (by simpa using hj)
    rw [show i + 1 + j = i + (j + 1) by omega] at this
    exact this
 | @eff i o rest s s' x ob' hg hd hne hv hw hh ih =>
  obtain ⟨xs, obT, h1, h2, h3, h4, h5, h6⟩ := ih (by rw [St.put_ob]; exact hw)
  rw [St.put_ob] at h2
  have hst : ∀ ys t, lk (stps (s.put o.dst x) ys).tm t = lk (stps ((⟨s.tm, ob'⟩ : St).put o.dst x) ys).tm t := fun ys => stps_tm ys _ _ fun t => by cases o.dst <;> rfl
  refine ⟨(o, some x) :: xs, fun j => match j with | 0 => s.ob | j + 1 => obT j, by simp [h1], rfl, h3, fun t => (hst xs t).trans (h4 t), fun j hj => ?_, fun j o' x' hj => ?_⟩
  ·cases j with
   | zero => exact hw0
   | succ j => exact h5 j (by simpa using hj)
  ·cases j with
   | zero =>
    simp at hj
    obtain ⟨rfl, rfl⟩ := hj
    refine ⟨hd, hg, fun he => ⟨x, rfl, ?_⟩, fun he => ?_⟩
    ·show EOp C ⟨s.tm, s.ob⟩ o x (obT 0)
     rw [h2]; exact hv
    ·rw [Nat.add_zero, hne] at he; cases he
   | succ j =>
    obtain ⟨a1, a2, a3, a4⟩ := h6 j o' x' (by simpa using hj)
    rw [show i + 1 + j = i + (j + 1) by omega] at a3 a4
    refine ⟨a1, a2.look (hst _), fun he => ?_, fun he => ⟨(a4 he).1, fun y hy => ?_⟩⟩
    ·obtain ⟨y, hy, hv'⟩ := a3 he
     exact ⟨y, hy, hv'.look (hst _)⟩
    ·rcases (a4 he).2 y hy with ⟨b1, b2⟩ | ⟨b1, b2⟩
     ·exact .inl ⟨b1, b2.look (hst _)⟩
     ·exact .inr ⟨b1.look (hst _), fun t => by
       have := b2 t
       rw [← hst] at this
       exact this⟩
def RGo (C : Cx) (_id : Nat) (l : List Oper) (E : List Nat) (wob : List AObj) (i : Nat) (ops : List Oper) (s : St) (K : St → Prop) : Prop := ∃ s', RD C l E wob i ops s s' ∧ K s'
theorem SD.obEq {C : Cx} {all : Array Oper} {ops : List Oper} {s s' : St} (h : SD C all true ops s s') : s'.ob = s.ob := by
 obtain ⟨xs, _, h2, _⟩ := h.data
 rw [h2.2, stps_ob]
theorem RD.of_fix_ {C : Cx} {l : List Oper} {E : List Nat} {wob : List AObj} {rest : List Oper} {s' : St} {pu : Bool} {ops : List Oper} {s s1 : St} (h : SD C l.toArray pu ops s s1) : pu = true → ∀ {i : Nat}, (∀ j, j < ops.length → E.contains (i + j) = false ∧ FixedP l E (i + j)) → RD C l E wob (i + ops.length) rest s1 s' → RD C l E wob i (ops ++ rest) s s' := by
 induction h with
 | nil s => exact fun _ _ _ hr => hr
 | @vop o r s s1 x hg hd hv hh ih =>
  intro hpu i hf hr
  refine .fix hg hd (hf 0 (by simp)).1 (hf 0 (by simp)).2 hv (ih hpu (i := i + 1) (fun j hj => ?_) ?_)
  ·rw [show i + 1 + j = i + (j + 1) by omega]; exact hf (j + 1) (by simpa using hj)
  ·rw [show i + 1 + r.length = i + (o :: r).length by simp; omega]; exact hr
 | @skip o r s s1 hg hd hh ih =>
  intro hpu i hf hr
  refine .skip hg hd (hf 0 (by simp)).1 (ih hpu (i := i + 1) (fun j hj => ?_) ?_)
  ·rw [show i + 1 + j = i + (j + 1) by omega]; exact hf (j + 1) (by simpa using hj)
  ·rw [show i + 1 + r.length = i + (o :: r).length by simp; omega]; exact hr
 | eff hp => intro hpu; rw [hpu] at hp; cases hp
 | ghost hp => intro hpu; rw [hpu] at hp; cases hp
 | same hs hh ih => exact fun hpu _ hf hr => .same hs (ih hpu hf hr)
theorem RD.of_fix {C : Cx} {l : List Oper} {E : List Nat} {wob : List AObj} {ops rest : List Oper} {s s1 s' : St} (h : SD C l.toArray true ops s s1) {i : Nat} (hf : ∀ j, j < ops.length → E.contains (i + j) = false ∧ FixedP l E (i + j)) (hr : RD C l E wob (i + ops.length) rest s1 s') : RD C l E wob i (ops ++ rest) s s' :=
 RD.of_fix_ h rfl hf hr
theorem SD.keep {C : Cx} {all : Array Oper} {ops : List Oper} {s s' : St} (h : SD C all true ops s s') {t : Nat} (ht : ∀ o ∈ ops, o.dst ≠ some t) : lk s'.tm t = lk s.tm t := by
 obtain ⟨xs, h1, h2, _⟩ := h.data
 rw [h2.1, lk_stps_other s xs t fun p hp => ht p.1 (by rw [← h1]; exact List.mem_map_of_mem hp)]
def dstND : List Oper → Bool
 | [] => true
 | o :: r => (match o.dst with
  | some d => r.all fun p => match p.dst with | some d' => !Nat.beq d d' | none => true
  | none => true) && dstND r
theorem RD.of_weak_ {C : Cx} {l : List Oper} {E : List Nat} {wob ob : List AObj} {rest : List Oper} {s' : St} {pu : Bool} {ops : List Oper} {s0 s1 : St} (h : SD C l.toArray pu ops s0 s1) : pu = true → dstND ops = true → (∀ t, (lk s1.tm t).below wob.length = true) → s0.ob = wob →
  ∀ {i : Nat}, (∀ t, (lk s0.tm t).below wob.length = true) → (∀ j, j < ops.length → E.contains (i + j) = false) → RD C l E wob (i + ops.length) rest ⟨s1.tm, ob⟩ s' → RD C l E wob i (ops ++ rest) ⟨s0.tm, ob⟩ s' := by
 induction h with
 | nil s => exact fun _ _ _ _ _ _ _ hr => hr
 | @vop o r s s1 x hg hd hv hh ih =>
  intro hpu hnd hb1 hob i hb hf hr
  simp only [dstND, Bool.and_eq_true] at hnd
  have hx : ∀ d, o.dst = some d → x.below wob.length = true := by
   intro d hdd
   have := hb1 d
   subst hpu
   rw [hh.keep (t := d) fun p hp hpd => by
    have h1 := hnd.1
    rw [hdd] at h1
    have h2 := List.all_eq_true.1 h1 p hp
    rw [hpd] at h2
    simp at h2] at this
   rwa [hdd, lk_put_same] at this
  have e : (⟨s.tm, ob⟩ : St).put o.dst x = ⟨(s.put o.dst x).tm, ob⟩ := by cases o.dst <;> rfl
  refine .weak (GuardIs.look hg fun _ => rfl) hd (hf 0 (by simp)) (by rw [← hob]; exact hv) hb ?_
  rw [e]
  refine ih hpu hnd.2 hb1 (by rw [St.put_ob]; exact hob) (i := i + 1) (fun t => ?_) (fun j hj => ?_) ?_
  ·cases hdd : o.dst with
   | none => exact hb t
   | some d =>
    simp only [St.put, lk]
    cases Nat.beq d t
    ·exact hb t
    ·exact hx d hdd
  ·rw [show i + 1 + j = i + (j + 1) by omega]; exact hf (j + 1) (by simpa using hj)
  ·rw [show i + 1 + r.length = i + (o :: r).length by simp; omega]; exact hr
 | @skip o r s s1 hg hd hh ih =>
  intro hpu hnd hb1 hob i hb hf hr
  simp only [dstND, Bool.and_eq_true] at hnd
  have e : (⟨s.tm, ob⟩ : St).put o.dst .und = ⟨(s.put o.dst .und).tm, ob⟩ := by cases o.dst <;> rfl
  refine .skip (GuardIs.look hg fun _ => rfl) hd (hf 0 (by simp)) ?_
  rw [e]
  refine ih hpu hnd.2 hb1 (by rw [St.put_ob]; exact hob) (i := i + 1) (fun t => ?_) (fun j hj => ?_) ?_
  ·cases hdd : o.dst with
   | none => exact hb t
   | some d =>
    simp only [St.put, lk]
    cases Nat.beq d t
    ·exact hb t
    ·rfl
  ·rw [show i + 1 + j = i + (j + 1) by omega]; exact hf (j + 1) (by simpa using hj)
  ·rw [show i + 1 + r.length = i + (o :: r).length by simp; omega]; exact hr
 | eff hp => intro hpu; rw [hpu] at hp; cases hp
 | ghost hp => intro hpu; rw [hpu] at hp; cases hp
 | @same ops s s2 s1 hs hh ih =>
  intro hpu hnd hb1 hob i hb hf hr
  exact .same (s1 := ⟨s2.tm, ob⟩) ⟨hs.1, rfl⟩ (ih hpu hnd hb1 (by rw [hs.2]; exact hob) (fun t => by rw [hs.1]; exact hb t) hf hr)
theorem RD.of_weak {C : Cx} {l : List Oper} {E : List Nat} {wob ob : List AObj} {ops rest : List Oper} {tm : List (Nat × X)} {s1 s' : St} (h : SD C l.toArray true ops ⟨tm, wob⟩ s1) (hnd : dstND ops = true) (hb1 : ∀ t, (lk s1.tm t).below wob.length = true)
  {i : Nat} (hb : ∀ t, (lk tm t).below wob.length = true) (hf : ∀ j, j < ops.length → E.contains (i + j) = false) (hr : RD C l E wob (i + ops.length) rest ⟨s1.tm, ob⟩ s') : RD C l E wob i (ops ++ rest) ⟨tm, ob⟩ s' :=
 RD.of_weak_ (s0 := ⟨tm, wob⟩) h rfl hnd hb1 rfl hb hf hr
def TmB (n : Nat) : List (Nat × X) → Prop
 | [] => True
 | (_, x) :: r => x.below n = true ∧ TmB n r
theorem TmB.lk {n : Nat} : ∀ {tm : List (Nat × X)}, TmB n tm → ∀ t, (lk tm t).below n = true
 | [], _, t => rfl
 | (k, x) :: r, h, t => by
  simp only [Go.Abs.lk]
  cases Nat.beq k t
  ·exact TmB.lk h.2 t
  ·exact h.1
def killT : List Nat → List AObj → List AObj
 | [], ob => ob
 | i :: r, ob => killT r (ob.set i .dead)
section
variable {C : Cx} {r : List It} {Q : Exit → St → Prop} {tm : List (Nat × X)} {ob : List AObj} {id : Nat} {l : List Oper} {E : List Nat} {wob : List AObj} {i : Nat} {ops : List Oper} {K : St → Prop}
theorem qR_ (wob : List AObj) (E : List Nat) (ho : ordOK l = true) (hE : chainB (ancs l) E = true) (hn : C.base.n0 ≤ wob.length) (hw : Wk wob ob)
  (h : RGo C id l E wob 0 l ⟨tm, ob⟩ (fun s' => go C r s' Q)) : go C (.code (.region id l.toArray true) :: r) ⟨tm, ob⟩ Q := by
 intro a w hr
 obtain ⟨s', h1, h2⟩ := h
 obtain ⟨xs, obT, e1, e2, e3, e4, e5, e6⟩ := h1.data hw
 have hlen : xs.length = l.length := by rw [← e1]; simp
 have hget : ∀ i, i < l.length → ∃ o x, xs[i]? = some (o, x) := fun i hi => by
  have : i < xs.length := by omega
  exact ⟨xs[i].1, xs[i].2, List.getElem?_eq_getElem this⟩
 have hfin : ∀ a w, C.Rel ⟨(stps ⟨tm, ob⟩ xs).tm, obT l.length⟩ a w → C.Rel s' a w := by
  intro a w hr
  rw [e3] at hr
  exact StEq.rel (s := ⟨(stps ⟨tm, ob⟩ xs).tm, s'.ob⟩) (s' := s') ⟨fun t => (e4 t).symm, rfl⟩ hr
 refine wp_region_any C.E.hM ?_
 refine Dr.all (s := ⟨tm, ob⟩) (xs := xs) (obT := obT) (eff := fun i => E.contains i) e1 (ordOK_spec ho) (fun i hi he => ?_) (fun i j hij hj h3 h4 => ?_) (fun i o x hi => ⟨(e6 i o x hi).1, (e6 i o x hi).2.1⟩) (fun i o x he hi y hy => ?_) (fun i o x he hi => ?_) (fun a w hr => ⟨s', hfin a w hr, h2⟩) _ _ _ _ ?_ ⟨by simp, fun j o' ed ho' hL => ?_, tm, 0, Nat.zero_le _, fun i hi => by omega, fun i _ hi _ => ?_, ?_, fun t _ => rfl, fun j o' x t hj hL => ?_⟩
 ·obtain ⟨o, x, hx⟩ := hget i hi
  exact ((e6 i o x hx).2.2.2 (by rw [Nat.zero_add]; exact he)).1
 ·exact (fixedB_ok (List.all_eq_true.1 hE j (by simpa using h4)) i h3).1 hij
 ·rcases ((e6 i o x hi).2.2.2 (by rw [Nat.zero_add]; exact he)).2 y hy with ⟨h3, h4⟩ | ⟨h3, h4⟩
  ·rw [Nat.zero_add] at h3
   exact .inl ⟨fun e _ he' => h3 e he', h4⟩
  ·exact .inr fun k hk => h3.wk (e5 k hk) hn h4
 ·exact (e6 i o x hi).2.2.1 (by rw [Nat.zero_add]; exact he)
 ·refine Nat.le_trans (List.length_filter_le _ _) ?_
  simp
 ·exfalso
  by_cases hlt : j < l.length <;> simp [hlt] at hL
 ·rw [Array.getD_eq_getD_getElem?, Array.getElem?_replicate]
  split <;> rfl
 ·rw [e2]
  obtain ⟨F, σ, r1, r2, r3, hi, r4, r5, hs⟩ := hr
  have hext : Ext w F { w with drawn := w.drawn + 1 } F := ⟨⟨rfl, rfl, rfl, Nat.le_refl _, fun _ _ => rfl⟩, fun _ h => h, fun _ h => .inl h, hi.flt⟩
  exact ⟨F, σ, r1.step hext.below, r2, r3, hi.ext hext, r4, r5, fun t => (hs t).ext hext hi.flt⟩
 ·exfalso
  by_cases hlt : j < l.length <;> simp [hlt] at hL
theorem qR (wob : List AObj) (E : List Nat) (T : List Nat) (ho : ordOK l = true) (hE : chainB (ancs l) E = true) (_hwob : killT T ob = wob) (hn : Nat.ble C.base.n0 wob.length = true) (hw : wkP wob.length wob ob)
  (h : RGo C id l E wob 0 l ⟨tm, ob⟩ (fun s' => go C r s' Q)) : go C (.code (.region id l.toArray true) :: r) ⟨tm, ob⟩ Q := qR_ wob E ho hE (Nat.le_of_ble_eq_true hn) (Wk.mk' hw) h
theorem qR0 (E : List Nat) (ho : ordOK l = true) (hE : chainB (ancs l) E = true) (hw : wkP (List.replicate C.base.n0 AObj.dead).length (List.replicate C.base.n0 AObj.dead) ob)
  (h : RGo C id l E (List.replicate C.base.n0 AObj.dead) 0 l ⟨tm, ob⟩ (fun s' => go C r s' Q)) : go C (.code (.region id l.toArray true) :: r) ⟨tm, ob⟩ Q := by
 have hn : C.base.n0 ≤ (List.replicate C.base.n0 AObj.dead).length := by simp
 intro a w hr
 obtain ⟨s', h1, h2⟩ := h
 refine qR_ _ E ho hE hn (Wk.mk' hw) ⟨s', h1, h2⟩ a w hr
theorem qRT (E T : List Nat) (ho : ordOK l = true) (hE : chainB (ancs l) E = true) (hn : Nat.ble C.base.n0 (killT T ob).length = true) (hw : wkP (killT T ob).length (killT T ob) ob)
  (h : RGo C id l E (killT T ob) 0 l ⟨tm, ob⟩ (fun s' => go C r s' Q)) : go C (.code (.region id l.toArray true) :: r) ⟨tm, ob⟩ Q := qR _ E T ho hE rfl hn hw h
theorem rgN (h : K ⟨tm, ob⟩) : RGo C id l E wob i [] ⟨tm, ob⟩ K := ⟨_, .nil _ _, h⟩
def rgFB (l : List Oper) (E : List Nat) (i n : Nat) : Bool := (List.range n).all fun j => fixedB (ancs l) E (i + j) && !E.contains (i + j)
def rgWB (E : List Nat) (i n : Nat) : Bool := (List.range n).all fun j => !E.contains (i + j)
theorem rgF (n : Nat) (hc : rgFB l E i n = true) (hn : Nat.ble n ops.length = true) (h : SGo C l.toArray true (ops.take n) ⟨tm, ob⟩ (fun s1 => RGo C id l E wob (i + n) (ops.drop n) ⟨s1.tm, ob⟩ K)) : RGo C id l E wob i ops ⟨tm, ob⟩ K := by
 obtain ⟨s1, h1, s', h2, h3⟩ := h
 have hlen : (ops.take n).length = n := by rw [List.length_take]; have := Nat.le_of_ble_eq_true hn; omega
 have e : s1 = ⟨s1.tm, ob⟩ := by have := h1.obEq; cases s1; simp at this; rw [this]
 refine ⟨s', ?_, h3⟩
 rw [← List.take_append_drop n ops]
 rw [← e] at h2
 refine RD.of_fix h1 (fun j hj => ?_) (by rw [hlen]; exact h2)
 have := List.all_eq_true.1 hc j (by rw [List.mem_range]; omega)
 rw [Bool.and_eq_true] at this
 exact ⟨by simpa using this.2, fixedB_ok this.1⟩
theorem rgW (n : Nat) (hc : rgWB E i n = true) (hn : Nat.ble n ops.length = true) (hnd : dstND (ops.take n) = true) (hb : TmB wob.length tm) (h : SGo C l.toArray true (ops.take n) ⟨tm, wob⟩ (fun s1 => TmB wob.length s1.tm ∧ RGo C id l E wob (i + n) (ops.drop n) ⟨s1.tm, ob⟩ K)) : RGo C id l E wob i ops ⟨tm, ob⟩ K := by
 obtain ⟨s1, h1, hb1, s', h2, h3⟩ := h
 have hlen : (ops.take n).length = n := by rw [List.length_take]; have := Nat.le_of_ble_eq_true hn; omega
 refine ⟨s', ?_, h3⟩
 rw [← List.take_append_drop n ops]
 refine RD.of_weak h1 hnd (fun t => hb1.lk t) (fun t => hb.lk t) (fun j hj => ?_) (by rw [hlen]; exact h2)
 have := List.all_eq_true.1 hc j (by rw [List.mem_range]; omega)
 simpa using this
theorem rgX {o : Oper} {rest : List Oper} {x : X} {ob' : List AObj} (hne : E.contains i = true) (hg : guardX l.toArray tm o = some true) (hd : dstOK C o = true) (hv : EOp C ⟨tm, ob⟩ o x ob') (hw : wkP wob.length wob ob') (h : RGo C id l E wob (i + 1) rest ((⟨tm, ob'⟩ : St).put o.dst x) K) : RGo C id l E wob i (o :: rest) ⟨tm, ob⟩ K :=
 let ⟨s', h1, h2⟩ := h; ⟨s', .eff (guardX_ok hg) hd hne hv (Wk.mk' hw) h1, h2⟩
end
theorem Dats.look {E : Env} {tm tm' : List (Nat × X)} {ob : List AObj} {args : List Operand} {ds : List D} (h : Dats ⟨tm, ob⟩ E args ds) (he : ∀ z ∈ args, (⟨tm', ob⟩ : St).ev E z = (⟨tm, ob⟩ : St).ev E z) : Dats ⟨tm', ob⟩ E args ds := by
 induction h with
 | nil => exact .nil
 | cons h _ ih => exact .cons (by rw [he _ (by simp)]; exact h) (ih fun z hz => he z (by simp [hz]))
section
variable {C : Cx} {tm : List (Nat × X)} {ob : List AObj} {id : Nat} {l : List Oper} {E : List Nat} {wob : List AObj} {i : Nat} {rest : List Oper} {K : St → Prop} {o : Oper} {d : Nat} {p : Prop} {x : X}
theorem fw_same {y x : X} {p : Prop} (h : fw y = some (p, x)) : y = x := (fw_eq h).symm
theorem rgStore {t ty : TypeId} {y z : Operand} {j off : Nat} {c : VC} {e : TE} (hne : E.contains i = true) (ho : o.op = .store t y z) (hg : guardX l.toArray tm o = some true) (hdst : o.dst = none) (hy : (⟨tm, ob⟩ : St).ev C.E y = .ptr j off) (hz : fw ((⟨tm, ob⟩ : St).ev C.E z) = some (p, x)) (hh : x.held = true) (hob : ob[j]? = some (.var ty c))
  (he : findT C.E.T t = some e) (hsz : Nat.beq x.cells.length e.size = true) (hle : Nat.ble (off + x.cells.length) c.cells.length = true) (hw : wkP wob.length wob (ob.set j (.var ty (storeC c off x)))) (h : RGo C id l E wob (i + 1) rest ⟨tm, ob.set j (.var ty (storeC c off x))⟩ K) : RGo C id l E wob i (o :: rest) ⟨tm, ob⟩ K := by
 refine rgX (x := .und) (ob' := ob.set j (.var ty (storeC c off x))) hne hg (by simp only [dstOK, hdst]) (fun tm' hev => ?_) hw (by rw [hdst]; exact h)
 rw [hdst]
 have e1 := hev y (by simp [ho, Op.operands])
 have e2 := hev z (by simp [ho, Op.operands])
 exact s_store (s := ⟨tm', ob⟩) ho hdst (e1.trans hy) (e2.trans (fw_same hz)) hh hob he hsz hle
theorem rgAlloc {t : TypeId} {e : TE} (hne : E.contains i = true) (ho : o.op = .alloc t) (hg : guardX l.toArray tm o = some true) (hdst : o.dst = some d) (hd : Nat.blt d C.N = true) (he : findT C.E.T t = some e) (h1z : oneAll e.zero.cells.toList = true)
  (hw : wkP wob.length wob (ob ++ [.var t (.cs (e.zero.cells.toList.map ofConst))])) (h : RGo C id l E wob (i + 1) rest ⟨(d, .ptr ob.length 0) :: tm, ob ++ [.var t (.cs (e.zero.cells.toList.map ofConst))]⟩ K) : RGo C id l E wob i (o :: rest) ⟨tm, ob⟩ K := by
 have hdk : dstOK C o = true := by simp only [dstOK, hdst]; exact hd
 refine rgX (x := .ptr ob.length 0) (ob' := ob ++ [.var t (.cs (e.zero.cells.toList.map ofConst))]) hne hg hdk (fun tm' hev => ?_) hw (by rw [hdst]; exact h)
 exact s_alloc (s := ⟨tm', ob⟩) ho he h1z hdk
theorem rgBox {t : TypeId} {y : Operand} (hne : E.contains i = true) (ho : o.op = .box t y) (hg : guardX l.toArray tm o = some true) (hdst : o.dst = some d) (hd : Nat.blt d C.N = true) (hx : fw ((⟨tm, ob⟩ : St).ev C.E y) = some (p, x)) (hh : x.held = true)
  (hw : wkP wob.length wob (ob ++ [.var t (.w x)])) (h : RGo C id l E wob (i + 1) rest ⟨(d, .ptr ob.length 0) :: tm, ob ++ [.var t (.w x)]⟩ K) : RGo C id l E wob i (o :: rest) ⟨tm, ob⟩ K := by
 have hdk : dstOK C o = true := by simp only [dstOK, hdst]; exact hd
 refine rgX (x := .ptr ob.length 0) (ob' := ob ++ [.var t (.w x)]) hne hg hdk (fun tm' hev => ?_) hw (by rw [hdst]; exact h)
 exact s_box (s := ⟨tm', ob⟩) ho ((hev y (by simp [ho, Op.operands])).trans (fw_same hx)) hh hdk
theorem rgStoreP {t te : TypeId} {y z : Operand} {k j off size : Nat} {xs : List D} {e : D} {tt : TE} (d0 : D) (hne : E.contains i = true) (ho : o.op = .store t y z) (hg : guardX l.toArray tm o = some true) (hdst : o.dst = none) (hy : (⟨tm, ob⟩ : St).ev C.E y = .pel k j off size) (hz : toD ((⟨tm, ob⟩ : St).ev C.E z) = some e)
  (hob : ob[k]? = some (.row te size xs)) (hd : xs[j]? = some d0) (he : findT C.E.T t = some tt) (hsz : Nat.beq e.cells.length tt.size = true) (hle : Nat.ble (off + e.cells.length) d0.cells.length = true) (hw : wkP wob.length wob (ob.set k (.row te size (xs.set j (subD d0 off e)))))
  (h : RGo C id l E wob (i + 1) rest ⟨tm, ob.set k (.row te size (xs.set j (subD d0 off e)))⟩ K) : RGo C id l E wob i (o :: rest) ⟨tm, ob⟩ K := by
 refine rgX (x := .und) (ob' := ob.set k (.row te size (xs.set j (subD d0 off e)))) hne hg (by simp only [dstOK, hdst]) (fun tm' hev => ?_) hw (by rw [hdst]; exact h)
 rw [hdst]
 have e1 := hev y (by simp [ho, Op.operands])
 have e2 := hev z (by simp [ho, Op.operands])
 exact s_storeP (s := ⟨tm', ob⟩) ho hdst (e1.trans hy) ((congrArg toD e2).trans hz) hob hd he hsz hle
theorem sop2_look {tm2 tm' : List (Nat × X)} {ob' : List AObj} (h : sop2 C o tm ob = some (p, tm', ob')) (he : ∀ z ∈ o.op.operands.toList, (⟨tm2, ob⟩ : St).ev C.E z = (⟨tm, ob⟩ : St).ev C.E z) :
  ∃ d x, o.dst = some d ∧ tm' = (d, x) :: tm ∧ sop2 C o tm2 ob = some (p, (d, x) :: tm2, ob') := by
 unfold sop2 at h ⊢
 split at h
 ·rename_i t y z ho
  have e1 := he y (by simp [ho, Op.operands])
  have e2 := he z (by simp [ho, Op.operands])
  simp only [ho] at *
  split at h
  ·rename_i d te ky n kz m hdst hte hy hz
   rw [hdst, hte, e1, e2, hy, hz]
   try simp only
   split at h
   ·rename_i zd hzd
    cases hb : Nat.blt d C.N && (oneAll te.zero.cells.toList && Nat.beq te.zero.cells.size te.size) with
    | false => rw [hb] at h; cases h
    | true =>
     rw [hb] at h
     simp only [cond_true, Option.some.injEq, Prod.mk.injEq] at h
     obtain ⟨rfl, rfl, rfl⟩ := h
     exact ⟨_, _, rfl, rfl, rfl⟩
   ·cases h
  ·cases h
 ·rename_i c ho
  obtain ⟨ce, args, tys⟩ := c
  obtain ⟨args⟩ := args
  obtain ⟨tys⟩ := tys
  simp only [ho] at *
  split at h
  ·split at h
   ·rename_i d y z t t' hdst
    have e1 := he y (by simp [Op.operands, Call.operands])
    have e2 := he z (by simp [Op.operands, Call.operands])
    rw [hdst]
    try simp only
    split at h
    ·rename_i te ys hte hz
     rw [hte, e1, e2, hz]
     try simp only
     split at h
     ·rename_i oi xs hown
      cases hb : Nat.blt d C.N && (Nat.beq t t' && (Nat.beq te.zero.cells.size te.size && Nat.blt 0 te.size)) with
      | false => rw [hb] at h; cases h
      | true =>
       rw [hb] at h
       simp only [cond_true, Option.some.injEq, Prod.mk.injEq] at h
       obtain ⟨rfl, rfl, rfl⟩ := h
       exact ⟨_, _, rfl, rfl, rfl⟩
     ·cases h
    ·cases h
   ·cases h
  ·cases h
 ·cases h
theorem rgS {tm' : List (Nat × X)} {ob' : List AObj} (hne : E.contains i = true) (hg : guardX l.toArray tm o = some true) (hd : dstOK C o = true) (hs : sop2 C o tm ob = some (p, tm', ob')) (hp : p) (hw : wkP wob.length wob ob') (h : RGo C id l E wob (i + 1) rest ⟨tm', ob'⟩ K) : RGo C id l E wob i (o :: rest) ⟨tm, ob⟩ K := by
 obtain ⟨d, x, hdst, rfl, -⟩ := sop2_look (tm2 := tm) hs fun _ _ => rfl
 refine rgX (x := x) (ob' := ob') hne hg hd (fun tm2 hev => ?_) hw (by rw [hdst]; exact h)
 obtain ⟨d', x', hdst', e, h2⟩ := sop2_look (tm2 := tm2) hs hev
 rw [hdst] at hdst'
 cases hdst'
 cases e
 rw [hdst]
 exact sop2_ok h2 hp
end
end Go.Abs
namespace Go.Abs
open Go Go.RowKit
theorem WInv.ren2 {E : Env} {B : Base} {F : Nat → Prop} {σ : Sg} {ob ob' : List AObj} {w : World} (hi : WInv E B F σ ob w) (ks : List Nat) (hn : nodupB ks = true) (hob : renObs ks ob ks = some ob') : WInv E ⟨B.O, 0, []⟩ F (ks.map fun k => σ.getD k (0, 0, 0)) ob' w := by
 obtain ⟨r1, r2, r3, hi1⟩ := hi.ren ks hn hob
 refine ⟨hi1.flt, hi1.glob, hi1.len, fun o x p hx hp => ?_, hi1.inj, fun i p h => absurd h (Nat.not_lt_zero _)⟩
 refine (hi1.obs o x p hx hp).own fun hl => ?_
 obtain ⟨k, y, g1, g2, g3⟩ := r3 o x hx
 rw [(r1 o k g1).2] at hp
 exact ((hi.obs k y p g2 hp).notO (by rw [g3]; exact hl)).1
def ResD (C : Cx) (fn : Func) (s : St) (rx : X) : Prop := (∃ q d, fn.results = #[q] ∧ resX C s q = some d ∧ rx = .d d) ∨ ∃ q q' d d', fn.results = #[q, q'] ∧ resX C s q = some d ∧ resX C s q' = some d' ∧ rx = .tup [d, d']
theorem ResD.run {C : Cx} {fn : Func} {s : St} {rx : X} {F : Nat → Prop} {σ σ' : Sg} {w : World} {a : Act} (h : ResD C fn s rx) (hi : WInv C.E C.base F σ s.ob w) (hs : ∀ t, RdX w F σ (lk s.tm t) (a.tmps.getD t undef)) :
  ∃ v, (results fn a.tmps).run C.E.P w = .ok v w ∧ RdX w F σ' rx v := by
 rcases h with ⟨q, d, hr, h, rfl⟩ | ⟨q, q', d, d', hr, h, h', rfl⟩
 ·obtain ⟨v, h1, h2⟩ := resX_run hi hs h
  exact ⟨v, by rw [results_eq, hr]; simp [h1], h2⟩
 ·obtain ⟨v, h1, h2⟩ := resX_run hi hs h
  obtain ⟨v', h1', h2'⟩ := resX_run hi hs h'
  refine ⟨.tuple #[v, v'], by rw [results_eq, hr]; simp [h1, h1'], [v, v'], rfl, rfl, fun i x u hx hu => ?_⟩
  match i with
  | 0 => simp at hx hu; subst hx hu; exact h2
  | 1 => simp at hx hu; subst hx hu; exact h2'
  | i + 2 => simp at hx
def EndSD (C : Cx) (fn : Func) (rx : X) (ob' : List AObj) : Exit → St → Prop
 | .ret, s | .normal, s => ResD C fn s rx ∧ ∃ ks, nodupB ks = true ∧ ((List.range C.base.n0).all fun i => ks[i]? == some i) = true ∧ renObs ks s.ob ks = some ob'
 | _, _ => False
theorem EvS.enterD {E : Env} {f : FuncId} {fn : Func} {c : Code} {xs : List X} {ob ob' : List AObj} {rx : X} {N : Nat} (hf : E.P.funcs[f]? = some fn) (hN : fn.ntmps = N) (hb : fn.body = some c) (hle : Nat.ble xs.length N = true)
  (h : ∀ (w0 : World) (F0 O : Nat → Prop) (σ0 : Sg), go ⟨E, w0, F0, N, ⟨O, ob.length, σ0⟩⟩ [.code c] ⟨(List.range xs.length).zip xs, ob⟩ (EndSD ⟨E, w0, F0, N, ⟨O, ob.length, σ0⟩⟩ fn rx ob')) : EvS E f xs ob rx ob' := by
 intro w F σ vs hi hl hr
 refine calls_of_wp hf hb ?_
 have hgo := h w F (Held w ob σ) σ
 have hlook : ∀ t, RdX w F σ (lk ((List.range xs.length).zip xs) t) ((vs.toArray ++ Array.replicate (fn.ntmps - vs.toArray.size) undef).getD t undef) := by
  intro t
  have key : ∀ (k : Nat) (l : List X), (∀ (i : Nat) d, l[i]? = some d → xs[k + i]? = some d) → RdX w F σ (lk ((List.range' k l.length).zip l) t) ((vs.toArray ++ Array.replicate (fn.ntmps - vs.toArray.size) undef).getD t undef) := by
   intro k l
   induction l generalizing k with
   | nil => intro _; trivial
   | cons d l ih =>
    intro hk
    simp only [List.length_cons, List.range'_succ, List.zip_cons_cons, lk]
    cases hbq : Nat.beq k t with
    | true =>
     obtain rfl := Nat.eq_of_beq_eq_true hbq
     have hd : xs[k]? = some d := by simpa using hk 0 d rfl
     have hlt : k < vs.length := by rw [hl]; exact (List.getElem?_eq_some_iff.1 hd).1
     have e : (vs.toArray ++ Array.replicate (fn.ntmps - vs.toArray.size) undef).getD k undef = vs[k] := by
      simp [Array.getElem?_append, hlt]
     rw [e]
     exact hr k d _ hd (List.getElem?_eq_getElem hlt)
    | false =>
     refine ih (k + 1) fun i d' hi => ?_
     have := hk (i + 1) d' (by simpa using hi)
     rw [← this]
     congr 1
     omega
  have := key 0 xs fun i d hd => by simpa using hd
  rwa [← List.range_eq_range'] at this
 have hle' : xs.length ≤ N := Nat.le_of_ble_eq_true hle
 have hrel : Cx.Rel ⟨E, w, F, N, ⟨Held w ob σ, ob.length, σ⟩⟩ ⟨(List.range xs.length).zip xs, ob⟩ { tmps := vs.toArray ++ Array.replicate (fn.ntmps - vs.toArray.size) undef, defers := [] } w := by
  refine ⟨F, σ, Kept.refl (fun _ h => h.1), fun _ h => h, fun _ h => .inl h, ⟨hi.flt, hi.glob, hi.len, fun k x p hx hp => (hi.obs k x p hx hp).own fun hl ho => ho.2 ⟨k, x, p, hx, hl, hp, rfl⟩, hi.inj, fun i p _ hp => hp⟩, rfl, ?_, hlook⟩
  simp [hN, hl]
  omega
 refine wp_mono (hgo _ w hrel) ?_
 rintro e a' w' ⟨s', hrel', hq⟩
 have fin : (ResD ⟨E, w, F, N, ⟨Held w ob σ, ob.length, σ⟩⟩ fn s' rx ∧ ∃ ks, nodupB ks = true ∧ ((List.range ob.length).all fun i => ks[i]? == some i) = true ∧ renObs ks s'.ob ks = some ob') → a'.defers = [] ∧ ∃ v, (results fn a'.tmps).run E.P w' = .ok v w' ∧
   ∃ v_1 F' σ', Ending.returned v = .returned v_1 ∧ Kept (Held w ob σ) w w' ∧ (∀ b, F b → F' b) ∧ (∀ b, F' b → F b ∨ ¬ Held w ob σ b) ∧ (∀ (i : Nat) p, i < ob.length → σ[i]? = some p → σ'[i]? = some p) ∧ WInv E ⟨Held w ob σ, 0, []⟩ F' σ' ob' w' ∧ RdX w' F' σ' rx v_1 := by
  rintro ⟨hres, ks, hn, hk0, hob'⟩
  obtain ⟨F', σ', h1, h2, h3, hi', h4, h5, hs⟩ := hrel'
  obtain ⟨v, v1, v2⟩ := hres.run (σ' := ks.map fun k => σ'.getD k (0, 0, 0)) hi' hs
  refine ⟨h4, v, v1, v, F', _, rfl, h1, h2, h3, fun i p hlt hp => ?_, hi'.ren2 ks hn hob', v2⟩
  have hk := List.all_eq_true.1 hk0 i (List.mem_range.2 hlt)
  have hk' : ks[i]? = some i := by simpa using hk
  rw [((hi'.ren ks hn hob').1 i i hk').2]
  exact hi'.pre i p hlt hp
 cases e with
 | normal => exact fin hq
 | ret => exact fin hq
 | _ => exact hq.elim
section
variable {C : Cx} {r : List It} {fn : Func} {tm : List (Nat × X)} {ob ob' : List AObj}
theorem retD1 (ks : List Nat) {q : ResultVar} {d d' : D} (hn : nodupB ks = true) (hk0 : ((List.range C.base.n0).all fun i => ks[i]? == some i) = true) (hob : renObs ks ob ks = some ob') (hr : fn.results = #[q]) (h : resX C ⟨tm, ob⟩ q = some d) (he : d = d') :
  go C (.code .ret :: r) ⟨tm, ob⟩ (EndSD C fn (.d d') ob') := go_ret_ ⟨.inl ⟨q, d, hr, h, by rw [he]⟩, ks, hn, hk0, hob⟩
theorem retD2 (ks : List Nat) {q q' : ResultVar} {d d' : D} {l : List D} (hn : nodupB ks = true) (hk0 : ((List.range C.base.n0).all fun i => ks[i]? == some i) = true) (hob : renObs ks ob ks = some ob') (hr : fn.results = #[q, q']) (h : resX C ⟨tm, ob⟩ q = some d) (h' : resX C ⟨tm, ob⟩ q' = some d') (he : [d, d'] = l) :
  go C (.code .ret :: r) ⟨tm, ob⟩ (EndSD C fn (.tup l) ob') := go_ret_ ⟨.inr ⟨q, q', d, d', hr, h, h', by rw [he]⟩, ks, hn, hk0, hob⟩
end
section
variable {C : Cx} {tm : List (Nat × X)} {ob : List AObj} {id : Nat} {l : List Oper} {E : List Nat} {wob : List AObj} {i : Nat} {rest : List Oper} {K : St → Prop} {o : Oper} {d : Nat}
theorem rgCallS (sel : List Nat) {y : Operand} {args : List Operand} {tys : Array TypeId} {f : FuncId} {cs xs : List X} {ob1 ob1' ob2 : List AObj} {rx x2 : X} (hne : E.contains i = true) (ho : o.op = .call { callee := .value y, args := args.toArray, argTypes := tys }) (hg : guardX l.toArray tm o = some true) (hdst : o.dst = some d)
  (hd : Nat.blt d C.N = true) (hf : FnX ((⟨tm, ob⟩ : St).ev C.E y) f cs) (hb : HasBody C.E f) (h0 : EvS C.E f xs ob1 rx ob1') (hn : nodupB sel = true) (hob : renObs sel ob sel = some ob1) (hx : renL sel (args.map (fun z => nrm ((⟨tm, ob⟩ : St).ev C.E z)) ++ cs) = some xs)
  (hob2 : backL (bk sel ob.length) sel ob1' ob = ob2) (hx2 : bkX (bk sel ob.length) rx = x2) (hw : wkP wob.length wob ob2) (h : RGo C id l E wob (i + 1) rest ⟨(d, x2) :: tm, ob2⟩ K) : RGo C id l E wob i (o :: rest) ⟨tm, ob⟩ K := by
 subst hob2 hx2
 have hdk : dstOK C o = true := by simp only [dstOK, hdst]; exact hd
 refine rgX (x := bkX (bk sel ob.length) rx) (ob' := backL (bk sel ob.length) sel ob1' ob) hne hg hdk (fun tm' hev => ?_) hw (by rw [hdst]; exact h)
 have hm : ∀ z, z = y ∨ z ∈ args → (⟨tm', ob⟩ : St).ev C.E z = (⟨tm, ob⟩ : St).ev C.E z := by
  intro z hz
  refine hev z ?_
  rcases hz with rfl | hz <;> simp [ho, Op.operands, Call.operands, *]
 refine s_callS (s := ⟨tm', ob⟩) ho (by rw [hm y (.inl rfl)]; exact hf) hb hn hob ?_ h0 hdk
 rw [← hx]
 congr 2
 exact List.map_congr_left fun z hz => by rw [hm z (.inr hz)]
end
end Go.Abs
namespace Go.Abs
open Go Go.RowKit
def rowK (k : Nat) : List D → X
 | [] => .nilS
 | _ :: _ => .own k
theorem frzX_below {k : Nat} {xs : List D} {x : X} (h : x.below k = true) : frzX k xs x = x := by
  cases x with
  | own i =>
    have : ¬ i = k := by have : i < k := by simpa [X.below] using h
                         omega
    simp only [frzX]
    rw [show Nat.beq i k = false by rw [← Bool.not_eq_true]; exact fun e => this (Nat.eq_of_beq_eq_true e)]
    rfl
  | pel i j off z =>
    have : ¬ i = k := by have : i < k := by simpa [X.below] using h
                         omega
    simp only [frzX]
    rw [show Nat.beq i k = false by rw [← Bool.not_eq_true]; exact fun e => this (Nat.eq_of_beq_eq_true e)]
    rfl
  | sub i j off z =>
    have : ¬ i = k := by have : i < k := by simpa [X.below] using h
                         omega
    simp only [frzX]
    rw [show Nat.beq i k = false by rw [← Bool.not_eq_true]; exact fun e => this (Nat.eq_of_beq_eq_true e)]
    rfl
  | st cs =>
    simp only [frzX]
    congr 1
    have : ∀ c ∈ cs, frzP k xs c = c := fun c hc => by
      have h1 := List.all_eq_true.1 h c hc
      cases c with
      | own i =>
        have : ¬ i = k := by have : i < k := by simpa using h1
                             omega
        simp only [frzP]
        rw [show Nat.beq i k = false by rw [← Bool.not_eq_true]; exact fun e => this (Nat.eq_of_beq_eq_true e)]
        rfl
      | _ => rfl
    rw [List.map_congr_left this]
    simp
  | _ => rfl
theorem frzO_below {k : Nat} {xs : List D} {x : AObj} (h : x.below k = true) : frzO k xs x = x := by
 cases x with
 | var t c =>
  simp only [frzO]
  congr 1
  cases c with
  | w y =>
   simp only [frzC]
   congr 1
   cases y with
   | d d => rfl
   | _ => exact frzX_below (List.all_eq_true.1 h _ (by simp [VC.cells, X.cells]))
  | cs l =>
   simp only [frzC]
   congr 1
   have : ∀ y ∈ l, frzX k xs y = y := fun y hy => frzX_below (List.all_eq_true.1 h y hy)
   rw [List.map_congr_left this]
   simp
 | _ => rfl
theorem Le.rowD {C : Cx} {t k : Nat} {te : TypeId} {size : Nat} {ys : List D} {tm : List (Nat × X)} {ob : List AObj} (hk : ob.length = k) (h0 : C.base.n0 ≤ k) (hT : ∀ u, (lk tm u).below k = true) (hO : ∀ x ∈ ob, x.below k = true) :
  Le C ⟨(t, rowK k ys) :: tm, ob ++ rowO te size ys⟩ ⟨(t, .d (.sl ys)) :: tm, ob⟩ := by
 intro a w hr
 cases ys with
 | nil =>
  obtain ⟨F, σ, h1, h2, h3, hi, h4, h5, hs⟩ := hr
  refine ⟨F, σ, h1, h2, h3, by simpa [rowO] using hi, h4, h5, fun u => ?_⟩
  have := hs u
  simp only [lk] at this ⊢
  cases hb : Nat.beq t u with
  | true =>
   rw [hb] at this
   have hv : a.tmps.getD u undef = .slice none 0 0 := this
   rw [hv]
   exact Rd.slnil
  | false => rw [hb] at this; exact this
 | cons y ys =>
  simp only [rowK, rowO] at hr
  have hob : (ob ++ [AObj.row te size (y :: ys)])[k]? = some (.row te size (y :: ys)) := by rw [← hk]; simp
  have hf : frz k ⟨(t, .own k) :: tm, ob ++ [AObj.row te size (y :: ys)]⟩ = some ⟨frzT k (y :: ys) ((t, .own k) :: tm), ((ob ++ [AObj.row te size (y :: ys)]).map (frzO k (y :: ys))).set k .dead⟩ := by
   unfold frz
   simp only [hob]
  obtain ⟨F, σ, h1, h2, h3, hi, h4, h5, hs⟩ := frz_le k hf a w hr
  have hwk : Wk ob (((ob ++ [AObj.row te size (y :: ys)]).map (frzO k (y :: ys))).set k .dead) := by
   refine ⟨by simp, fun i x hx _ => ?_⟩
   have hlt : i < k := by rw [← hk]; exact (List.getElem?_eq_some_iff.1 hx).1
   have hm := List.mem_of_getElem? hx
   refine ⟨?_, by rw [hk]; exact hO x hm⟩
   rw [List.getElem?_set_ne (by omega), List.getElem?_map, List.getElem?_append_left (by omega), hx, Option.map_some, frzO_below (hO x hm)]
  refine ⟨F, σ.take ob.length, h1, h2, h3, hi.wk hwk (by omega), h4, h5, fun u => ?_⟩
  have := hs u
  rw [lk_frz] at this
  simp only [lk] at this ⊢
  cases hb : Nat.beq t u with
  | true =>
   rw [hb] at this
   simp only [cond_true, frzX] at this
   rw [show Nat.beq k k = true by simp] at this
   exact this
  | false =>
   rw [hb] at this
   simp only [cond_false] at this ⊢
   rw [frzX_below (hT u)] at this
   rw [hk]
   exact this.take (hT u)
section
variable {C : Cx} {r : List It} {Q : Exit → St → Prop} {tm : List (Nat × X)} {ob : List AObj}
theorem go_rowD {c : Code} {t k : Nat} {te : TypeId} {size : Nat} {ys : List D} (hk : Nat.beq ob.length k = true) (h0 : Nat.ble C.base.n0 k = true) (hT : TmB k tm) (hO : ObLe k ob) (h : go C (.code c :: r) ⟨(t, .d (.sl ys)) :: tm, ob⟩ Q) :
  go C (.code c :: r) ⟨(t, rowK k ys) :: tm, ob ++ rowO te size ys⟩ Q := by
 refine go_weaken (Le.rowD (Nat.eq_of_beq_eq_true hk) (Nat.le_of_ble_eq_true h0) (fun u => hT.lk u) ?_) h
 have : ∀ {l : List AObj}, ObLe k l → ∀ x ∈ l, x.below k = true := by
  intro l
  induction l with
  | nil => intro _ x hx; simp at hx
  | cons a r ih =>
   intro h x hx
   rcases List.mem_cons.1 hx with rfl | hx
   ·exact h.1
   ·exact ih h.2 x hx
 exact this hO
end
end Go.Abs
namespace Go.Abs
open Go Go.RowKit Go.ChangeShapes Go.WideShapes
end Go.Abs
namespace Go.Abs
open Go
section
variable {C : Cx} {all : Array Oper} {pu : Bool} {K : St → Prop} {rest : List Oper} {o : Oper} {tm tm' : List (Nat × X)} {ob ob' : List AObj} {r : List It} {s : St} {Q : Exit → St → Prop}
theorem zS {p : Prop} (hv : stepY C all pu o tm ob = some (p, tm', ob')) (h : SGo C all pu rest ⟨tm', ob'⟩ K)
  (hp : p := by first | exact True.intro | rfl | assumption | omega | (simp only [inR]; omega) | ((show _ ≤ (9223372036854775807 : Nat)); (try simp only [ByteArray.size_append]); omega) | exact tmod_ok (by omega) (by omega) | exact tdiv_ok (by omega) (by omega) | exact ⟨rfl, by decide, by decide⟩) :
  SGo C all pu (o :: rest) ⟨tm, ob⟩ K := qS hv hp h
theorem zT {c : Operand} {x y : Code} {b : Bool} (hc : s.ev C.E c = .d (.imm (.bool b))) (ht : go C (.code x :: r) s Q) (hb : b = true := by first | rfl | assumption) : go C (.code (.cond c x y) :: r) s Q := qT hc hb ht
theorem zU {c : Operand} {x y : Code} {b : Bool} (hc : s.ev C.E c = .d (.imm (.bool b))) (hf : go C (.code y :: r) s Q) (hb : b = false := by first | rfl | assumption) : go C (.code (.cond c x y) :: r) s Q := qU hc hb hf
theorem zX {j t : Nat} {pol b : Bool} {q : Oper} (hg : o.guard = some (j, pol)) (hj : all[j]? = some q) (hq : q.dst = some t) (hb : lk tm t = .d (.imm (.bool b)))
  (h : SGo C all pu (o :: rest) ⟨(t, .d (.imm (.bool true))) :: tm, ob⟩ K) (he : b = true := by assumption) : SGo C all pu (o :: rest) ⟨tm, ob⟩ K := qX hg hj hq hb he h
theorem zW {j t : Nat} {pol b : Bool} {q : Oper} (hg : o.guard = some (j, pol)) (hj : all[j]? = some q) (hq : q.dst = some t) (hb : lk tm t = .d (.imm (.bool b)))
  (h : SGo C all pu (o :: rest) ⟨(t, .d (.imm (.bool false))) :: tm, ob⟩ K) (he : b = false := by assumption) : SGo C all pu (o :: rest) ⟨tm, ob⟩ K := qX hg hj hq hb he h
end
theorem zD {d : D} : d = d := rfl
theorem zL {l : List D} : l = l := rfl
theorem zle {C : Cx} {tm tm' : List (Nat × X)} {ob ob' : List AObj} (n : Nat) (hn : Nat.ble C.base.n0 n = true := by exact rfl) (hob : ob' = ob.take n := by exact rfl)
  (ht : TmLe tm n tm' := by repeat (first | exact trivial | refine ⟨⟨rfl, rfl⟩, ?_⟩)) (ho : ObLe n ob' := by repeat (first | exact trivial | refine ⟨rfl, ?_⟩)) : Le C ⟨tm, ob⟩ ⟨tm', ob'⟩ := Le.of' n hn hob ht ho
theorem zren {C : Cx} {tm tm' : List (Nat × X)} {ob ob' : List AObj} (ks : List Nat) (hn : nodupB ks = true := by exact rfl) (hk0 : ((List.range C.base.n0).all fun i => ks[i]? == some i) = true := by exact rfl)
  (hob : renObs ks ob ks = some ob' := by exact rfl) (ht : TmRen tm ks tm' := by repeat (first | exact trivial | refine ⟨rfl, ?_⟩)) : Le C ⟨tm, ob⟩ ⟨tm', ob'⟩ := Le.ren ks hn hk0 hob ht
end Go.Abs
namespace Go.Abs
open Go Go.RowKit
theorem RdX.isBelow {w : World} {F : Nat → Prop} {σ : Sg} {x : X} {v : Value} (h : RdX w F σ x v) : x.below σ.length = true := by
 have key : ∀ (o : Nat) (p : Nat × Nat × Nat), σ[o]? = some p → Nat.blt o σ.length = true := fun o p h => by
  have := (List.getElem?_eq_some_iff.1 h).1
  simpa using this
 have caps : ∀ (cs : List Cap) (us : List Value), cs.length = us.length → (∀ (i : Nat) c u, cs[i]? = some c → us[i]? = some u → CapRd w F σ c u) → ∀ c ∈ cs, c.x.below σ.length = true := by
  intro cs us hl hr c hc
  obtain ⟨i, hi, he⟩ := List.mem_iff_getElem.1 hc
  have h1 := hr i c us[i] (by rw [← he]; exact List.getElem?_eq_getElem hi) (List.getElem?_eq_getElem (by omega))
  cases c with
  | d x => rfl
  | ptr o off => obtain ⟨b, c, n, h2, -⟩ := h1; exact key _ _ h2
  | own o => obtain ⟨b, c, n, h2, -⟩ := h1; exact key _ _ h2
 cases x with
 | ptr o off => obtain ⟨b, c, n, h1, -⟩ := h; exact key _ _ h1
 | own o => obtain ⟨b, c, n, h1, -⟩ := h; exact key _ _ h1
 | mp o => obtain ⟨b, c, n, h1, -⟩ := h; exact key _ _ h1
 | pel o i off size => obtain ⟨b, c, n, h1, -⟩ := h; exact key _ _ h1
 | sub o i off size => obtain ⟨b, c, n, h1, -⟩ := h; exact key _ _ h1
 | clo f cs =>
  obtain ⟨us, -, hl, hr⟩ := h
  refine List.all_eq_true.2 fun c hc => ?_
  have := caps cs us hl hr c hc
  cases c with
  | d x => rfl
  | ptr o off => exact this
  | own o => exact this
 | bnd f cs =>
  obtain ⟨us, -, hl, hr⟩ := h
  refine List.all_eq_true.2 fun c hc => ?_
  have := caps cs us hl hr c hc
  cases c with
  | d x => rfl
  | ptr o off => exact this
  | own o => exact this
 | st cs =>
  obtain ⟨us, -, hl, -, hr⟩ := h
  refine List.all_eq_true.2 fun c hc => ?_
  have := caps cs us hl hr c hc
  cases c with
  | d x => rfl
  | ptr o off => exact this
  | own o => exact this
 | _ => rfl
theorem Cx.Rel.tmBelow {C : Cx} {s : St} {a : Act} {w : World} (h : C.Rel s a w) (t : Nat) : (lk s.tm t).below s.ob.length = true := by
 obtain ⟨F, σ, -, -, -, hi, -, -, hs⟩ := h
 rw [← hi.len]
 exact (hs t).isBelow
theorem ObLe.all {n : Nat} : ∀ {l : List AObj}, ObLe n l → ∀ x ∈ l, x.below n = true
 | a :: r, h, x, hx => by
  rcases List.mem_cons.1 hx with rfl | hx
  ·exact h.1
  ·exact ObLe.all h.2 x hx
theorem EOp.data {C : Cx} {tm : List (Nat × X)} {ob ob1 : List AObj} {o : Oper} {d : Nat} {te : TypeId} {size : Nat} {xs : List D} (hdst : o.dst = some d) (h0 : C.base.n0 ≤ ob1.length) (hlen : ob1.length = ob.length) (hO : ∀ x ∈ ob1, x.below ob1.length = true) (hx : xs ≠ [])
  (h : EOp C ⟨tm, ob⟩ o (.own ob1.length) (ob1 ++ [.row te size xs])) : EOp C ⟨tm, ob⟩ o (.d (.sl xs)) ob1 := by
 intro tm' hev w a K Q hrel hK
 refine h tm' hev w a K Q hrel fun a' w' hr' => hK a' w' ?_
 rw [hdst] at hr' ⊢
 cases xs with
 | nil => exact absurd rfl hx
 | cons y ys => exact Le.rowD (k := ob1.length) (ys := y :: ys) rfl h0 (fun u => by rw [hlen]; exact hrel.tmBelow u) hO a' w' hr'
def dimT (n : Nat) : List (Nat × X) → List (Nat × X)
 | [] => []
 | (t, x) :: r => (t, bif x.below n then x else .top) :: dimT n r
theorem lk_dim (n : Nat) : ∀ (tm : List (Nat × X)) (t : Nat), lk (dimT n tm) t = lk tm t ∨ lk (dimT n tm) t = .top
 | [], t => .inl rfl
 | (k, x) :: r, t => by
  simp only [dimT, lk]
  cases Nat.beq k t with
  | false => exact lk_dim n r t
  | true => cases x.below n <;> simp
theorem lk_dim_below (n : Nat) : ∀ (tm : List (Nat × X)) (t : Nat), (lk (dimT n tm) t).below n = true
 | [], t => rfl
 | (k, x) :: r, t => by
  simp only [dimT, lk]
  cases Nat.beq k t with
  | false => exact lk_dim_below n r t
  | true =>
   cases h : x.below n with
   | true => exact h
   | false => rfl
theorem VOp.dim {C : Cx} {tm : List (Nat × X)} {ob : List AObj} {o : Oper} {x : X} {n : Nat} (h : VOp C ⟨dimT n tm, ob⟩ o x) : VOp C ⟨tm, ob⟩ o x := by
 intro F σ w a K Q hi hr hK
 refine h F σ w a K Q hi (fun y hy => ?_) hK
 have := hr y hy
 cases y with
 | tmp t =>
  rcases lk_dim n tm t with e | e
  ·show RdX w F σ (lk (dimT n tm) t) _
   rw [e]; exact this
  ·show RdX w F σ (lk (dimT n tm) t) _
   rw [e]; trivial
 | _ => exact this
inductive RDw (C : Cx) (l : List Oper) (E : List Nat) (wob : List AObj) : Nat → List Oper → St → St → Prop
 | nil (i : Nat) (s : St) : RDw C l E wob i [] s s
 | same {i : Nat} {ops : List Oper} {s s1 s' : St} (hs : StEq s s1) (h : RDw C l E wob i ops s1 s') : RDw C l E wob i ops s s'
 | fix {i : Nat} {o : Oper} {rest : List Oper} {s s' : St} {x : X} (hg : GuardIs l.toArray s o true) (hd : dstOK C o = true) (hne : E.contains i = false) (hf : FixedP l E i) (hv : VOp C s o x) (h : RDw C l E wob (i + 1) rest (s.put o.dst x) s') : RDw C l E wob i (o :: rest) s s'
 | skip {i : Nat} {o : Oper} {rest : List Oper} {s s' : St} (hg : GuardIs l.toArray s o false) (hd : dstOK C o = true) (hne : E.contains i = false) (h : RDw C l E wob (i + 1) rest (s.put o.dst .und) s') : RDw C l E wob i (o :: rest) s s'
 | weak {i : Nat} {o : Oper} {rest : List Oper} {s s' : St} {x : X} (hg : GuardIs l.toArray s o true) (hd : dstOK C o = true) (hne : E.contains i = false) (hv : ∀ ob', Wk wob ob' → VOp C ⟨s.tm, ob'⟩ o x) (h : RDw C l E wob (i + 1) rest (s.put o.dst x) s') : RDw C l E wob i (o :: rest) s s'
 | eff {i : Nat} {o : Oper} {rest : List Oper} {s s' : St} {x : X} {ob' : List AObj} (hg : GuardIs l.toArray s o true) (hd : dstOK C o = true) (hne : E.contains i = true) (hv : EOp C s o x ob') (hw : Wk wob ob') (h : RDw C l E wob (i + 1) rest ((⟨s.tm, ob'⟩ : St).put o.dst x) s') : RDw C l E wob i (o :: rest) s s'
theorem RDw.dataE {C : Cx} {l : List Oper} {E : List Nat} {wob : List AObj} {i : Nat} {ops : List Oper} {s s' : St} (h : RDw C l E wob i ops s s') (hw0 : Wk wob s.ob) :
  ∃ (xs : List (Oper × Option X)) (obT : Nat → List AObj), xs.map (·.1) = ops ∧ obT 0 = s.ob ∧ obT ops.length = s'.ob ∧ (∀ t, lk (stps s xs).tm t = lk s'.tm t) ∧ (∀ j, j ≤ ops.length → Wk wob (obT j)) ∧
   ∀ (j : Nat) o x, xs[j]? = some (o, x) → dstOK C o = true ∧ GuardIs l.toArray (stps s (xs.take j)) o x.isSome ∧
    (E.contains (i + j) = true → ∃ y, x = some y ∧ EOp C ⟨(stps s (xs.take j)).tm, obT j⟩ o y (obT (j + 1))) ∧
    (E.contains (i + j) = false → obT (j + 1) = obT j ∧ ∀ y, x = some y → (FixedP l E (i + j) ∧ VOp C ⟨(stps s (xs.take j)).tm, obT j⟩ o y) ∨ ∀ ob', Wk wob ob' → VOp C ⟨(stps s (xs.take j)).tm, ob'⟩ o y) := by
 induction h with
 | nil i s => exact ⟨[], fun _ => s.ob, rfl, rfl, rfl, fun _ => rfl, fun _ _ => hw0, fun j o x h => by simp at h⟩
 | @same i ops s s1 s' hs hh ih =>
  obtain ⟨xs, obT, h1, h2, h3, h4, h5, h6⟩ := ih (by rw [hs.2]; exact hw0)
  have hst : ∀ ys t, lk (stps s ys).tm t = lk (stps s1 ys).tm t := fun ys => stps_tm ys s s1 fun t => (hs.1 t).symm
  refine ⟨xs, obT, h1, h2.trans hs.2, h3, fun t => (hst xs t).trans (h4 t), h5, fun j o x hj => ?_⟩
  obtain ⟨a1, a2, a3, a4⟩ := h6 j o x hj
  refine ⟨a1, a2.look (hst _), fun he => ?_, fun he => ⟨(a4 he).1, fun y hy => ?_⟩⟩
  ·obtain ⟨y, hy, hv⟩ := a3 he
   exact ⟨y, hy, hv.look (hst _)⟩
  ·rcases (a4 he).2 y hy with ⟨b1, b2⟩ | b1
   ·exact .inl ⟨b1, b2.look (hst _)⟩
   ·exact .inr fun ob' hw' => (b1 ob' hw').look (hst _)
 | @fix i o rest s s' x hg hd hne hf hv hh ih =>
  obtain ⟨xs, obT, h1, h2, h3, h4, h5, h6⟩ := ih (by rw [St.put_ob]; exact hw0)
  rw [St.put_ob] at h2
  refine ⟨(o, some x) :: xs, fun j => match j with | 0 => s.ob | j + 1 => obT j, by simp [h1], rfl, h3, h4, fun j hj => ?_, fun j o' x' hj => ?_⟩
  ·cases j with
   | zero => exact hw0
   | succ j => exact h5 j (by simpa using hj)
  ·cases j with
   | zero =>
    simp at hj
    obtain ⟨rfl, rfl⟩ := hj
    refine ⟨hd, hg, fun he => ?_, fun _ => ⟨h2, fun y hy => ?_⟩⟩
    ·rw [Nat.add_zero, hne] at he; cases he
    ·cases hy; exact .inl ⟨hf, hv⟩
   | succ j =>
    have := h6 j o' x' (by simpa using hj)
    rw [show i + 1 + j = i + (j + 1) by omega] at this
    exact this
 | @skip i o rest s s' hg hd hne hh ih =>
  obtain ⟨xs, obT, h1, h2, h3, h4, h5, h6⟩ := ih (by rw [St.put_ob]; exact hw0)
  rw [St.put_ob] at h2
  refine ⟨(o, none) :: xs, fun j => match j with | 0 => s.ob | j + 1 => obT j, by simp [h1], rfl, h3, h4, fun j hj => ?_, fun j o' x' hj => ?_⟩
  ·cases j with
   | zero => exact hw0
   | succ j => exact h5 j (by simpa using hj)
  ·cases j with
   | zero =>
    simp at hj
    obtain ⟨rfl, rfl⟩ := hj
    refine ⟨hd, hg, fun he => ?_, fun _ => ⟨h2, fun y hy => ?_⟩⟩
    ·rw [Nat.add_zero, hne] at he; cases he
    ·cases hy
   | succ j =>
    have := h6 j o' x' (by simpa using hj)
    rw [show i + 1 + j = i + (j + 1) by omega] at this
    exact this
 | @weak i o rest s s' x hg hd hne hv hh ih =>
  obtain ⟨xs, obT, h1, h2, h3, h4, h5, h6⟩ := ih (by rw [St.put_ob]; exact hw0)
  rw [St.put_ob] at h2
  refine ⟨(o, some x) :: xs, fun j => match j with | 0 => s.ob | j + 1 => obT j, by simp [h1], rfl, h3, h4, fun j hj => ?_, fun j o' x' hj => ?_⟩
  ·cases j with
   | zero => exact hw0
   | succ j => exact h5 j (by simpa using hj)
  ·cases j with
   | zero =>
    simp at hj
    obtain ⟨rfl, rfl⟩ := hj
    refine ⟨hd, hg, fun he => ?_, fun _ => ⟨h2, fun y hy => ?_⟩⟩
    ·rw [Nat.add_zero, hne] at he; cases he
    ·cases hy; exact .inr hv
   | succ j =>
    have := h6 j o' x' (by simpa using hj)
    rw [show i + 1 + j = i + (j + 1) by omega] at this
    exact this
 | @eff i o rest s s' x ob' hg hd hne hv hw hh ih =>
  obtain ⟨xs, obT, h1, h2, h3, h4, h5, h6⟩ := ih (by rw [St.put_ob]; exact hw)
  rw [St.put_ob] at h2
  have hst : ∀ ys t, lk (stps (s.put o.dst x) ys).tm t = lk (stps ((⟨s.tm, ob'⟩ : St).put o.dst x) ys).tm t := fun ys => stps_tm ys _ _ fun t => by cases o.dst <;> rfl
  refine ⟨(o, some x) :: xs, fun j => match j with | 0 => s.ob | j + 1 => obT j, by simp [h1], rfl, h3, fun t => (hst xs t).trans (h4 t), fun j hj => ?_, fun j o' x' hj => ?_⟩
  ·cases j with
   | zero => exact hw0
   | succ j => exact h5 j (by simpa using hj)
  ·cases j with
   | zero =>
    simp at hj
    obtain ⟨rfl, rfl⟩ := hj
    refine ⟨hd, hg, fun he => ⟨x, rfl, ?_⟩, fun he => ?_⟩
    ·show EOp C ⟨s.tm, s.ob⟩ o x (obT 0)
     rw [h2]; exact hv
    ·rw [Nat.add_zero, hne] at he; cases he
   | succ j =>
    obtain ⟨a1, a2, a3, a4⟩ := h6 j o' x' (by simpa using hj)
    rw [show i + 1 + j = i + (j + 1) by omega] at a3 a4
    refine ⟨a1, a2.look (hst _), fun he => ?_, fun he => ⟨(a4 he).1, fun y hy => ?_⟩⟩
    ·obtain ⟨y, hy, hv'⟩ := a3 he
     exact ⟨y, hy, hv'.look (hst _)⟩
    ·rcases (a4 he).2 y hy with ⟨b1, b2⟩ | b1
     ·exact .inl ⟨b1, b2.look (hst _)⟩
     ·exact .inr fun ob2 hw2 => (b1 ob2 hw2).look (hst _)
def RGw (C : Cx) (_id : Nat) (l : List Oper) (E : List Nat) (wob : List AObj) (i : Nat) (ops : List Oper) (s : St) (K : St → Prop) : Prop := ∃ s', RDw C l E wob i ops s s' ∧ K s'
theorem RDw.ofFixE_ {C : Cx} {l : List Oper} {E : List Nat} {wob : List AObj} {rest : List Oper} {s' : St} {pu : Bool} {ops : List Oper} {s s1 : St} (h : SD C l.toArray pu ops s s1) : pu = true → ∀ {i : Nat}, (∀ j, j < ops.length → E.contains (i + j) = false ∧ FixedP l E (i + j)) → RDw C l E wob (i + ops.length) rest s1 s' → RDw C l E wob i (ops ++ rest) s s' := by
 induction h with
 | nil s => exact fun _ _ _ hr => hr
 | @vop o r s s1 x hg hd hv hh ih =>
  intro hpu i hf hr
  refine .fix hg hd (hf 0 (by simp)).1 (hf 0 (by simp)).2 hv (ih hpu (i := i + 1) (fun j hj => ?_) ?_)
  ·rw [show i + 1 + j = i + (j + 1) by omega]; exact hf (j + 1) (by simpa using hj)
  ·rw [show i + 1 + r.length = i + (o :: r).length by simp; omega]; exact hr
 | @skip o r s s1 hg hd hh ih =>
  intro hpu i hf hr
  refine .skip hg hd (hf 0 (by simp)).1 (ih hpu (i := i + 1) (fun j hj => ?_) ?_)
  ·rw [show i + 1 + j = i + (j + 1) by omega]; exact hf (j + 1) (by simpa using hj)
  ·rw [show i + 1 + r.length = i + (o :: r).length by simp; omega]; exact hr
 | eff hp => intro hpu; rw [hpu] at hp; cases hp
 | ghost hp => intro hpu; rw [hpu] at hp; cases hp
 | same hs hh ih => exact fun hpu _ hf hr => .same hs (ih hpu hf hr)
theorem RDw.ofFixE {C : Cx} {l : List Oper} {E : List Nat} {wob : List AObj} {ops rest : List Oper} {s s1 s' : St} (h : SD C l.toArray true ops s s1) {i : Nat} (hf : ∀ j, j < ops.length → E.contains (i + j) = false ∧ FixedP l E (i + j)) (hr : RDw C l E wob (i + ops.length) rest s1 s') : RDw C l E wob i (ops ++ rest) s s' :=
 RDw.ofFixE_ h rfl hf hr
section
variable {C : Cx} {r : List It} {Q : Exit → St → Prop} {tm : List (Nat × X)} {ob : List AObj} {id : Nat} {l : List Oper} {E : List Nat} {wob : List AObj} {i : Nat} {ops : List Oper} {K : St → Prop}
theorem qEr_ (wob : List AObj) (E : List Nat) (ho : ordOK l = true) (hE : chainB (ancs l) E = true) (hw : Wk wob ob)
  (h : RGw C id l E wob 0 l ⟨tm, ob⟩ (fun s' => go C r s' Q)) : go C (.code (.region id l.toArray true) :: r) ⟨tm, ob⟩ Q := by
 intro a w hr
 obtain ⟨s', h1, h2⟩ := h
 obtain ⟨xs, obT, e1, e2, e3, e4, e5, e6⟩ := h1.dataE hw
 have hlen : xs.length = l.length := by rw [← e1]; simp
 have hget : ∀ i, i < l.length → ∃ o x, xs[i]? = some (o, x) := fun i hi => by
  have : i < xs.length := by omega
  exact ⟨xs[i].1, xs[i].2, List.getElem?_eq_getElem this⟩
 have hfin : ∀ a w, C.Rel ⟨(stps ⟨tm, ob⟩ xs).tm, obT l.length⟩ a w → C.Rel s' a w := by
  intro a w hr
  rw [e3] at hr
  exact StEq.rel (s := ⟨(stps ⟨tm, ob⟩ xs).tm, s'.ob⟩) (s' := s') ⟨fun t => (e4 t).symm, rfl⟩ hr
 refine wp_region_any C.E.hM ?_
 refine Dr.all (s := ⟨tm, ob⟩) (xs := xs) (obT := obT) (eff := fun i => E.contains i) e1 (ordOK_spec ho) (fun i hi he => ?_) (fun i j hij hj h3 h4 => ?_) (fun i o x hi => ⟨(e6 i o x hi).1, (e6 i o x hi).2.1⟩) (fun i o x he hi y hy => ?_) (fun i o x he hi => ?_) (fun a w hr => ⟨s', hfin a w hr, h2⟩) _ _ _ _ ?_ ⟨by simp, fun j o' ed ho' hL => ?_, tm, 0, Nat.zero_le _, fun i hi => by omega, fun i _ hi _ => ?_, ?_, fun t _ => rfl, fun j o' x t hj hL => ?_⟩
 ·obtain ⟨o, x, hx⟩ := hget i hi
  exact ((e6 i o x hx).2.2.2 (by rw [Nat.zero_add]; exact he)).1
 ·exact (fixedB_ok (List.all_eq_true.1 hE j (by simpa using h4)) i h3).1 hij
 ·rcases ((e6 i o x hi).2.2.2 (by rw [Nat.zero_add]; exact he)).2 y hy with ⟨h3, h4⟩ | h3
  ·rw [Nat.zero_add] at h3
   exact .inl ⟨fun e _ he' => h3 e he', h4⟩
  ·exact .inr fun k hk => h3 _ (e5 k hk)
 ·exact (e6 i o x hi).2.2.1 (by rw [Nat.zero_add]; exact he)
 ·refine Nat.le_trans (List.length_filter_le _ _) ?_
  simp
 ·exfalso
  by_cases hlt : j < l.length <;> simp [hlt] at hL
 ·rw [Array.getD_eq_getD_getElem?, Array.getElem?_replicate]
  split <;> rfl
 ·rw [e2]
  obtain ⟨F, σ, r1, r2, r3, hi, r4, r5, hs⟩ := hr
  have hext : Ext w F { w with drawn := w.drawn + 1 } F := ⟨⟨rfl, rfl, rfl, Nat.le_refl _, fun _ _ => rfl⟩, fun _ h => h, fun _ h => .inl h, hi.flt⟩
  exact ⟨F, σ, r1.step hext.below, r2, r3, hi.ext hext, r4, r5, fun t => (hs t).ext hext hi.flt⟩
 ·exfalso
  by_cases hlt : j < l.length <;> simp [hlt] at hL
theorem qErT (E T : List Nat) (ho : ordOK l = true) (hE : chainB (ancs l) E = true) (hw : wkP (killT T ob).length (killT T ob) ob) (h : RGw C id l E (killT T ob) 0 l ⟨tm, ob⟩ (fun s' => go C r s' Q)) : go C (.code (.region id l.toArray true) :: r) ⟨tm, ob⟩ Q := qEr_ _ E ho hE (Wk.mk' hw) h
theorem reN (h : K ⟨tm, ob⟩) : RGw C id l E wob i [] ⟨tm, ob⟩ K := ⟨_, .nil _ _, h⟩
theorem reF (n : Nat) (hc : rgFB l E i n = true) (hn : Nat.ble n ops.length = true) (h : SGo C l.toArray true (ops.take n) ⟨tm, ob⟩ (fun s1 => RGw C id l E wob (i + n) (ops.drop n) ⟨s1.tm, ob⟩ K)) : RGw C id l E wob i ops ⟨tm, ob⟩ K := by
 obtain ⟨s1, h1, s', h2, h3⟩ := h
 have hlen : (ops.take n).length = n := by rw [List.length_take]; have := Nat.le_of_ble_eq_true hn; omega
 have e : s1 = ⟨s1.tm, ob⟩ := by have := h1.obEq; cases s1; simp at this; rw [this]
 refine ⟨s', ?_, h3⟩
 rw [← List.take_append_drop n ops]
 rw [← e] at h2
 refine RDw.ofFixE h1 (fun j hj => ?_) (by rw [hlen]; exact h2)
 have := List.all_eq_true.1 hc j (by rw [List.mem_range]; omega)
 rw [Bool.and_eq_true] at this
 exact ⟨by simpa using this.2, fixedB_ok this.1⟩
theorem reX {o : Oper} {rest : List Oper} {x : X} {ob' : List AObj} (hne : E.contains i = true) (hg : guardX l.toArray tm o = some true) (hd : dstOK C o = true) (hv : EOp C ⟨tm, ob⟩ o x ob') (hw : wkP wob.length wob ob') (h : RGw C id l E wob (i + 1) rest ((⟨tm, ob'⟩ : St).put o.dst x) K) : RGw C id l E wob i (o :: rest) ⟨tm, ob⟩ K :=
 let ⟨s', h1, h2⟩ := h; ⟨s', .eff (guardX_ok hg) hd hne hv (Wk.mk' hw) h1, h2⟩
theorem reV {o : Oper} {rest : List Oper} {x : X} {d : Nat} {p : Prop} (hne : E.contains i = false) (hg : guardX l.toArray tm o = some true) (hdst : o.dst = some d) (hd : Nat.blt d C.N = true) (hn : Nat.ble C.base.n0 wob.length = true)
  (hv : vop C ⟨dimT wob.length tm, wob⟩ o = some (p, x)) (hp : p) (h : RGw C id l E wob (i + 1) rest ⟨(d, x) :: tm, ob⟩ K) : RGw C id l E wob i (o :: rest) ⟨tm, ob⟩ K := by
 obtain ⟨s', h1, h2⟩ := h
 refine ⟨s', .weak (guardX_ok hg) (by simp only [dstOK, hdst]; exact hd) hne (fun ob' hw' => ((vop_ok hv hp).wk hw' (Nat.le_of_ble_eq_true hn) (lk_dim_below _ tm)).dim) ?_, h2⟩
 rw [show (⟨tm, ob⟩ : St).put o.dst x = ⟨(d, x) :: tm, ob⟩ by rw [hdst]; rfl]
 exact h1
end
section
variable {C : Cx} {tm : List (Nat × X)} {ob : List AObj} {id : Nat} {l : List Oper} {E : List Nat} {wob : List AObj} {i : Nat} {rest : List Oper} {K : St → Prop} {o : Oper} {d : Nat} {p : Prop} {x : X}
end
end Go.Abs
namespace Go.Abs
open Go Go.RowKit
structure Kp (C : Cx) (ob : List AObj) (σ : Sg) (w : World) (F : Nat → Prop) (w' : World) (F' : Nat → Prop) : Prop where
 kept : Kept C.O C.w0 w'
 more : ∀ b, F b → F' b
 new : ∀ b, F' b → F b ∨ ¬ C.O b
 same : ∀ b, F b → w'.heap[b]? = w.heap[b]?
 inv : WInv C.E C.base F' σ ob w'
theorem Kp.of_ext {C : Cx} {ob : List AObj} {σ : Sg} {w w' : World} {F F' : Nat → Prop} (h1 : Kept C.O C.w0 w) (hi : WInv C.E C.base F σ ob w) (he : Ext w F w' F') : Kp C ob σ w F w' F' :=
 ⟨h1.step he.below, he.more, fun b hb => (he.new b hb).imp id h1.new, he.keep hi.flt, hi.ext he⟩
def POp (C : Cx) (s : St) (o : Oper) (x : X) : Prop :=
 ∀ (F : Nat → Prop) (σ : Sg) (w : World) (a : Act) (K : Act → World → Prop) (Q : Exit → Act → World → Prop), Kept C.O C.w0 w → WInv C.E C.base F σ s.ob w →
  (∀ y ∈ o.op.operands.toList, RdX w F σ (s.ev C.E y) (a.eval y)) →
  (∀ v w' F', Kp C s.ob σ w F w' F' → RdX w' F' σ x v → K (a.put o.dst v) w') → o.wp C.E.P a w K Q
theorem VOp.pop {C : Cx} {s : St} {o : Oper} {x : X} (h : VOp C s o x) : POp C s o x :=
 fun F σ w a K Q h1 hi hr hK => h F σ w a K Q hi hr fun v w' F' he hv => hK v w' F' (Kp.of_ext h1 hi he) hv
theorem StEq.pop {C : Cx} {s s' : St} (h : StEq s s') {o : Oper} {x : X} (hv : POp C s o x) : POp C s' o x := by
 intro F σ w a K Q h1 hi ho hK
 refine hv F σ w a K Q h1 (by rw [← h.2]; exact hi) (fun y hy => ?_) (fun v w' F' hk hx => hK v w' F' (by rw [h.2]; exact hk) hx)
 rw [← h.ev]
 exact ho y hy
theorem Ords.allP {C : Cx} {s : St} {xs : List (Oper × Option X)} {ops : List Oper} (hx : xs.map (·.1) = ops) (ho : OrdOK ops)
  (hv : ∀ (i : Nat) o x, xs[i]? = some (o, x) → dstOK C o = true ∧ GuardIs ops.toArray (stps s (xs.take i)) o x.isSome ∧ ∀ y, x = some y → POp C (stps s (xs.take i)) o y)
  {Q : Exit → Act → World → Prop} (hq : ∀ a w, C.Rel (stps s xs) a w → Q .normal a w) :
  ∀ (fuel : Nat) (L : Array Bool) (a : Act) (w : World), unl ops.length L ≤ fuel → Ords C s xs ops L a w → wpAny C.E.P .any ops.toArray Q fuel L a w := by
 have hxo : ∀ (i : Nat) o, ops[i]? = some o → ∃ x, xs[i]? = some (o, x) := by
  intro i o hi
  rw [← hx, List.getElem?_map] at hi
  cases hxi : xs[i]? with
  | none => rw [hxi] at hi; cases hi
  | some p => rw [hxi] at hi; simp at hi; exact ⟨p.2, by rw [← hi]⟩
 have hox : ∀ (i : Nat) o x, xs[i]? = some (o, x) → ops[i]? = some o := by
  intro i o x hi
  rw [← hx, List.getElem?_map, hi]; rfl
 have hlen : xs.length = ops.length := by rw [← hx]; simp
 have hdst : ∀ (j : Nat) (p : Oper) d, ops.toArray[j]? = some p → p.dst = some d → d < C.N := by
  intro j p d hj hd
  rw [List.getElem?_toArray] at hj
  obtain ⟨x, hx'⟩ := hxo j p hj
  exact dstOK_lt (hv j p x hx').1 d hd
 -- what the state behind the first ones says of a slot
 have hlook : ∀ (i : Nat) (o : Oper) (x : Option X) (L : Array Bool) (a : Act) (w : World) (F : Nat → Prop) (σ : Sg), xs[i]? = some (o, x) → L.getD i false = false →
   (∀ (j : Nat) (o : Oper) (e : Edge), ops[j]? = some o → L.getD j false = true → e ∈ o.after → Region.binds .any e = true → L.getD e.on false = true) →
   (∀ e ∈ o.after, Region.binds .any e = true → L.getD e.on false = true) →
   (∀ t, (∀ (j : Nat) o, ops[j]? = some o → L.getD j false = true → o.dst ≠ some t) → RdX w F σ (lk s.tm t) (a.tmps.getD t undef)) →
   (∀ (j : Nat) o x t, xs[j]? = some (o, x) → L.getD j false = true → o.dst = some t → RdX w F σ (x.getD .und) (a.tmps.getD t undef)) →
   ∀ t ∈ o.looksAt ops.toArray, RdX w F σ (lk (stps s (xs.take i)).tm t) (a.tmps.getD t undef) := by
  intro i o x L a w F σ hi hL hdown hready h1 h2 t ht
  by_cases hw : ∃ (j : Nat) (p : Oper), ops[j]? = some p ∧ p.dst = some t
  ·obtain ⟨j, p, hj, hp⟩ := hw
   obtain ⟨y, hy⟩ := hxo j p hj
   have huniq : ∀ (k : Nat) (q : Oper), k ≠ j → ops[k]? = some q → q.dst ≠ some t := fun k q hk hq => ho.uniq k j q p t hk hq hj hp
   by_cases hij : i = j
   ·subst hij
    have e : lk (stps s (xs.take i)).tm t = lk s.tm t := by
     refine lk_stps_other _ _ _ fun q hq => ?_
     obtain ⟨k, hk⟩ := List.getElem?_of_mem hq
     rw [List.getElem?_take] at hk
     split at hk
     ·exact huniq k q.1 (by omega) (hox k q.1 q.2 hk)
     ·cases hk
    rw [e]
    refine h1 t fun k q hk hkl => ?_
    by_cases hki : k = i
    ·subst hki; rw [hL] at hkl; cases hkl
    ·exact huniq k q hki hk
   ·obtain ⟨ha, hb⟩ := ho.looks i j o p t hij (hox i o x hi) hj hp ht
    by_cases hlt : j < i
    ·obtain ⟨e, he, hbd, hej⟩ := ha hlt
     have hjl : L.getD j false = true := by rw [← hej]; exact hready e he hbd
     have e1 : lk (stps s (xs.take i)).tm t = y.getD .und := by
      refine lk_stps_one _ _ t j p y (by rw [List.getElem?_take, if_pos hlt]; exact hy) hp fun k q hk hq => ?_
      rw [List.getElem?_take] at hq
      split at hq
      ·exact huniq k q.1 hk (hox k q.1 q.2 hq)
      ·cases hq
     rw [e1]
     exact h2 j p y t hy hjl hp
    ·obtain ⟨e, he, hbd, hei⟩ := hb hlt
     have hjl : L.getD j false = false := by
      cases hjl : L.getD j false with
      | false => rfl
      | true =>
       have := hdown j p e hj hjl he hbd
       rw [hei, hL] at this
       cases this
     have e1 : lk (stps s (xs.take i)).tm t = lk s.tm t := by
      refine lk_stps_other _ _ _ fun q hq => ?_
      obtain ⟨k, hk⟩ := List.getElem?_of_mem hq
      rw [List.getElem?_take] at hk
      split at hk
      ·exact huniq k q.1 (by omega) (hox k q.1 q.2 hk)
      ·cases hk
     rw [e1]
     refine h1 t fun k q hk hkl => ?_
     by_cases hkj : k = j
     ·subst hkj; rw [hjl] at hkl; cases hkl
     ·exact huniq k q hkj hk
  ·have hno : ∀ (k : Nat) (q : Oper), ops[k]? = some q → q.dst ≠ some t := fun k q hk hq => hw ⟨k, q, hk, hq⟩
   have e1 : lk (stps s (xs.take i)).tm t = lk s.tm t := by
    refine lk_stps_other _ _ _ fun q hq => ?_
    obtain ⟨k, hk⟩ := List.getElem?_of_mem hq
    rw [List.getElem?_take] at hk
    split at hk
    ·exact hno k q.1 (hox k q.1 q.2 hk)
    ·cases hk
   rw [e1]
   exact h1 t fun k q hk _ => hno k q hk
 -- the end
 have hfin : ∀ (L : Array Bool) (a : Act) (w : World), (∀ i, i < ops.length → L.getD i false = true) → Ords C s xs ops L a w → Q .normal a w := by
  intro L a w hall hO
  obtain ⟨F, σ, r1, r2, r3, hi, r4, r5, h1, h2⟩ := hO.rel
  refine hq a w ⟨F, σ, r1, r2, r3, by rw [stps_ob]; exact hi, r4, r5, fun t => ?_⟩
  by_cases hw : ∃ (j : Nat) (p : Oper), ops[j]? = some p ∧ p.dst = some t
  ·obtain ⟨j, p, hj, hp⟩ := hw
   obtain ⟨y, hy⟩ := hxo j p hj
   rw [lk_stps_one s xs t j p y hy hp fun k q hk hq => ho.uniq k j q.1 p t hk (hox k q.1 q.2 hq) hj hp]
   exact h2 j p y t hy (hall j (List.getElem?_eq_some_iff.1 hj).1) hp
  ·have hno : ∀ (k : Nat) (q : Oper), ops[k]? = some q → q.dst ≠ some t := fun k q hk hq => hw ⟨k, q, hk, hq⟩
   rw [lk_stps_other s xs t fun q hq => by
    obtain ⟨k, hk⟩ := List.getElem?_of_mem hq
    exact hno k q.1 (hox k q.1 q.2 hk)]
   exact h1 t fun k q hk _ => hno k q hk
 -- whoever is ready
 have hready : ∀ (L : Array Bool) i, i ∈ Region.ready .any ops.toArray L → L.size = ops.length → ∃ o, ops[i]? = some o ∧ L.getD i false = false ∧ ∀ e ∈ o.after, Region.binds .any e = true → L.getD e.on false = true := by
  intro L i hi hs
  unfold Region.ready at hi
  rw [List.mem_filter, List.mem_range] at hi
  obtain ⟨hlt, h⟩ := hi
  rw [List.size_toArray] at hlt
  rw [Bool.and_eq_true] at h
  obtain ⟨h1, h2⟩ := h
  have ho' : ops[i]? = some ops[i] := List.getElem?_eq_getElem hlt
  refine ⟨ops[i], ho', ?_, ?_⟩
  ·rw [← getD_tf (by omega)]; simpa using h1
  ·intro e he hbd
   rw [List.getElem?_toArray, ho'] at h2
   simp only [Option.map_some, Option.getD_some] at h2
   obtain ⟨k, hk, rfl⟩ := Array.getElem_of_mem he
   have := Array.all_eq_true.1 h2 k hk
   rw [hbd] at this
   simpa using this
 have hsome : ∀ (L : Array Bool) (a : Act) (w : World), Ords C s xs ops L a w → Region.ready .any ops.toArray L = [] → ∀ i, i < ops.length → L.getD i false = true := by
  intro L a w hO hr i
  induction i using Nat.strongRecOn with
  | _ i ih =>
   intro hi
   cases hL : L.getD i false with
   | true => rfl
   | false =>
    have ho' : ops[i]? = some ops[i] := List.getElem?_eq_getElem hi
    have hm : i ∈ Region.ready .any ops.toArray L := by
     unfold Region.ready
     rw [List.mem_filter, List.mem_range, List.size_toArray]
     refine ⟨hi, ?_⟩
     rw [getD_tf (by rw [hO.size]; exact hi), hL, List.getElem?_toArray, ho']
     simp only [Bool.not_false, Bool.true_and, Option.map_some, Option.getD_some]
     refine Array.all_eq_true.2 fun k hk => ?_
     cases hbd : Region.binds .any (ops[i]).after[k] with
     | false => simp
     | true =>
      have hb := ho.back i _ _ ho' (Array.getElem_mem hk) hbd
      rw [ih _ hb (by omega)]
      simp
    rw [hr] at hm
    cases hm
 intro fuel
 induction fuel with
 | zero =>
  intro L a w hu hO
  have hall : ∀ i, i < ops.length → L.getD i false = true := fun i hi => by
   rw [← getD_tf (by rw [hO.size]; exact hi)]
   exact unl_zero (by omega) i hi
  refine ⟨?_, hfin L a w hall hO⟩
  refine List.eq_nil_iff_forall_not_mem.2 fun i hi => ?_
  obtain ⟨o, h1, h2, _⟩ := hready L i hi hO.size
  rw [hall i (List.getElem?_eq_some_iff.1 h1).1] at h2
  cases h2
 | succ fuel ih =>
  intro L a w hu hO
  refine ⟨fun hr => hfin L a w (hsome L a w hO hr) hO, fun i hi => ?_⟩
  obtain ⟨o, hoi, hL, hed⟩ := hready L i hi hO.size
  have hlt : i < ops.length := (List.getElem?_eq_some_iff.1 hoi).1
  obtain ⟨x, hxi⟩ := hxo i o hoi
  obtain ⟨hd, hg, hvop⟩ := hv i o x hxi
  obtain ⟨F, σ, r1, r2, r3, hinv, r4, r5, h1, h2⟩ := hO.rel
  have hl := hlook i o x L a w F σ hxi hL hO.down hed h1 h2
  have hu' : unl ops.length (L.setIfInBounds i true) ≤ fuel := by
   have := unl_set (L := L) hO.size hlt (by rw [getD_tf (by rw [hO.size]; exact hlt)]; exact hL)
   omega
  have hwant : Region.wanted o (yielded ops.toArray a.tmps) = x.isSome := by
   refine hg.wanted (N := C.N) hdst r5 (w := w) (F := F) (σ := σ) fun j pol t hgj ht => hl t ?_
   unfold Oper.looksAt
   refine List.mem_append.2 (.inr ?_)
   rw [hgj]
   show t ∈ ((ops.toArray[j]?).bind (·.dst)).toList
   rw [ht]
   simp
  -- the step
  have hstep : ∀ v w' F', Kp C s.ob σ w F w' F' → (o.dst ≠ none → RdX w' F' σ (x.getD .und) v) → Ords C s xs ops (L.setIfInBounds i true) (a.put o.dst v) w' := by
   intro v w' F' he hvv
   have hset : ∀ j, (L.setIfInBounds i true).getD j false = (L.getD j false || j == i) := fun j => getD_set_true (by rw [hO.size]; exact hlt)
   have hother : ∀ t, o.dst ≠ some t → (a.put o.dst v).tmps.getD t undef = a.tmps.getD t undef := by
    intro t ht
    cases hdd : o.dst with
    | none => rfl
    | some d =>
     simp only [Act.put, Array.getD_eq_getD_getElem?]
     rw [Array.getElem?_setIfInBounds_ne (fun e => ht (by rw [hdd, e]))]
   refine ⟨by simp [hO.size], fun j p e hj hjl hee hbd => ?_, F', σ, he.kept, fun b hb => he.more _ (r2 b hb), fun b hb => ?_, he.inv, by rw [Act.put_def]; exact r4, by rw [Act.put_size]; exact r5, fun t ht => ?_, fun j p y t hj hjl hp => ?_⟩
   ·rw [hset] at hjl ⊢
    rw [Bool.or_eq_true] at hjl ⊢
    rcases hjl with hjl | hjl
    ·exact .inl (hO.down j p e hj hjl hee hbd)
    ·obtain rfl : j = i := by simpa using hjl
     rw [hoi] at hj
     cases hj
     exact .inl (hed e hee hbd)
   ·rcases he.new b hb with h | h
    ·exact r3 b h
    ·exact .inr h
   ·have hit : o.dst ≠ some t := ht i o hoi (by rw [hset]; simp)
    rw [hother t hit]
    exact (h1 t fun j q hj hjl => ht j q hj (by rw [hset, hjl]; rfl)).mono he.more he.same fun _ _ h => h
   ·rw [hset, Bool.or_eq_true] at hjl
    by_cases hji : j = i
    ·subst hji
     rw [hxi] at hj
     cases hj
     have hlt' := dstOK_lt hd t hp
     rw [hp]
     simp only [Act.put]
     have : (a.tmps.setIfInBounds t v).getD t undef = v := by simp [r5, hlt']
     rw [this]
     exact hvv (by rw [hp]; simp)
    ·have hjl' : L.getD j false = true := by
      rcases hjl with h | h
      ·exact h
      ·exact absurd (by simpa using h) hji
     rw [hother t (ho.uniq i j o p t (fun e => hji e.symm) hoi (hox j p y hj) hp)]
     exact (h2 j p y t hj hjl' hp).mono he.more he.same fun _ _ h => h
  unfold wpOp
  rw [List.getElem?_toArray, hoi]
  simp only
  cases hx' : x with
  | none =>
   rw [hx'] at hwant
   rw [if_neg (by rw [hwant]; simp)]
   refine ih _ _ _ hu' (hstep undef w F (Kp.of_ext r1 hinv (Ext.refl hinv.flt)) fun _ => ?_)
   rw [hx']; rfl
  | some y =>
   rw [hx'] at hwant
   rw [if_pos (by rw [hwant]; rfl)]
   refine .inl (hvop y hx' F σ w a _ Q r1 (by rw [stps_ob]; exact hinv) (fun z hz => ?_) fun v w' F' he hvv => ih _ _ _ hu' (hstep v w' F' (by rw [stps_ob] at he; exact he) fun _ => by rw [hx']; exact hvv))
   cases z with
   | tmp t =>
    refine hl t ?_
    unfold Oper.looksAt
    refine List.mem_append.2 (.inl ?_)
    rw [List.mem_filterMap]
    exact ⟨_, hz, rfl⟩
   | const v => exact ofConst_rd v
   | global g => exact findG_rd hinv.glob.1 g
   | func f => exact Rd.imm _ rfl
section
variable {C : Cx} {s : St} {o : Oper}
theorem p_callG {f : FuncId} {xs ys : List X} {ob1 : List AObj} {rx : X} {sel : List Nat}
    (hcall : ∀ (w : World) (a : Act) (F : Nat → Prop) (σ : Sg), (∀ y ∈ o.op.operands.toList, RdX w F σ (s.ev C.E y) (a.eval y)) → ∃ vals : List Value, (execOp a.eval o).run C.E.P w = .ok (.enter f vals.toArray) w ∧ ys.length = vals.length ∧ ∀ (i : Nat) x v, ys[i]? = some x → vals[i]? = some v → RdX w F σ x v)
    (hn : nodupB sel = true) (hob : renObs sel s.ob sel = some ob1) (hx : renL sel ys = some xs) (h : EvS C.E f xs ob1 rx ob1) (hback : backL (bk sel s.ob.length) sel ob1 s.ob = s.ob) :
    POp C s o (bkX (bk sel s.ob.length) rx) := by
  intro F σ w a K Q h1 hi hr hK
  obtain ⟨vals, hrun, hvl, hvals⟩ := hcall w a F σ hr
  obtain ⟨r1, r2, r3, hi1⟩ := hi.ren sel hn hob
  obtain ⟨l1, l2⟩ := renL_get hx
  have hargs : ∀ (i : Nat) x v, xs[i]? = some x → vals[i]? = some v → RdX w F (sel.map fun k => σ.getD k (0, 0, 0)) x v := by
    intro i x v hxi hvi
    obtain ⟨x0, g1, g2⟩ := l2 i x hxi
    exact renX_rd (fun i o ho => (r1 i o ho).2) g2 (hvals i x0 v g1 hvi)
  unfold Oper.wp
  rw [hrun]
  refine (h w F _ vals hi1 (by rw [l1]; exact hvl.symm) hargs).mono ?_
  rintro e w' ⟨v, F', σ', rfl, k1, k2, k3, k4, k5, k6⟩
  have hm : sel.length ≤ ob1.length := by rw [r2]; exact Nat.le_refl _
  have hσn : σ.length = s.ob.length := hi.len
  have hg : ∀ (i : Nat) p, σ'[i]? = some p → (σ ++ σ'.drop sel.length)[bk sel s.ob.length i]? = some p := by
    intro i p hp
    unfold bk
    cases hb : Nat.blt i sel.length with
    | true =>
      have hlt : i < sel.length := by simpa using hb
      have hk := List.getElem?_eq_getElem hlt
      obtain ⟨q1, q2⟩ := r1 i _ hk
      have hσl : i < (sel.map fun k => σ.getD k (0, 0, 0)).length := by simpa using hlt
      have hp' := k4 i _ (by rw [r2]; exact hlt) (List.getElem?_eq_getElem hσl)
      rw [hp] at hp'
      rw [← List.getElem?_eq_getElem hσl, q2] at hp'
      simp only [cond_true, List.getD_eq_getElem?_getD, hk, Option.getD_some]
      rw [List.getElem?_append_left (by rw [hσn]; exact q1)]
      exact hp'.symm
    | false =>
      have hge : ¬ i < sel.length := fun h => by
        have : Nat.blt i sel.length = true := by simpa using h
        rw [hb] at this
        cases this
      simp only [cond_false]
      rw [List.getElem?_append_right (by omega), List.getElem?_drop, ← hp]
      congr 1
      omega
  have hheld : ∀ (k : Nat) z p, k ∉ sel → s.ob[k]? = some z → z.live = true → σ[k]? = some p → Held w ob1 (sel.map fun k => σ.getD k (0, 0, 0)) p.1 := by
    intro k z p hk hz hl hp
    refine ⟨(hi.obs k z p hz hp).lt hl, ?_⟩
    rintro ⟨i, x, p', e1, e2, e3, e4⟩
    obtain ⟨k', x', f1, f2, f3⟩ := r3 i x e1
    rw [(r1 i k' f1).2] at e3
    exact hi.inj k' k x' z p' p (fun e => hk (e ▸ List.mem_of_getElem? f1)) f2 (by rw [f3]; exact e2) hz hl e3 hp e4
  have hOld : ∀ b, C.O b → Held w ob1 (sel.map fun k => σ.getD k (0, 0, 0)) b := by
    intro b hb
    refine ⟨Nat.lt_of_lt_of_le (h1.old b hb) h1.size, ?_⟩
    rintro ⟨i, x, p', e1, e2, e3, e4⟩
    obtain ⟨k', x', f1, f2, f3⟩ := r3 i x e1
    rw [(r1 i k' f1).2] at e3
    exact ((hi.obs k' x' p' f2 e3).notO (by rw [f3]; exact e2)).1 (e4 ▸ hb)
  have hF : ∀ b, F b → Held w ob1 (sel.map fun k => σ.getD k (0, 0, 0)) b := by
    intro b hb
    refine ⟨hi.flt b hb, ?_⟩
    rintro ⟨i, x, p', e1, e2, e3, e4⟩
    obtain ⟨k', x', f1, f2, f3⟩ := r3 i x e1
    rw [(r1 i k' f1).2] at e3
    exact ((hi.obs k' x' p' f2 e3).notO (by rw [f3]; exact e2)).2 (e4 ▸ hb)
  have hkeep : ∀ b, F b → w'.heap[b]? = w.heap[b]? := fun b hb => k1.block b (hF b hb)
  have happ : ∀ (o : Nat) p, σ[o]? = some p → (σ ++ σ'.drop sel.length)[o]? = some p := fun o p hp => by
    rw [List.getElem?_append_left (List.getElem?_eq_some_iff.1 hp).1]; exact hp
  have hcase : ∀ (k : Nat) z p, (backL (bk sel s.ob.length) sel ob1 s.ob)[k]? = some z → (σ ++ σ'.drop sel.length)[k]? = some p →
      (k ∉ sel ∧ k < s.ob.length ∧ s.ob[k]? = some z ∧ σ[k]? = some p) ∨ ∃ i y, ob1[i]? = some y ∧ z = bkO (bk sel s.ob.length) y ∧ bk sel s.ob.length i = k ∧ σ'[i]? = some p := by
    intro k z p hz hp
    have fin : ∀ i y, ob1[i]? = some y → bk sel s.ob.length i = k → σ'[i]? = some p := by
      intro i y hy e
      have hil : i < σ'.length := by rw [k5.len]; exact (List.getElem?_eq_some_iff.1 hy).1
      have := hg i _ (List.getElem?_eq_getElem hil)
      rw [e, hp] at this
      rw [List.getElem?_eq_getElem hil, this]
    unfold backL at hz
    rcases Nat.lt_or_ge k s.ob.length with hlt | hge
    · rw [List.getElem?_append_left (by rw [setObs_len]; exact hlt)] at hz
      rcases setObs_get sel _ s.ob k z (by simpa using hm) hz with ⟨g1, g2⟩ | ⟨i, g1, g2⟩
      · rw [List.getElem?_append_left (by rw [hσn]; exact hlt)] at hp
        exact .inl ⟨g1, hlt, g2, hp⟩
      · rw [List.getElem?_map, Option.map_eq_some_iff] at g2
        obtain ⟨y, hy, rfl⟩ := g2
        have hbk : bk sel s.ob.length i = k := by
          have hil := (List.getElem?_eq_some_iff.1 g1).1
          unfold bk
          rw [show Nat.blt i sel.length = true by simpa using hil]
          simp [List.getD_eq_getElem?_getD, g1]
        exact .inr ⟨i, y, hy, rfl, hbk, fin i y hy hbk⟩
    · rw [List.getElem?_append_right (by rw [setObs_len]; exact hge), setObs_len, List.getElem?_map, Option.map_eq_some_iff] at hz
      obtain ⟨y, hy, rfl⟩ := hz
      rw [List.getElem?_drop] at hy
      have hbk : bk sel s.ob.length (sel.length + (k - s.ob.length)) = k := by
        unfold bk
        have hf' : Nat.blt (sel.length + (k - s.ob.length)) sel.length = false := by
          cases h : Nat.blt (sel.length + (k - s.ob.length)) sel.length with
          | false => rfl
          | true => have : sel.length + (k - s.ob.length) < sel.length := by simpa using h
                    omega
        rw [hf']
        simp only [cond_false]
        omega
      exact .inr ⟨_, y, hy, rfl, hbk, fin _ y hy hbk⟩
  have hdrop : σ'.drop sel.length = [] := by
    refine List.drop_eq_nil_of_le ?_
    rw [k5.len, r2]
    exact Nat.le_refl _
  have hinv : WInv C.E C.base F' (σ ++ σ'.drop sel.length) (backL (bk sel s.ob.length) sel ob1 s.ob) w' := by
    refine ⟨k5.flt, k5.glob, ?_, fun k z p hz hp => ?_, fun k k' z z' p p' hne hz hl hz' hl' hp hp' => ?_, fun i p hi' hp => happ _ _ (hi.pre i p hi' hp)⟩
    · simp only [backL, List.length_append, setObs_len, List.length_map, List.length_drop, hσn, k5.len]
    · rcases hcase k z p hz hp with ⟨g1, g2, g3, g4⟩ | ⟨i, y, g1, rfl, g2, g3⟩
      · exact (hi.obs k z p g3 g4).mono k2 hkeep happ (fun hl => k1.block _ (hheld k z p g1 g3 hl g4)) fun hl hnf hf => by
          rcases k3 _ hf with q | q
          · exact hnf q
          · exact q (hheld k z p g1 g3 hl g4)
      · refine (bkO_ok hg (k5.obs i y p g1 g3)).own fun hl ho => ?_
        rw [bkO_live] at hl
        exact ((k5.obs i y p g1 g3).notO hl).1 (hOld _ ho)
    · rcases hcase k z p hz hp with ⟨g1, g2, g3, g4⟩ | ⟨i, y, g1, rfl, g2, g3⟩ <;> rcases hcase k' z' p' hz' hp' with ⟨g1', g2', g3', g4'⟩ | ⟨i', y', g1', rfl, g2', g3'⟩
      · exact hi.inj k k' z z' p p' hne g3 hl g3' hl' g4 g4'
      · intro e
        rw [bkO_live] at hl'
        exact ((k5.obs i' y' p' g1' g3').notO hl').1 (e ▸ hheld k z p g1 g3 hl g4)
      · intro e
        rw [bkO_live] at hl
        exact ((k5.obs i y p g1 g3).notO hl).1 (e ▸ hheld k' z' p' g1' g3' hl' g4')
      · rw [bkO_live] at hl hl'
        refine k5.inj i i' y y' p p' (fun e => ?_) g1 hl g1' hl' g3 g3'
        subst e
        exact hne (g2.symm.trans g2')
  rw [hdrop, List.append_nil] at hinv hg
  rw [hback] at hinv
  refine hK _ _ _ ⟨⟨k1.os.trans h1.os, k1.tape.trans h1.tape, k1.output.trans h1.output, Nat.le_trans h1.size k1.size, fun k hk => (k1.block k (hOld k hk)).trans (h1.block k hk), h1.old⟩, k2, fun b hb => ?_, hkeep, hinv⟩ (bkX_rd hg k6)
  exact (k3 b hb).imp id fun hb' ho => hb' (hOld b ho)
end
section
variable {C : Cx} {s : St} {o : Oper}
theorem p_callS {y : Operand} {args : List Operand} {tys : Array TypeId} {f : FuncId} {cs xs : List X} {ob1 : List AObj} {rx x2 : X} (sel : List Nat) (ho : o.op = .call { callee := .value y, args := args.toArray, argTypes := tys })
  (hf : FnX (s.ev C.E y) f cs) (hb : HasBody C.E f) (h : EvS C.E f xs ob1 rx ob1) (hn : nodupB sel = true) (hob : renObs sel s.ob sel = some ob1) (hx : renL sel (args.map (fun z => nrm (s.ev C.E z)) ++ cs) = some xs)
  (hback : backL (bk sel s.ob.length) sel ob1 s.ob = s.ob) (hx2 : bkX (bk sel s.ob.length) rx = x2) : POp C s o x2 := by
 subst hx2
 refine p_callG (fun w a F σ hr => ?_) hn hob hx h hback
 obtain ⟨us, u1, u2, u3⟩ := hf.val (hr y (by simp [ho, Op.operands, Call.operands]))
 refine ⟨args.map a.eval ++ us, ?_, by simp [u2], fun i x0 v g1 hvi => ?_⟩
 ·simp only [execOp, ho]
  rw [resolve_clo u1]
  simpa using hb (args.toArray.map a.eval ++ us.toArray) w
 ·rcases Nat.lt_or_ge i args.length with hlt | hge
  ·rw [List.getElem?_append_left (by simpa using hlt)] at g1 hvi
   rw [List.getElem?_map, Option.map_eq_some_iff] at g1 hvi
   obtain ⟨z, z1, rfl⟩ := g1
   obtain ⟨z', z1', rfl⟩ := hvi
   rw [z1] at z1'
   cases z1'
   exact nrm_rd (hr z (by simp [ho, Op.operands, Call.operands, List.mem_of_getElem? z1]))
  ·rw [List.getElem?_append_right (by simpa using hge)] at g1 hvi
   simp only [List.length_map] at g1 hvi
   exact u3 _ _ _ g1 hvi
end
inductive SP (C : Cx) (all : Array Oper) : List Oper → St → St → Prop
 | nil (s : St) : SP C all [] s s
 | seg {pre rest : List Oper} {s s1 s' : St} (h : SD C all true pre s s1) (hr : SP C all rest s1 s') : SP C all (pre ++ rest) s s'
 | pop {o : Oper} {rest : List Oper} {s s' : St} {x : X} (hg : o.guard = none) (hd : dstOK C o = true) (hv : POp C s o x) (hr : SP C all rest (s.put o.dst x) s') : SP C all (o :: rest) s s'
theorem SP.data {C : Cx} {all : Array Oper} {ops : List Oper} {s s' : St} (h : SP C all ops s s') :
  ∃ xs : List (Oper × Option X), xs.map (·.1) = ops ∧ StEq (stps s xs) s' ∧ ∀ (i : Nat) o x, xs[i]? = some (o, x) → dstOK C o = true ∧ GuardIs all (stps s (xs.take i)) o x.isSome ∧ ∀ y, x = some y → POp C (stps s (xs.take i)) o y := by
 induction h with
 | nil s => exact ⟨[], rfl, StEq.refl _, fun i o x h => by simp at h⟩
 | @seg pre rest s s1 s' h hr ih =>
  obtain ⟨xs1, e1, q1, v1⟩ := h.data
  obtain ⟨xs2, e2, q2, v2⟩ := ih
  refine ⟨xs1 ++ xs2, by simp [e1, e2], by rw [stps_append]; exact (q1.stps xs2).trans q2, fun i o x hi => ?_⟩
  rcases Nat.lt_or_ge i xs1.length with hlt | hge
  ·rw [List.getElem?_append_left hlt] at hi
   rw [List.take_append_of_le_length (by omega)]
   obtain ⟨a1, a2, a3⟩ := v1 i o x hi
   exact ⟨a1, a2, fun y hy => (a3 y hy).pop⟩
  ·obtain ⟨m, rfl⟩ : ∃ m, i = xs1.length + m := ⟨i - xs1.length, by omega⟩
   rw [List.getElem?_append_right (by omega), Nat.add_sub_cancel_left] at hi
   rw [List.take_length_add_append, stps_append]
   obtain ⟨a1, a2, a3⟩ := v2 m o x hi
   have hss := (q1.stps (xs2.take m)).symm
   exact ⟨a1, hss.guard a2, fun y hy => hss.pop (a3 y hy)⟩
 | @pop o rest s s' x hg hd hv hr ih =>
  obtain ⟨xs, h1, h2, h3⟩ := ih
  refine ⟨(o, some x) :: xs, by simp [h1], h2, fun i o' x' hi => ?_⟩
  cases i with
  | zero =>
   simp at hi
   obtain ⟨rfl, rfl⟩ := hi
   exact ⟨hd, by unfold GuardIs; rw [hg]; rfl, fun y hy => by cases hy; exact hv⟩
  | succ i => exact h3 i o' x' (by simpa using hi)
def PGo (C : Cx) (all : Array Oper) (_id _i : Nat) (ops : List Oper) (s : St) (K : St → Prop) : Prop := ∃ s', SP C all ops s s' ∧ K s'
section
variable {C : Cx} {r : List It} {s : St} {Q : Exit → St → Prop} {all : Array Oper} {K : St → Prop} {id i : Nat}
theorem pgN (h : K s) : PGo C all id i [] s K := ⟨s, .nil s, h⟩
theorem pgF {ops pre rest : List Oper} (n : Nat) (h1 : ops.take n = pre) (h2 : ops.drop n = rest) (h : SGo C all true pre s (fun s1 => PGo C all id (i + n) rest s1 K)) : PGo C all id i ops s K := by
 obtain ⟨s1, h3, s', h4, h5⟩ := h
 subst h1 h2
 exact ⟨s', by have := SP.seg h3 h4; rwa [List.take_append_drop] at this, h5⟩
theorem pgS (sel : List Nat) {o : Oper} {rest : List Oper} {tm : List (Nat × X)} {ob : List AObj} {d : Nat} {y : Operand} {args : List Operand} {tys : Array TypeId} {f : FuncId} {cs xs : List X} {ob1 : List AObj} {rx x2 : X} (hg : o.guard = none) (hdst : o.dst = some d) (hd : Nat.blt d C.N = true)
  (ho : o.op = .call { callee := .value y, args := args.toArray, argTypes := tys }) (hf : FnX ((⟨tm, ob⟩ : St).ev C.E y) f cs) (hb : HasBody C.E f) (h : EvS C.E f xs ob1 rx ob1) (hn : nodupB sel = true) (hob : renObs sel ob sel = some ob1) (hx : renL sel (args.map (fun z => nrm ((⟨tm, ob⟩ : St).ev C.E z)) ++ cs) = some xs)
  (hback : backL (bk sel ob.length) sel ob1 ob = ob) (hx2 : bkX (bk sel ob.length) rx = x2) (hk : PGo C all id (i + 1) rest ⟨(d, x2) :: tm, ob⟩ K) : PGo C all id i (o :: rest) ⟨tm, ob⟩ K := by
 obtain ⟨s', h1, h2⟩ := hk
 refine ⟨s', .pop hg (by simp only [dstOK, hdst]; exact hd) (p_callS (s := ⟨tm, ob⟩) sel ho hf hb h hn hob hx hback hx2) ?_, h2⟩
 rw [hdst]
 exact h1
theorem qCP {l : List Oper} (ho : ordOK l = true) (h : PGo C l.toArray id 0 l s (fun s' => go C r s' Q)) : go C (.code (.region id l.toArray true) :: r) s Q := by
 intro a w hr
 obtain ⟨s', h1, h2⟩ := h
 obtain ⟨xs, hx, heq, hv⟩ := h1.data
 refine wp_region_any C.E.hM ?_
 obtain ⟨F, σ, r1, r2, r3, hi, r4, r5, hs⟩ := hr
 have hext : Ext w F { w with drawn := w.drawn + 1 } F := ⟨⟨rfl, rfl, rfl, Nat.le_refl _, fun _ _ => rfl⟩, fun _ h => h, fun _ h => .inl h, hi.flt⟩
 refine Ords.allP hx (ordOK_spec ho) hv (fun a w hr => ⟨_, heq.rel hr, h2⟩) _ _ _ _ ?_ ⟨by simp, fun i o e ho' hL => ?_, F, σ, r1.step hext.below, r2, r3, hi.ext hext, r4, r5, fun t _ => (hs t).ext hext hi.flt, fun j o x t hj hL => ?_⟩
 ·refine Nat.le_trans (List.length_filter_le _ _) ?_
  simp
 ·exfalso
  by_cases hlt : i < l.length <;> simp [hlt] at hL
 ·exfalso
  by_cases hlt : j < l.length <;> simp [hlt] at hL
end
section
variable {C : Cx} {s : St} {o : Oper}
end
section
variable {C : Cx} {K : St → Prop} {all : Array Oper} {rest : List Oper} {tm : List (Nat × X)} {ob : List AObj} {d : Nat} {o : Oper}
end
section
variable {C : Cx} {r : List It} {Q : Exit → St → Prop} {tm : List (Nat × X)} {ob : List AObj}
theorem go_nilD {c : Code} (t : Nat) (h : lk tm t = .nilS) (hg : go C (.code c :: r) ⟨(t, .d (.sl [])) :: tm, ob⟩ Q) : go C (.code c :: r) ⟨tm, ob⟩ Q := by
 refine go_weaken (fun a w hr => ?_) hg
 obtain ⟨F, σ, r1, r2, r3, hi, r4, r5, hs⟩ := hr
 refine ⟨F, σ, r1, r2, r3, hi, r4, r5, fun u => ?_⟩
 show RdX w F σ (bif Nat.beq t u then _ else lk tm u) _
 cases hb : Nat.beq t u with
 | true =>
  have hu := hs u
  obtain rfl := Nat.eq_of_beq_eq_true hb
  rw [h] at hu
  rw [show a.tmps.getD t undef = .slice none 0 0 from hu]
  exact Rd.slnil
 | false => exact hs u
end
theorem i64_nat {n : Nat} (h : n < 9223372036854775808) : IntKind.i64.wrap (n : Int) = (n : Int) := inR_wrap (k := .i64) (by simp only [inR]; omega)
theorem i64_shr {P : Program} {t : TypeId} {k : IntKind} (a s : Nat) (hs : s ≤ 64) (w : World) : (binOp .shr t (.int .i64 (a : Int)) (.int k (s : Int))).run P w = .ok (.int .i64 (((a / 2 ^ s) : Nat) : Int)) w := by
 have h1 : min (s : Int).toNat IntKind.i64.bits = s := by show min (s : Int).toNat 64 = s; omega
 have h3 : Int.fdiv (a : Int) (2 ^ s) = ((a / 2 ^ s : Nat) : Int) := by
  rw [show (2 : Int) ^ s = ((2 ^ s : Nat) : Int) by rw [Int.natCast_pow]; rfl, Int.fdiv_eq_ediv_of_nonneg _ (Int.natCast_nonneg _), Int.natCast_ediv]
 have h2 : ¬ (s : Int) < 0 := by omega
 show (Op.shift .shr .i64 (a : Int) k (s : Int)).run P w = _
 unfold Op.shift
 rw [if_neg h2]
 simp only [h1, h3]
 rfl
theorem i64_shl {P : Program} {t : TypeId} {k : IntKind} (a s : Nat) (hs : s ≤ 64) (h : a * 2 ^ s < 9223372036854775808) (w : World) : (binOp .shl t (.int .i64 (a : Int)) (.int k (s : Int))).run P w = .ok (.int .i64 (((a * 2 ^ s) : Nat) : Int)) w := by
 have h1 : min (s : Int).toNat IntKind.i64.bits = s := by show min (s : Int).toNat 64 = s; omega
 have h3 : IntKind.i64.wrap ((a : Int) * 2 ^ s) = (((a * 2 ^ s) : Nat) : Int) := by rw [← i64_nat h, Int.natCast_mul, Int.natCast_pow]; rfl
 have h2 : ¬ (s : Int) < 0 := by omega
 show (Op.shift .shl .i64 (a : Int) k (s : Int)).run P w = _
 unfold Op.shift
 rw [if_neg h2]
 simp only [h1, h3]
 rfl
theorem i64_and {P : Program} {t : TypeId} (a b : Nat) (ha : a < 9223372036854775808) (hb : b < 9223372036854775808) (w : World) : (binOp .and t (.int .i64 (a : Int)) (.int .i64 (b : Int))).run P w = .ok (.int .i64 ((a &&& b : Nat) : Int)) w := by
 have h1 : a &&& b < 9223372036854775808 := Nat.lt_of_le_of_lt Nat.and_le_left ha
 have h2 : IntKind.i64.wrap ((BitVec.ofInt 64 (a : Int) &&& BitVec.ofInt 64 (b : Int)).toNat : Int) = ((a &&& b : Nat) : Int) := by
  rw [BitVec.toNat_and, u64_bv a (by omega), u64_bv b (by omega), i64_nat h1]
 show (Op.intBits .and .i64 (a : Int) (b : Int)).run P w = _
 show (pure (Value.int .i64 (IntKind.i64.wrap ((BitVec.ofInt 64 (a : Int) &&& BitVec.ofInt 64 (b : Int)).toNat : Int))) : Sem Value).run P w = _
 rw [h2]
 rfl
theorem i64_or {P : Program} {t : TypeId} (a b : Nat) (ha : a < 9223372036854775808) (hb : b < 9223372036854775808) (w : World) : (binOp .or t (.int .i64 (a : Int)) (.int .i64 (b : Int))).run P w = .ok (.int .i64 ((a ||| b : Nat) : Int)) w := by
 have h1 : a ||| b < 9223372036854775808 := Nat.or_lt_two_pow (n := 63) ha hb
 have h2 : IntKind.i64.wrap ((BitVec.ofInt 64 (a : Int) ||| BitVec.ofInt 64 (b : Int)).toNat : Int) = ((a ||| b : Nat) : Int) := by
  rw [BitVec.toNat_or, u64_bv a (by omega), u64_bv b (by omega), i64_nat h1]
 show (Op.intBits .or .i64 (a : Int) (b : Int)).run P w = _
 show (pure (Value.int .i64 (IntKind.i64.wrap ((BitVec.ofInt 64 (a : Int) ||| BitVec.ofInt 64 (b : Int)).toNat : Int))) : Sem Value).run P w = _
 rw [h2]
 rfl
section
variable {C : Cx} {K : St → Prop} {all : Array Oper} {rest : List Oper} {tm : List (Nat × X)} {ob : List AObj} {d : Nat} {pu : Bool} {o : Oper}
theorem nat_ok {n : Nat} (h : n < 9223372036854775808) : okV (.int .i64 (n : Int)) = true := inR_ok (k := .i64) (by simp only [inR]; omega)
theorem go_shr {t u : TypeId} {y z : Operand} {k : IntKind} (a s : Nat) (ho : o.op = .binOp .shr t y z u) (hg : guardX all tm o = some true) (hdst : o.dst = some d) (hd : Nat.blt d C.N = true) (hy : (⟨tm, ob⟩ : St).ev C.E y = .d (.imm (.int .i64 (a : Int))))
  (hz : (⟨tm, ob⟩ : St).ev C.E z = .d (.imm (.int k (s : Int)))) (ha : a < 9223372036854775808) (hs : s ≤ 64) (h : SGo C all pu rest ⟨(d, .d (.int ((a / 2 ^ s : Nat) : Int))) :: tm, ob⟩ K) : SGo C all pu (o :: rest) ⟨tm, ob⟩ K :=
 go_vopG hg hdst hd (v_binR ho hy hz (by simp) (by simp) (fun w => i64_shr a s hs w) (nat_ok (Nat.lt_of_le_of_lt (Nat.div_le_self _ _) ha))) h
theorem go_shl {t u : TypeId} {y z : Operand} {k : IntKind} (a s : Nat) (ho : o.op = .binOp .shl t y z u) (hg : guardX all tm o = some true) (hdst : o.dst = some d) (hd : Nat.blt d C.N = true) (hy : (⟨tm, ob⟩ : St).ev C.E y = .d (.imm (.int .i64 (a : Int))))
  (hz : (⟨tm, ob⟩ : St).ev C.E z = .d (.imm (.int k (s : Int)))) (hs : s ≤ 64) (ha : a * 2 ^ s < 9223372036854775808) (h : SGo C all pu rest ⟨(d, .d (.int ((a * 2 ^ s : Nat) : Int))) :: tm, ob⟩ K) : SGo C all pu (o :: rest) ⟨tm, ob⟩ K :=
 go_vopG hg hdst hd (v_binR ho hy hz (by simp) (by simp) (fun w => i64_shl a s hs ha w) (nat_ok ha)) h
theorem go_and {t u : TypeId} {y z : Operand} (a b : Nat) (ho : o.op = .binOp .and t y z u) (hg : guardX all tm o = some true) (hdst : o.dst = some d) (hd : Nat.blt d C.N = true) (hy : (⟨tm, ob⟩ : St).ev C.E y = .d (.imm (.int .i64 (a : Int))))
  (hz : (⟨tm, ob⟩ : St).ev C.E z = .d (.imm (.int .i64 (b : Int)))) (ha : a < 9223372036854775808) (hb : b < 9223372036854775808) (h : SGo C all pu rest ⟨(d, .d (.int ((a &&& b : Nat) : Int))) :: tm, ob⟩ K) : SGo C all pu (o :: rest) ⟨tm, ob⟩ K :=
 go_vopG hg hdst hd (v_binR ho hy hz (by simp) (by simp) (fun w => i64_and a b ha hb w) (nat_ok (Nat.lt_of_le_of_lt Nat.and_le_left ha))) h
theorem go_or {t u : TypeId} {y z : Operand} (a b : Nat) (ho : o.op = .binOp .or t y z u) (hg : guardX all tm o = some true) (hdst : o.dst = some d) (hd : Nat.blt d C.N = true) (hy : (⟨tm, ob⟩ : St).ev C.E y = .d (.imm (.int .i64 (a : Int))))
  (hz : (⟨tm, ob⟩ : St).ev C.E z = .d (.imm (.int .i64 (b : Int)))) (ha : a < 9223372036854775808) (hb : b < 9223372036854775808) (h : SGo C all pu rest ⟨(d, .d (.int ((a ||| b : Nat) : Int))) :: tm, ob⟩ K) : SGo C all pu (o :: rest) ⟨tm, ob⟩ K :=
 go_vopG hg hdst hd (v_binR ho hy hz (by simp) (by simp) (fun w => i64_or a b ha hb w) (nat_ok (Nat.or_lt_two_pow (n := 63) ha hb))) h
theorem go_addW {t u : TypeId} {y z : Operand} {a b : Int} (d : Nat) (ho : o.op = .binOp .add t y z u) (hg : guardX all tm o = some true) (hdst : o.dst = some d) (hd : Nat.blt d C.N = true) (hy : (⟨tm, ob⟩ : St).ev C.E y = .d (.imm (.int .i64 a)))
  (hz : (⟨tm, ob⟩ : St).ev C.E z = .d (.imm (.int .i64 b))) (h : SGo C all pu rest ⟨(d, .d (.int (IntKind.i64.wrap (a + b)))) :: tm, ob⟩ K) : SGo C all pu (o :: rest) ⟨tm, ob⟩ K :=
 go_vopG hg hdst hd (v_binR ho hy hz (by simp) (by simp) (fun w => rfl) (inR_ok (inR_wrapped .i64 _))) h
end
end Go.Abs
namespace Go.Abs
open Go Go.RowKit
def capsOf : X → Option (List Cap)
 | .d d => some (d.cells.map Cap.d)
 | .nilS => some [.d (.sl [])]
 | .own o => some [.own o]
 | .ptr o off => some [.ptr o off]
 | .st cs => some cs
 | _ => none
theorem capsOf_ok {w : World} {F : Nat → Prop} {σ : Sg} {x : X} {v : Value} {ds : List Cap} (h : capsOf x = some ds) (hv : RdX w F σ x v) :
  v.cells.size = ds.length ∧ (∀ (i : Nat) c u, ds[i]? = some c → v.cells.toList[i]? = some u → CapRd w F σ c u) ∧ ∀ u ∈ v.cells.toList, u.oneCell' = true := by
 have one : v.oneCell' = true → ∀ c, CapRd w F σ c v → v.cells.size = [c].length ∧ (∀ (i : Nat) c' u, [c][i]? = some c' → v.cells.toList[i]? = some u → CapRd w F σ c' u) ∧ ∀ u ∈ v.cells.toList, u.oneCell' = true := by
  intro h1 c hc
  have hvc : v.cells = #[v] := by cases v <;> simp_all [Value.oneCell', Value.cells]
  rw [hvc]
  refine ⟨rfl, fun i c' u hi hu => ?_, by simpa using h1⟩
  cases i with
  | zero => simp at hi hu; subst hi hu; exact hc
  | succ i => simp at hi
 cases x with
 | d d =>
  simp only [capsOf] at h
  cases h
  obtain ⟨a1, a2, a3⟩ := RdX.cells_ (x := .d d) hv rfl
  refine ⟨by simpa [X.cells] using a1, fun i c u hi hu => ?_, a2⟩
  rw [List.getElem?_map, Option.map_eq_some_iff] at hi
  obtain ⟨e, he, rfl⟩ := hi
  exact a3 i (.d e) u (by simp [X.cells, he]) hu
 | nilS =>
  simp only [capsOf] at h
  cases h
  refine one (by rw [show v = _ from hv]; rfl) _ ?_
  rw [show v = .slice none 0 0 from hv]
  exact Rd.slnil
 | own o =>
  simp only [capsOf] at h
  cases h
  refine one ?_ _ hv
  obtain ⟨b, c, n, -, rfl⟩ := hv
  rfl
 | ptr o off =>
  simp only [capsOf] at h
  cases h
  refine one ?_ _ hv
  obtain ⟨b, c, n, -, rfl⟩ := hv
  rfl
 | st cs =>
  simp only [capsOf] at h
  cases h
  obtain ⟨us, rfl, hl, h1, hr⟩ := hv
  exact ⟨by simpa [Value.cells] using hl.symm, fun i c u hi hu => hr i c u hi (by simpa [Value.cells] using hu), fun u hu => h1 u (by simpa [Value.cells] using hu)⟩
 | _ => simp [capsOf] at h
structure CellsP (w : World) (F : Nat → Prop) (σ : Sg) (vs : List Value) (cs : List Cap) : Prop where
 len : cs.length = vs.length
 one : ∀ v ∈ vs, v.oneCell' = true
 rd : ∀ (i : Nat) c v, cs[i]? = some c → vs[i]? = some v → CapRd w F σ c v
def setAllC : List Cap → Nat → List Cap → List Cap
 | cs, _, [] => cs
 | cs, k, d :: r => setAllC (cs.set k d) (k + 1) r
theorem setAllC_spec : ∀ (r cs : List Cap) (k : Nat), k + r.length ≤ cs.length → setAllC cs k r = cs.take k ++ r ++ cs.drop (k + r.length)
 | [], cs, k, _ => by simp [setAllC]
 | d :: r, cs, k, h => by
  simp only [setAllC]
  simp only [List.length_cons] at h
  rw [setAllC_spec r (cs.set k d) (k + 1) (by simp; omega)]
  have e1 : (cs.set k d).take (k + 1) = cs.take k ++ [d] := by
   rw [List.take_succ_eq_append_getElem (by simp; omega), List.take_set_of_le (Nat.le_refl _)]
   simp
  have e2 : (cs.set k d).drop (k + 1 + r.length) = cs.drop (k + (d :: r).length) := by
   rw [List.drop_set_of_lt (by omega)]
   simp only [List.length_cons]
   congr 1
   omega
  rw [e1, e2]
  simp
theorem CellsP.set_ {w : World} {F : Nat → Prop} {σ : Sg} {vs : List Value} {cs ds : List Cap} {v : Value} {off : Nat} (h : CellsP w F σ vs cs) (a1 : v.cells.size = ds.length)
  (a2 : ∀ (i : Nat) c u, ds[i]? = some c → v.cells.toList[i]? = some u → CapRd w F σ c u) (a3 : ∀ u ∈ v.cells.toList, u.oneCell' = true) (hle : off + ds.length ≤ cs.length) :
  CellsP w F σ (vs.take off ++ v.cells.toList ++ vs.drop (off + v.cells.toList.length)) (setAllC cs off ds) := by
 have hl : v.cells.toList.length = ds.length := by simpa using a1
 rw [setAllC_spec _ _ _ hle]
 have hlen := h.len
 have h1 : (cs.take off).length = off := by rw [List.length_take]; omega
 have h2 : (vs.take off).length = off := by rw [List.length_take]; omega
 refine ⟨?_, fun u hu => ?_, fun i c u hc hu => ?_⟩
 ·simp only [List.length_append, List.length_take, List.length_drop, hl, hlen]
 ·rw [List.mem_append, List.mem_append] at hu
  rcases hu with (hu | hu) | hu
  ·exact h.one u (List.mem_of_mem_take hu)
  ·exact a3 u hu
  ·exact h.one u (List.mem_of_mem_drop hu)
 ·rcases Nat.lt_or_ge i off with hlt | hge
  ·rw [List.append_assoc, List.getElem?_append_left (by omega), List.getElem?_take, if_pos hlt] at hu hc
   exact h.rd i c u hc hu
  ·rw [List.append_assoc, List.getElem?_append_right (by omega)] at hu hc
   rw [h2] at hu
   rw [h1] at hc
   rcases Nat.lt_or_ge (i - off) ds.length with hlt | hge2
   ·rw [List.getElem?_append_left (by omega)] at hu hc
    exact a2 _ c u hc hu
   ·rw [List.getElem?_append_right (by omega), List.getElem?_drop] at hu hc
    rw [hl] at hu
    exact h.rd _ c u hc hu
def fillP (E : Env) (fs : Array Field) (s : St) : List (Nat × Operand) → List Cap → Option (List Cap)
 | [], cs => some cs
 | (i, x) :: r, cs => match placeOf E fs i with
  | none => none
  | some (off, size) => match capsOf (s.ev E x) with
   | none => none
   | some ds => bif Nat.beq ds.length size && Nat.ble (off + ds.length) cs.length then fillP E fs s r (setAllC cs off ds) else none
section
variable {C : Cx} {s : St} {o : Oper} {x : X}
theorem fillP_ok {E : Env} {fs : Array Field} {w : World} {F : Nat → Prop} {σ : Sg} {a : Act} {places : Array (Nat × Nat)} (hpl : ∀ (i off size : Nat), placeOf E fs i = some (off, size) → places[i]? = some (off, size)) :
  ∀ (parts : List (Nat × Operand)) (vs : Array Value) (cs cs' : List Cap), (∀ q ∈ parts, RdX w F σ (s.ev E q.2) (a.eval q.2)) → CellsP w F σ vs.toList cs → fillP E fs s parts cs = some cs' →
   ∃ vs', Instr.fill (places[·]?) vs (parts.map fun q => (q.1, a.eval q.2)) = some vs' ∧ CellsP w F σ vs'.toList cs'
 | [], vs, cs, cs', _, h, hf => by
  simp only [fillP] at hf
  cases hf
  exact ⟨vs, rfl, h⟩
 | (i, y) :: r, vs, cs, cs', ha, h, hf => by
  simp only [fillP] at hf
  split at hf
  ·cases hf
  ·rename_i off size hp
   split at hf
   ·cases hf
   ·rename_i ds hd
    cases hb : (Nat.beq ds.length size && Nat.ble (off + ds.length) cs.length) with
    | false => rw [hb] at hf; cases hf
    | true =>
     rw [hb] at hf
     rw [Bool.and_eq_true] at hb
     have h1 := Nat.eq_of_beq_eq_true hb.1
     have h2 := Nat.le_of_ble_eq_true hb.2
     obtain ⟨a1, a2, a3⟩ := capsOf_ok hd (ha (i, y) (by simp))
     dsimp only at a1 a2 a3
     have hlen := h.len
     have hsz : vs.size = cs.length := by rw [hlen]; simp
     have hs := setV_spec (a.eval y).cells.toList vs off 0 (by simp; omega)
     obtain ⟨vs', e1, e2⟩ := fillP_ok hpl r (((a.eval y).cells.toList.zipIdx 0).foldl (fun cs (c, j) => cs.setIfInBounds (off + j) c) vs) _ cs' (fun q hq => ha q (by simp [hq]))
      (by rw [hs]; exact h.set_ a1 a2 a3 h2) (by simpa using hf)
     refine ⟨vs', ?_, e2⟩
     simp only [List.map_cons, Instr.fill, hpl i off size hp]
     rw [if_neg (by simp; omega)]
     rw [← e1]
     congr 1
     rw [← Array.foldl_toList]
     congr 1
     simp [Array.toList_zipIdx]
theorem v_buildP {t : TypeId} {parts : List (Nat × Operand)} {e : TE} {fs : Array Field} {zs : List D} {cs : List Cap} (ho : o.op = .build t parts.toArray) (he : findT C.E.T t = some e) (hd : e.desc = .struct fs) (hz : oneAll e.zero.cells.toList = true)
  (hb : allPlaces C.E fs.toList = true) (hzs : zeroDs e.zero.cells.toList = some zs) (hcs : fillP C.E fs s parts (zs.map Cap.d) = some cs) : VOp C s o (.st cs) := by
 refine VOp.pure_ fun F σ w a hi hr => ?_
 obtain ⟨hok, rfl⟩ := findT_ok he
 have hu := hok.1
 rw [hd] at hu
 obtain ⟨ps, m1, m2⟩ := mapM_places (E := C.E) (w := w) fs.toList hb
 have hz0 := zeroDs_ok (w := w) (F := F) hzs fun v hv => oneAll_ok hz v hv
 have hz1 : CellsP w F σ e.zero.cells.toList (zs.map Cap.d) := by
  refine ⟨by simpa using hz0.len, hz0.one, fun i c v hc hv => ?_⟩
  rw [List.getElem?_map, Option.map_eq_some_iff] at hc
  obtain ⟨d, hd, rfl⟩ := hc
  obtain ⟨d', e1, e2⟩ := hz0.rd i v hv
  rw [hd] at e1
  cases e1
  exact e2
 obtain ⟨vs', f1, f2⟩ := fillP_ok (s := s) (a := a) (σ := σ) (places := ps.toArray) (fun i off size hp => by simpa using m2 i off size (by simpa using hp)) parts e.zero.cells (zs.map Cap.d) cs
  (fun q hq => hr q.2 (by simp [ho, Op.operands]; exact ⟨q.1, by simpa using hq⟩)) hz1 hcs
 refine ⟨.agg vs', ?_, ?_⟩
 ·have m1' : (fs.mapM fun f => (do pure (f.offset, ← sizeOf f.type) : Sem (Nat × Nat))).run C.E.P w = .ok ps.toArray w := by
   rw [← Array.toArray_toList (xs := fs), List.mapM_toArray]
   simp only [map_eq_pure_bind, Sem.run_bind, m1, Result.andThen_ok, Sem.run_pure]
  have hparts : (parts.toArray.map fun (i, x) => (i, a.eval x)).toList = parts.map fun q => (q.1, a.eval q.2) := by simp
  simp only [execOp, ho, Instr.build, Sem.run_bind, zero_run hok, Result.andThen_ok, run_underlying hu, m1', hparts, f1, Sem.run_pure]
 ·exact ⟨vs'.toList, by simp, f2.len, f2.one, f2.rd⟩
theorem s_boxP {t : TypeId} {y : Operand} {cs : List Cap} (ho : o.op = .box t y) (hx : s.ev C.E y = .st cs) (hd : dstOK C o = true) : SOp C s o (s.add o.dst (.var t (.cs (cs.map Cap.x))) (.ptr s.ob.length 0)) := by
 rintro w a K Q ⟨F, σ, h1, h2, h3, hi, h4, h5, hs⟩ hK
 have hv := ev_rd (E := C.E) hi hs y
 rw [hx] at hv
 have hrun : (execOp a.eval o).run C.E.P w = .ok (.value (.pointer (some ⟨w.heap.size, 0, none⟩))) (w.alloc (.cells (a.eval y).cells t)) := by
  simp [execOp, ho, Instr.box, newVar, newRow]
 unfold Oper.wp
 rw [hrun]
 have he := ext_alloc (F := F) (.cells (a.eval y).cells t) hi.flt
 have hv' : RdX (w.alloc (.cells (a.eval y).cells t)) F (σ ++ [(w.heap.size, 0, 0)]) (.st cs) (a.eval y) := (hv.ext he hi.flt).mono (fun _ h => h) (fun _ _ => rfl) σ_app
 obtain ⟨c1, c2, c3⟩ := capsOf_ok (x := .st cs) rfl hv'
 refine hK _ _ (rel_add h1 h2 h3 hi h4 h5 hs hd (x := .var t (.cs (cs.map Cap.x))) (c := 0) (n := 0) ⟨(a.eval y).cells.toList, by simpa using heap_push, by simpa [VC.cells] using c1.symm, c3, fun i x v hx hv => ?_, h1.new (Nat.le_refl _), fun hf => ?_⟩ ⟨w.heap.size, 0, 0, ?_, rfl⟩)
 ·simp only [VC.cells, List.getElem?_map, Option.map_eq_some_iff] at hx
  obtain ⟨c, hc, rfl⟩ := hx
  exact Cap.x_rd (c2 i c v hc hv)
 ·exact absurd (hi.flt _ hf) (Nat.lt_irrefl _)
 ·rw [← hi.len]; simp
end
section
variable {C : Cx} {K : St → Prop} {all : Array Oper} {rest : List Oper} {tm : List (Nat × X)} {ob : List AObj} {d : Nat} {pu : Bool} {o : Oper}
theorem go_buildP {t : TypeId} {parts : List (Nat × Operand)} {e : TE} {fs : Array Field} {zs : List D} {cs : List Cap} (ho : o.op = .build t parts.toArray) (hg : guardX all tm o = some true) (hdst : o.dst = some d) (hd : Nat.blt d C.N = true) (he : findT C.E.T t = some e) (hds : e.desc = .struct fs)
  (hz : oneAll e.zero.cells.toList = true) (hb : allPlaces C.E fs.toList = true) (hzs : zeroDs e.zero.cells.toList = some zs) (hcs : fillP C.E fs ⟨tm, ob⟩ parts (zs.map Cap.d) = some cs) (h : SGo C all pu rest ⟨(d, .st cs) :: tm, ob⟩ K) : SGo C all pu (o :: rest) ⟨tm, ob⟩ K :=
 go_vopG hg hdst hd (v_buildP ho he hds hz hb hzs hcs) h
end
section
variable {C : Cx} {id : Nat} {l : List Oper} {E : List Nat} {wob : List AObj} {i : Nat} {rest : List Oper} {o : Oper} {tm : List (Nat × X)} {ob : List AObj} {K : St → Prop} {d : Nat}
theorem rgBoxP {t : TypeId} {y : Operand} {cs : List Cap} {m : List X} (hne : E.contains i = true) (ho : o.op = .box t y) (hg : guardX l.toArray tm o = some true) (hdst : o.dst = some d) (hd : Nat.blt d C.N = true) (hx : (⟨tm, ob⟩ : St).ev C.E y = .st cs) (hm : cs.map Cap.x = m)
  (hw : wkP wob.length wob (ob ++ [.var t (.cs m)])) (h : RGo C id l E wob (i + 1) rest ⟨(d, .ptr ob.length 0) :: tm, ob ++ [.var t (.cs m)]⟩ K) : RGo C id l E wob i (o :: rest) ⟨tm, ob⟩ K := by
 subst hm
 have hdk : dstOK C o = true := by simp only [dstOK, hdst]; exact hd
 refine rgX (x := .ptr ob.length 0) (ob' := ob ++ [.var t (.cs (cs.map Cap.x))]) hne hg hdk (fun tm' hev => ?_) hw (by rw [hdst]; exact h)
 exact s_boxP (s := ⟨tm', ob⟩) ho ((hev y (by simp [ho, Op.operands])).trans hx) hdk
end
end Go.Abs
namespace Go.Abs
open Go Go.RowKit
section
variable {C : Cx} {tm : List (Nat × X)} {ob : List AObj} {id : Nat} {l : List Oper} {E : List Nat} {wob : List AObj} {i : Nat} {rest : List Oper} {K : St → Prop} {o : Oper} {d : Nat}
theorem reCallS (sel : List Nat) {y : Operand} {args : List Operand} {tys : Array TypeId} {f : FuncId} {cs xs : List X} {ob1 ob1' ob2 : List AObj} {rx x2 : X} (hne : E.contains i = true) (ho : o.op = .call { callee := .value y, args := args.toArray, argTypes := tys }) (hg : guardX l.toArray tm o = some true) (hdst : o.dst = some d)
  (hd : Nat.blt d C.N = true) (hf : FnX ((⟨tm, ob⟩ : St).ev C.E y) f cs) (hb : HasBody C.E f) (h0 : EvS C.E f xs ob1 rx ob1') (hn : nodupB sel = true) (hob : renObs sel ob sel = some ob1) (hx : renL sel (args.map (fun z => nrm ((⟨tm, ob⟩ : St).ev C.E z)) ++ cs) = some xs)
  (hob2 : backL (bk sel ob.length) sel ob1' ob = ob2) (hx2 : bkX (bk sel ob.length) rx = x2) (hw : wkP wob.length wob ob2) (h : RGw C id l E wob (i + 1) rest ⟨(d, x2) :: tm, ob2⟩ K) : RGw C id l E wob i (o :: rest) ⟨tm, ob⟩ K := by
 subst hob2 hx2
 have hdk : dstOK C o = true := by simp only [dstOK, hdst]; exact hd
 refine reX (x := bkX (bk sel ob.length) rx) (ob' := backL (bk sel ob.length) sel ob1' ob) hne hg hdk (fun tm' hev => ?_) hw (by rw [hdst]; exact h)
 have hm : ∀ z, z = y ∨ z ∈ args → (⟨tm', ob⟩ : St).ev C.E z = (⟨tm, ob⟩ : St).ev C.E z := by
  intro z hz
  refine hev z ?_
  rcases hz with rfl | hz <;> simp [ho, Op.operands, Call.operands, *]
 refine s_callS (s := ⟨tm', ob⟩) ho (by rw [hm y (.inl rfl)]; exact hf) hb hn hob ?_ h0 hdk
 rw [← hx]
 congr 2
 exact List.map_congr_left fun z hz => by rw [hm z (.inr hz)]
end
end Go.Abs
namespace Go.Abs
open Go Go.RowKit
def vEq : Value → Value → Bool
 | .bool a, .bool b => a == b
 | .int _ a, .int _ b => a == b
 | .string a, .string b => a == b
 | _, _ => false
theorem vEq_iff {d : TypeDesc} {a b : Value} (ha : MapKept.IsKey d a) (hb : MapKept.IsKey d b) : vEq a b = true ↔ a = b := by
 cases d <;> cases a <;> cases b <;> simp_all [MapKept.IsKey, vEq, MapKept.bytes_beq]
def keyB : TypeDesc → Value → Bool
 | .bool, .bool _ => true
 | .int k, .int k' _ => decide (k' = k)
 | .string, .string _ => true
 | _, _ => false
theorem keyB_ok {d : TypeDesc} {v : Value} (h : keyB d v = true) : MapKept.IsKey d v := by
 cases d <;> cases v <;> simp_all [keyB, MapKept.IsKey]
def mIdx (k : Value) : List (Value × D) → Option Nat
 | [] => none
 | x :: r => bif vEq k x.1 then some 0 else (mIdx k r).map (· + 1)
def mGet (k : Value) (xs : List (Value × D)) (z : D) : D := match mIdx k xs with
 | some i => (match xs[i]? with | some x => x.2 | none => z)
 | none => z
def mPut (k : Value) (d : D) (xs : List (Value × D)) : List (Value × D) := match mIdx k xs with
 | some i => xs.set i (k, d)
 | none => xs ++ [(k, d)]
theorem mIdx_some {k : Value} : ∀ {xs : List (Value × D)} {i : Nat}, mIdx k xs = some i → ∃ x, xs[i]? = some x ∧ vEq k x.1 = true
 | [], i, h => by cases h
 | x :: r, i, h => by
  simp only [mIdx] at h
  cases hc : vEq k x.1 with
  | true => rw [hc] at h; cases h; exact ⟨x, rfl, hc⟩
  | false =>
   rw [hc, cond_false, Option.map_eq_some_iff] at h
   obtain ⟨j, hj, rfl⟩ := h
   obtain ⟨y, h1, h2⟩ := mIdx_some hj
   exact ⟨y, by simpa using h1, h2⟩
theorem findNow_idx {d : TypeDesc} {k : Value} (hk : MapKept.IsKey d k) : ∀ (es : List MapEntry) (xs : List (Value × D)) (i : Nat), es.length = xs.length → (∀ (j : Nat) e x, es[j]? = some e → xs[j]? = some x → e.key = x.1) →
  (∀ x ∈ xs, MapKept.IsKey d x.1) → Instr.findNow d k es i = some (match mIdx k xs with | some j => (es[j]?).map (fun e => (i + j, e.val)) | none => none)
 | [], [], i, _, _, _ => rfl
 | [], _ :: _, i, h, _, _ => by simp at h
 | _ :: _, [], i, h, _, _ => by simp at h
 | e :: es, x :: xs, i, hl, he, hx => by
  have hex := he 0 e x rfl rfl
  obtain ⟨r, hr, hiff⟩ := MapKept.sameNow_of_keys hk (hx x (by simp))
  have ih := findNow_idx hk es xs (i + 1) (by simpa using hl) (fun j a b h1 h2 => he (j + 1) a b (by simpa using h1) (by simpa using h2)) fun y hy => hx y (by simp [hy])
  have hv : vEq k x.1 = r := by
   rw [Bool.eq_iff_iff, vEq_iff hk (hx x (by simp)), hiff]
  simp only [Instr.findNow, mIdx, hex, hr, hv]
  cases r with
  | true => simp
  | false =>
   simp only [cond_false]
   rw [ih]
   cases mIdx k xs with
   | none => rfl
   | some j => simp only [Option.map_some, List.getElem?_cons_succ]; congr 2; funext e; congr 1; omega
section
variable {C : Cx} {s : St} {o : Oper}
theorem WInv.turnW {E : Env} {B : Base} {F : Nat → Prop} {σ : Sg} {ob : List AObj} {w w' : World} {i b c n : Nat} {x y : AObj} (h : WInv E B F σ ob w) (hx : ob[i]? = some x) (hl : x.live = true) (hσ : σ[i]? = some (b, c, n)) (hF : ¬ F b)
  (hs : w'.heap.size = w.heap.size) (ho : ∀ k, k ≠ b → w'.heap[k]? = w.heap[k]?) (hy : ObOK w' F σ B.O y (b, c, n)) : WInv E B F σ (ob.set i y) w' := by
 have keep : ∀ k, F k → w'.heap[k]? = w.heap[k]? := fun k hk => ho k (fun e => hF (e ▸ hk))
 refine ⟨fun k hk => by rw [hs]; exact h.flt k hk, h.glob.mono (fun _ h => h) keep, by simp [h.len], fun k z p hz hp => ?_, fun k k' z z' p p' hne hz hzl hz' hzl' hp hp' => ?_, h.pre⟩
 ·rw [List.getElem?_set] at hz
  split at hz
  ·rename_i he
   subst he
   split at hz
   ·cases hz
    rw [hσ] at hp
    cases hp
    exact hy
   ·cases hz
  ·rename_i he
   refine (h.obs k z p hz hp).mono (fun _ h => h) keep (fun _ _ h => h) (fun hzl => ?_) (fun _ h => h)
   exact ho p.1 (h.inj k i z x p (b, c, n) (fun e => he e.symm) hz hzl hx hl hp hσ)
 ·have key : ∀ (k : Nat) (z : AObj), (ob.set i y)[k]? = some z → z.live = true → ∃ u : AObj, ob[k]? = some u ∧ u.live = true := by
   intro k z hz hzl
   rw [List.getElem?_set] at hz
   split at hz
   ·rename_i he; subst he; exact ⟨x, hx, hl⟩
   ·exact ⟨z, hz, hzl⟩
  obtain ⟨u, u1, u2⟩ := key k z hz hzl
  obtain ⟨u', u1', u2'⟩ := key k' z' hz' hzl'
  exact h.inj k k' u u' p p' hne u1 u2 u1' u2' hp hp'
theorem s_makeMap {t : TypeId} {kd : TypeDesc} (ho : o.op = .makeMap t none) (hd : dstOK C o = true) : SOp C s o (s.add o.dst (.map kd []) (.mp s.ob.length)) := by
 rintro w a K Q ⟨F, σ, h1, h2, h3, hi, h4, h5, hs⟩ hK
 have hrun : (execOp a.eval o).run C.E.P w = .ok (.value (.map (some w.heap.size))) (w.alloc (.map #[] 0)) := by
  simp [execOp, ho, Instr.makeMap, Result.andThen]
 unfold Oper.wp
 rw [hrun]
 refine hK _ _ (rel_add h1 h2 h3 hi h4 h5 hs hd (x := .map kd []) (c := 0) (n := 0) ⟨#[], (MapKept.heap_alloc w _).1, rfl, fun i e x he => by simp at he, fun x hx => by simp at hx, h1.new (Nat.le_refl _), fun hf => absurd (hi.flt _ hf) (Nat.lt_irrefl _)⟩ ⟨w.heap.size, 0, 0, ?_, rfl⟩)
 rw [← hi.len]; simp
theorem zeroX_rd {w : World} {F : Nat → Prop} {v : Value} {d : D} (h : zeroDs [v] = some [d]) (h1 : v.oneCell' = true) : Rd w F d v := by
 have := zeroDs_ok (w := w) (F := F) h fun u hu => by rw [List.mem_singleton.1 hu]; exact h1
 obtain ⟨d', e1, e2⟩ := this.rd 0 v rfl
 cases e1
 exact e2
theorem v_lookup {t kt et : TypeId} {y z : Operand} {k : Nat} {kd : TypeDesc} {xs : List (Value × D)} {kv : Value} {te : TE} {zd : D} (ho : o.op = .lookup t y z false) (hy : s.ev C.E y = .mp k) (hz : s.ev C.E z = .d (.imm kv)) (hob : s.ob[k]? = some (.map kd xs))
  (hm : descOf C.E t = some (.map kt et)) (hk : descOf C.E kt = some kd) (hkv : keyB kd kv = true) (hte : findT C.E.T et = some te) (hzd : zeroDs [te.zero] = some [zd]) (hz1 : te.zero.oneCell' = true) : VOp C s o (.d (mGet kv xs zd)) := by
 refine VOp.pure_ fun F σ w a hi hr => ?_
 have h1 := hr y (by simp [ho, Op.operands])
 have h2 := hr z (by simp [ho, Op.operands])
 rw [hy] at h1
 rw [hz] at h2
 obtain ⟨b, c, n, p1, p2⟩ := h1
 obtain ⟨e2, -⟩ := Rd.imm_inv h2
 obtain ⟨es, q1, q2, q3, q4, -⟩ := hi.obs k _ _ hob p1
 have hkk := keyB_ok hkv
 obtain ⟨hok, rfl⟩ := findT_ok hte
 have hf := findNow_idx hkk es.toList xs 0 (by simpa using q2) (fun j e x he hx => (q3 j e x (by simpa using he) hx).1.1) q4
 cases hi' : mIdx kv xs with
 | none =>
  rw [hi'] at hf
  refine ⟨te.zero, ?_, ?_⟩
  ·simp [execOp, ho, p2, e2, Instr.lookup, run_underlying (descOf_ok hm), MapKept.run_getObj_map q1, MapKept.run_checkKey (descOf_ok hk) hkk, MapKept.run_findKey (descOf_ok hk) hf, zero_run hok, Result.andThen]
  ·show Rd w F (mGet kv xs zd) te.zero
   rw [mGet, hi']
   exact zeroX_rd hzd hz1
 | some i =>
  rw [hi'] at hf
  obtain ⟨x, hx, -⟩ := mIdx_some hi'
  have hil : i < es.size := by rw [q2]; exact (List.getElem?_eq_some_iff.1 hx).1
  obtain ⟨e, he⟩ : ∃ e, es[i]? = some e := ⟨es[i], by simp [hil]⟩
  have hf' : Instr.findNow kd kv es.toList 0 = some (some (i, e.val)) := by rw [hf]; simp [he]
  refine ⟨e.val, ?_, ?_⟩
  ·simp [execOp, ho, p2, e2, Instr.lookup, run_underlying (descOf_ok hm), MapKept.run_getObj_map q1, MapKept.run_checkKey (descOf_ok hk) hkk, MapKept.run_findKey (descOf_ok hk) hf', Result.andThen]
  ·show Rd w F (mGet kv xs zd) e.val
   rw [mGet, hi']
   simp only [hx]
   exact (q3 i e x he hx).2
theorem obMap {w : World} {F : Nat → Prop} {σ : Sg} {B : Nat → Prop} {kd : TypeDesc} {ys : List (Value × D)} {b c n : Nat} {es es' : Array MapEntry} (q1 : w.heap[b]? = some (.map es es.size)) (q5 : ¬ B b) (q6 : ¬ F b) (hl : es'.size = ys.length)
  (h3 : ∀ (i : Nat) e x, es'[i]? = some e → ys[i]? = some x → (e.key = x.1 ∧ e.born = i) ∧ Rd w F x.2 e.val) (h4 : ∀ x ∈ ys, MapKept.IsKey kd x.1) :
  ObOK { w with heap := w.heap.setIfInBounds b (.map es' es'.size) } F σ B (.map kd ys) (b, c, n) := by
 have hh := MapKept.heap_set (o' := .map es' es'.size) q1
 refine ⟨es', hh.1, hl, fun i e x he hx => ⟨(h3 i e x he hx).1, (h3 i e x he hx).2.mono (fun _ h => h) fun k hk => hh.2 k (fun e => q6 (e ▸ hk))⟩, h4, q5, q6⟩
theorem rel_map {a : Act} {w : World} {F : Nat → Prop} {σ : Sg} {k b c n : Nat} {kd : TypeDesc} {xs ys : List (Value × D)} {es es' : Array MapEntry} (h1 : Kept C.O C.w0 w) (h2 : ∀ b, C.F0 b → F b) (h3 : ∀ b, F b → C.F0 b ∨ ¬ C.O b) (hi : WInv C.E C.base F σ s.ob w)
  (h4 : a.defers = []) (h5 : a.tmps.size = C.N) (hs : ∀ t, RdX w F σ (lk s.tm t) (a.tmps.getD t undef)) (hob : s.ob[k]? = some (.map kd xs)) (p1 : σ[k]? = some (b, c, n)) (q1 : w.heap[b]? = some (.map es es.size)) (q5 : ¬ C.O b) (q6 : ¬ F b)
  (hl : es'.size = ys.length) (h3' : ∀ (i : Nat) e x, es'[i]? = some e → ys[i]? = some x → (e.key = x.1 ∧ e.born = i) ∧ Rd w F x.2 e.val) (h4' : ∀ x ∈ ys, MapKept.IsKey kd x.1) :
  C.Rel (s.setOb k (.map kd ys)) a { w with heap := w.heap.setIfInBounds b (.map es' es'.size) } := by
 have hh := MapKept.heap_set (o' := .map es' es'.size) q1
 have hsz : (w.heap.setIfInBounds b (.map es' es'.size)).size = w.heap.size := by simp
 refine ⟨F, σ, ⟨h1.os, h1.tape, h1.output, by show _ ≤ (w.heap.setIfInBounds b _).size; rw [hsz]; exact h1.size, fun j hj => (hh.2 j fun e => q5 (e ▸ hj)).trans (h1.block j hj), h1.old⟩, h2, h3, hi.turnW hob rfl p1 q6 hsz (fun j hj => hh.2 j hj) (obMap q1 q5 q6 hl h3' h4'), h4, h5, fun t => ?_⟩
 exact (hs t).mono (fun _ h => h) (fun j hj => hh.2 j fun e => q6 (e ▸ hj)) fun _ _ h => h
end
section
variable {C : Cx} {K : St → Prop} {all : Array Oper} {pu : Bool} {rest : List Oper} {tm : List (Nat × X)} {ob : List AObj} {d : Nat} {o : Oper}
theorem go_makeMap {t kt et : TypeId} {kd : TypeDesc} (ho : o.op = .makeMap t none) (hg : guardX all tm o = some true) (hdst : o.dst = some d) (hd : Nat.blt d C.N = true) (hm : descOf C.E t = some (.map kt et)) (hk : descOf C.E kt = some kd) (h : SGo C all false rest ⟨(d, .mp ob.length) :: tm, ob ++ [.map kd []]⟩ K) : SGo C all false (o :: rest) ⟨tm, ob⟩ K := by
 refine SGo.eff (guardX_ok hg) (s_makeMap (kd := kd) ho (by simp only [dstOK, hdst]; exact hd)) ?_
 rw [hdst]
 exact h
theorem go_lookup {t kt et : TypeId} {y z : Operand} {k : Nat} {kd : TypeDesc} {xs : List (Value × D)} {kv : Value} {te : TE} {zd : D} (ho : o.op = .lookup t y z false) (hg : guardX all tm o = some true) (hdst : o.dst = some d) (hd : Nat.blt d C.N = true) (hy : (⟨tm, ob⟩ : St).ev C.E y = .mp k) (hz : (⟨tm, ob⟩ : St).ev C.E z = .d (.imm kv)) (hob : ob[k]? = some (.map kd xs))
  (hm : descOf C.E t = some (.map kt et)) (hk : descOf C.E kt = some kd) (hkv : keyB kd kv = true) (hte : findT C.E.T et = some te) (hzd : zeroDs [te.zero] = some [zd]) (hz1 : te.zero.oneCell' = true) (h : SGo C all pu rest ⟨(d, .d (mGet kv xs zd)) :: tm, ob⟩ K) : SGo C all pu (o :: rest) ⟨tm, ob⟩ K := by
 refine SGo.vop (guardX_ok hg) (by simp only [dstOK, hdst]; exact hd) (v_lookup ho hy hz hob hm hk hkv hte hzd hz1) ?_
 rw [hdst]
 exact h
end
end Go.Abs
namespace Go.Abs
open Go Go.RowKit
section
variable {C : Cx} {s : St} {o : Oper} {p : Prop} {x : X}
end
section
variable {C : Cx} {all : Array Oper} {pu : Bool} {rest : List Oper} {tm : List (Nat × X)} {ob : List AObj} {K : St → Prop} {o : Oper} {d : Nat} {p : Prop} {x : X}
end
end Go.Abs
namespace Go.Abs
open Go Go.RowKit
section
variable {C : Cx} {s : St} {o : Oper} {x : X} {p : Prop}
def loX : Option X → Option Nat
 | none => some 0
 | some (.d (.imm (.int _ (.ofNat i)))) => some i
 | _ => none
def hiX (n : Nat) : Option X → Option Nat
 | none => some n
 | some (.d (.imm (.int _ (.ofNat i)))) => some i
 | _ => none
theorem loX_run {a : Act} {w : World} {F : Nat → Prop} {σ : Sg} {lo : Option Operand} {l : Nat} (hlo : ∀ z, lo = some z → RdX w F σ (s.ev C.E z) (a.eval z)) (h : loX (lo.map (s.ev C.E)) = some l) : (lo = none ∧ l = 0) ∨ ∃ k, lo.map a.eval = some (.int k (l : Int)) := by
 cases lo with
 | none => simp [loX] at h; exact .inl ⟨rfl, h.symm⟩
 | some z =>
  right
  have hz := hlo z rfl
  simp only [Option.map_some] at h ⊢
  unfold loX at h
  split at h
  ·cases ‹some _ = none›
  ·rename_i k i hq
   cases h
   rw [Option.some.inj hq] at hz
   exact ⟨k, by rw [hz.imm_inv.1]; rfl⟩
  ·cases h
theorem hiX_run {a : Act} {w : World} {F : Nat → Prop} {σ : Sg} {n : Nat} {lo : Option Operand} {l : Nat} (hlo : ∀ z, lo = some z → RdX w F σ (s.ev C.E z) (a.eval z)) (h : hiX n (lo.map (s.ev C.E)) = some l) : (lo = none ∧ l = n) ∨ ∃ k, lo.map a.eval = some (.int k (l : Int)) := by
 cases lo with
 | none => simp [hiX] at h; exact .inl ⟨rfl, h.symm⟩
 | some z =>
  right
  have hz := hlo z rfl
  simp only [Option.map_some] at h ⊢
  unfold hiX at h
  split at h
  ·cases ‹some _ = none›
  ·rename_i k i hq
   cases h
   rw [Option.some.inj hq] at hz
   exact ⟨k, by rw [hz.imm_inv.1]; rfl⟩
  ·cases h
theorem v_sliceOwn {t : TypeId} {y : Operand} {lo hi : Option Operand} {te : TE} {k l h : Nat} {xs : List D} (ho : o.op = .slice t y lo hi none) (hy' : s.ev C.E y = .own k) (hob : s.ob[k]? = some (.row te.t te.size xs)) (hte : elemT C.E t = some te)
  (hl : loX (lo.map (s.ev C.E)) = some l) (hh : hiX xs.length (hi.map (s.ev C.E)) = some h) (h1 : l ≤ h) (h2 : h ≤ xs.length) : VOp C s o (.sub k l (h - l) te.size) := by
 obtain ⟨hu, hok⟩ := elemT_ok hte
 refine VOp.pure_ fun F σ w a hi' hr => ?_
 have hy := hr y (by simp [ho, Op.operands])
 have hlo := loX_run (C := C) (s := s) (a := a) (w := w) (F := F) (σ := σ) (fun z hz => hr z (by simp [ho, Op.operands, hz])) hl
 have hhi := hiX_run (C := C) (s := s) (a := a) (w := w) (F := F) (σ := σ) (fun z hz => hr z (by simp [ho, Op.operands, hz])) hh
 rw [hy'] at hy
 obtain ⟨b, c, n, p1, p2⟩ := hy
 obtain ⟨vs, q1, q2, q3, q4, q5, -⟩ := hi'.obs k _ _ hob p1
 have hmx : maxLen = 9223372036854775807 := rfl
 have hb : (Instr.sliceBounds true n c (lo.map a.eval) (hi.map a.eval) none).run C.E.P w = .ok (l, h, c) w := by
  have b1 : 0 ≤ (l : Int) ∧ (l : Int) ≤ (h : Nat) := ⟨by omega, by omega⟩
  have b2 : 0 ≤ (h : Int) ∧ (h : Int) ≤ (c : Nat) := ⟨by omega, by omega⟩
  rcases hlo with ⟨rfl, rfl⟩ | ⟨k1, e1⟩ <;> rcases hhi with ⟨rfl, rfl⟩ | ⟨k2, e2⟩
  ·simp [Instr.sliceBounds, q3]
  ·simp only [Option.map_none]
   rw [e2]
   simp [Instr.sliceBounds, sliceBound_run b2]
  ·simp only [Option.map_none]
   rw [e1]
   have b1' : 0 ≤ (l : Int) ∧ (l : Int) ≤ (xs.length : Nat) := ⟨by omega, by omega⟩
   simp [Instr.sliceBounds, sliceBound_run b1', q3]
  ·rw [e1, e2]
   simp [Instr.sliceBounds, sliceBound_run b1, sliceBound_run b2]
 have hrun := slice_run_sl (ad := ⟨b, 0, none⟩) hu hok rfl hb
 refine ⟨_, by simp only [execOp, ho, p2]; simp [hrun], b, c, n, p1, if c = l then ⟨b, 0, none⟩ else (⟨b, 0, none⟩ : Addr).add (l * te.size), ⟨by omega, by omega, ?_⟩, rfl⟩
 by_cases hcl : c = l
 ·left; omega
 ·right; rw [if_neg hcl, add_mk, Nat.zero_add]
theorem v_indexSub {t : TypeId} {y z : Operand} {kd : IntKind} {i : Int} {te : TE} {k lo n : Nat} (ho : o.op = .indexAddr t y z) (hy' : s.ev C.E y = .sub k lo n te.size) (hz' : s.ev C.E z = .d (.imm (.int kd i)))
  (hte : elemT C.E t = some te) (h0 : 0 ≤ i) (hlt : i < n) : VOp C s o (.pel k (lo + i.toNat) 0 te.size) := by
 obtain ⟨hu, hok⟩ := elemT_ok hte
 refine VOp.pure_ fun F σ w a hi hr => ?_
 have hy := hr y (by simp [ho, Op.operands])
 have hz := hr z (by simp [ho, Op.operands])
 rw [hy'] at hy
 rw [hz'] at hz
 obtain ⟨e2, -⟩ := Rd.imm_inv hz
 obtain ⟨b, c, m, p1, ad, ⟨-, -, hn⟩, p2⟩ := hy
 have had : ad = ⟨b, lo * te.size, none⟩ := by
  rcases hn with hn | hn
  ·omega
  ·exact hn
 subst had
 refine ⟨.pointer (some (⟨b, lo * te.size + i.toNat * te.size, none⟩)), ?_, b, c, m, p1, by rw [Nat.add_mul]; simp⟩
 have hlt' : 0 ≤ i ∧ i < (n : Int) := ⟨h0, hlt⟩
 simp [execOp, ho, p2, e2, Instr.indexAt, asIntOf, run_underlying hu, hlt', sizeOf_run hok, add_mk]
theorem s_clear {t : TypeId} {y : Operand} {te : TE} {k lo n : Nat} {xs : List D} {zd : D} (ho : o.op = .call { callee := .builtin .clear, args := #[y], argTypes := #[t] }) (hdst : o.dst = none) (hy' : s.ev C.E y = .sub k lo n te.size) (hob : s.ob[k]? = some (.row te.t te.size xs)) (hte : elemT C.E t = some te)
  (hzd : zeroD te = some zd) (h1z : oneAll te.zero.cells.toList = true) (hzs : te.zero.cells.size = te.size) (hle : lo + n ≤ xs.length) : SOp C s o (s.setOb k (.row te.t te.size (xs.take lo ++ List.replicate n zd ++ xs.drop (lo + n)))) := by
 obtain ⟨hu, hok⟩ := elemT_ok hte
 obtain ⟨hdesc, i0, hi0, hsize, hbytes, hzero⟩ := hok
 have hc := zeroD_cells hzd
 rintro w a K Q ⟨F, σ, h1, h2, h3, hi, h4, h5, hs⟩ hK
 have hp := ev_rd (E := C.E) hi hs y
 rw [hy'] at hp
 obtain ⟨b, cc, m, p1, ad, ⟨l1, -, had⟩, p2⟩ := hp
 obtain ⟨vs, q1, q2, q3, q4, q4', q5, q6, q7, q8, q9⟩ := hi.obs k _ _ hob p1
 have hzlen : (Builtin.zeroCells te.zero.cells n).toList.length = n * te.size := by simp [Builtin.zeroCells, hzs]
 have hz0 : ∀ w', CellsRd w' F te.zero.cells.toList zd.cells := fun w' => zeroDs_ok hc fun v hv => oneAll_ok h1z v hv
 have hdl : zd.cells.length = te.size := by rw [(hz0 w).len]; simpa using hzs
 have hone : ∀ v ∈ (Builtin.zeroCells te.zero.cells n).toList, v.oneCell' = true := by
  intro u hu'
  simp only [Builtin.zeroCells, Array.toList_map, Array.toList_range, List.mem_map, List.mem_range] at hu'
  obtain ⟨j, hj, rfl⟩ := hu'
  have hpos : 0 < te.zero.cells.size := by
   rcases Nat.eq_zero_or_pos te.zero.cells.size with h | h
   ·rw [h] at hj; simp at hj
   ·exact h
  have hlt : j % te.zero.cells.size < te.zero.cells.size := Nat.mod_lt _ hpos
  have : te.zero.cells[j % te.zero.cells.size]! ∈ te.zero.cells.toList := by
   rw [getElem!_pos te.zero.cells _ hlt]; exact Array.getElem_mem_toList hlt
  exact oneAll_ok h1z _ this
 have hroom : (lo + n) * te.size ≤ cc * te.size := Nat.mul_le_mul_right _ (by omega)
 rw [Nat.add_mul] at hroom
 have hrow := run_storeCells_at C.E.P b (lo * te.size) te.t (Builtin.zeroCells te.zero.cells n).toList 0 vs.toArray w q1 (by rw [hzlen]; simp; omega) hone
 have hrun : (execOp a.eval o).run C.E.P w = .ok (.value (.tuple #[])) (w.setRow b (vs.take (lo * te.size) ++ (Builtin.zeroCells te.zero.cells n).toList ++ vs.drop (lo * te.size + n * te.size)).toArray) := by
  rw [hzlen] at hrow
  simp only [Nat.add_zero] at hrow
  have hzv : (zeroValue te.t).run C.E.P w = .ok te.zero w := by simp [zeroValue, typeInfo, hi0, hzero]
  rcases Nat.eq_zero_or_pos n with rfl | hn
  ·have : (w.setRow b (vs.take (lo * te.size) ++ (Builtin.zeroCells te.zero.cells 0).toList ++ vs.drop (lo * te.size + 0 * te.size)).toArray) = w := by
    have e0 : (Builtin.zeroCells te.zero.cells 0).toList = [] := List.length_eq_zero_iff.1 (by rw [hzlen, Nat.zero_mul])
    rw [e0, List.append_nil, Nat.zero_mul, Nat.add_zero, List.take_append_drop]
    exact setRow_self w b vs.toArray te.t (0, 0) q1
   rw [this]
   simp [execOp, ho, resolve, invoke, builtin, p2, Builtin.clear_, run_underlying hu]
  ·have had' : ad = ⟨b, lo * te.size, none⟩ := by
    rcases had with h | h
    ·omega
    ·exact h
   subst had'
   obtain ⟨n', rfl⟩ : ∃ n', n = n' + 1 := ⟨n - 1, by omega⟩
   simp [execOp, ho, resolve, invoke, builtin, p2, Builtin.clear_, run_underlying hu, hzv, hrow]
 unfold Oper.wp
 rw [hrun]
 simp only [Oper.upon]
 rw [hdst]
 refine hK _ _ ⟨F, σ, h1.setRow (by assumption) _, h2, h3, ?_, h4, h5, fun t => (hs t).mono (fun _ h => h) (fun k hk => setRow_other w b _ k (fun e => q9 (e ▸ hk))) (fun _ _ h => h)⟩
 refine hi.turn hob rfl p1 q9 ?_
 have keep : ∀ k, F k → (w.setRow b (vs.take (lo * te.size) ++ (Builtin.zeroCells te.zero.cells n).toList ++ vs.drop (lo * te.size + n * te.size)).toArray).heap[k]? = w.heap[k]? := fun k hk => setRow_other w b _ k (fun e => q9 (e ▸ hk))
 have hvl : vs.length = cc * te.size := q2
 have hmem : ∀ x, x ∈ xs.take lo ++ List.replicate n zd ++ xs.drop (lo + n) → x ∈ xs ∨ x = zd := by
  intro x hx
  rw [List.mem_append, List.mem_append] at hx
  rcases hx with (hx | hx) | hx
  ·exact .inl (List.mem_of_mem_take hx)
  ·exact .inr (List.mem_replicate.1 hx).2
  ·exact .inl (List.mem_of_mem_drop hx)
 refine ⟨_, setRow_heap w b vs.toArray _ te.t _ q1, ?_, ?_, q4, q4', fun u hu' => ?_, fun u hu' c hcu => ?_, fun i u j cd hu' hcu => ?_, q8, q9⟩
 ·simp only [List.length_append, List.length_take, List.length_drop, hzlen, hvl]
  omega
 ·simp only [List.length_append, List.length_take, List.length_drop, List.length_replicate]
  omega
 ·rcases hmem u hu' with h | rfl
  ·exact q5 u h
  ·exact hdl
 ·rcases hmem u hu' with h | rfl
  ·exact q6 u h c hcu
  ·obtain ⟨j, hj⟩ := List.getElem?_of_mem hcu
   have hlt : j < te.zero.cells.toList.length := by rw [← (hz0 w).len]; exact (List.getElem?_eq_some_iff.1 hj).1
   obtain ⟨d', e1, e2⟩ := (hz0 w).rd j _ (List.getElem?_eq_getElem hlt)
   rw [hj] at e1
   cases e1
   exact e2.one_of ((hz0 w).one _ (List.getElem_mem hlt))
 ·have hj : j < te.size := by
   have : u.cells.length = te.size := by
    rcases hmem u (List.mem_of_getElem? hu') with h | rfl
    ·exact q5 u h
    ·exact hdl
   rw [← this]; exact (List.getElem?_eq_some_iff.1 hcu).1
  have e1 : (vs.take (lo * te.size)).length = lo * te.size := by rw [List.length_take]; omega
  have e2 : (xs.take lo).length = lo := by rw [List.length_take]; omega
  rcases Nat.lt_or_ge i lo with hlt | hge
  ·rw [List.append_assoc, List.getElem?_append_left (by omega), List.getElem?_take, if_pos hlt] at hu'
   obtain ⟨v, r1, r2⟩ := q7 i u j cd hu' hcu
   have hm : (i + 1) * te.size ≤ lo * te.size := Nat.mul_le_mul_right _ hlt
   rw [Nat.add_mul, Nat.one_mul] at hm
   refine ⟨v, ?_, r2.mono (fun _ h => h) keep⟩
   rw [List.append_assoc, List.getElem?_append_left (by omega), List.getElem?_take, if_pos (by omega)]
   exact r1
  ·rw [List.append_assoc, List.getElem?_append_right (by omega), e2] at hu'
   have hm : lo * te.size ≤ i * te.size := Nat.mul_le_mul_right _ hge
   rcases Nat.lt_or_ge (i - lo) n with hlt2 | hge2
   ·rw [List.getElem?_append_left (by simpa using hlt2), List.getElem?_replicate, if_pos hlt2] at hu'
    cases hu'
    have hlt : j < te.zero.cells.toList.length := by simpa [hzs] using hj
    obtain ⟨d', e3, e4⟩ := (hz0 w).rd j _ (List.getElem?_eq_getElem hlt)
    rw [hcu] at e3
    cases e3
    refine ⟨_, ?_, (e4.mono (fun _ h => h) keep)⟩
    have hm2 : (i + 1) * te.size ≤ (lo + n) * te.size := Nat.mul_le_mul_right _ (by omega)
    rw [Nat.add_mul, Nat.add_mul, Nat.one_mul] at hm2
    rw [List.append_assoc, List.getElem?_append_right (by omega), e1, List.getElem?_append_left (by rw [hzlen]; omega)]
    have hjj : j < te.zero.cells.size := by simpa using hlt
    have hsub : i * te.size + j - lo * te.size = (i - lo) * te.size + j := by rw [Nat.sub_mul]; omega
    have hmod : ((i - lo) * te.size + j) % te.zero.cells.size = j := by rw [hzs]; exact (div_idx hj).2
    have hin : (i - lo) * te.size + j < n * te.zero.cells.size := by rw [hzs]; exact mul_idx hlt2 hj
    rw [hsub]
    simp only [Builtin.zeroCells, Array.toList_map, Array.toList_range, List.getElem?_map, List.getElem?_range hin, Option.map_some, hmod]
    simp [hjj]
   ·rw [List.getElem?_append_right (by simpa using hge2), List.length_replicate, List.getElem?_drop] at hu'
    obtain ⟨v, r1, r2⟩ := q7 _ u j cd hu' hcu
    refine ⟨v, ?_, r2.mono (fun _ h => h) keep⟩
    have hm2 : (lo + n) * te.size ≤ i * te.size := Nat.mul_le_mul_right _ (by omega)
    rw [Nat.add_mul] at hm2
    rw [List.append_assoc, List.getElem?_append_right (by omega), e1, List.getElem?_append_right (by rw [hzlen]; omega), hzlen, List.getElem?_drop, ← r1]
    congr 1
    rw [show lo + n + (i - lo - n) = i by omega]
    omega
end
section
variable {C : Cx} {all : Array Oper} {pu : Bool} {rest : List Oper} {tm : List (Nat × X)} {ob : List AObj} {K : St → Prop} {o : Oper} {d : Nat} {p : Prop} {x : X}
theorem go_sliceOwn {t : TypeId} {y : Operand} {lo hi : Option Operand} {te : TE} {k l h : Nat} {xs : List D} (ho : o.op = .slice t y lo hi none) (hg : guardX all tm o = some true) (hdst : o.dst = some d) (hd : Nat.blt d C.N = true) (hy' : (⟨tm, ob⟩ : St).ev C.E y = .own k)
  (hte : elemT C.E t = some te) (hob : ob[k]? = some (.row te.t te.size xs)) (hl : loX (lo.map ((⟨tm, ob⟩ : St).ev C.E)) = some l) (hh : hiX xs.length (hi.map ((⟨tm, ob⟩ : St).ev C.E)) = some h) (h12 : l ≤ h ∧ h ≤ xs.length)
  (hgo : SGo C all pu rest ⟨(d, .sub k l (h - l) te.size) :: tm, ob⟩ K) : SGo C all pu (o :: rest) ⟨tm, ob⟩ K :=
 go_vopG hg hdst hd (v_sliceOwn ho hy' hob hte hl hh h12.1 h12.2) hgo
theorem go_indexSub {t : TypeId} {y z : Operand} {kd : IntKind} {i : Int} {te : TE} {k lo n : Nat} (ho : o.op = .indexAddr t y z) (hg : guardX all tm o = some true) (hdst : o.dst = some d) (hd : Nat.blt d C.N = true) (hte : elemT C.E t = some te) (hy' : (⟨tm, ob⟩ : St).ev C.E y = .sub k lo n te.size) (hz' : (⟨tm, ob⟩ : St).ev C.E z = .d (.imm (.int kd i)))
  (h0 : 0 ≤ i ∧ i < n) (hgo : SGo C all pu rest ⟨(d, .pel k (lo + i.toNat) 0 te.size) :: tm, ob⟩ K) : SGo C all pu (o :: rest) ⟨tm, ob⟩ K :=
 go_vopG hg hdst hd (v_indexSub ho hy' hz' hte h0.1 h0.2) hgo
theorem go_clear {t : TypeId} {y : Operand} {te : TE} {k lo n : Nat} {xs : List D} {zd : D} (ho : o.op = .call { callee := .builtin .clear, args := #[y], argTypes := #[t] }) (hg : guardX all tm o = some true) (hdst : o.dst = none) (hy' : (⟨tm, ob⟩ : St).ev C.E y = .sub k lo n te.size) (hte : elemT C.E t = some te) (hob : ob[k]? = some (.row te.t te.size xs))
  (hzd : zeroD te = some zd) (h1z : oneAll te.zero.cells.toList = true) (hzs : te.zero.cells.size = te.size) (hle : lo + n ≤ xs.length) (hgo : SGo C all false rest ⟨tm, ob.set k (.row te.t te.size (xs.take lo ++ List.replicate n zd ++ xs.drop (lo + n)))⟩ K) : SGo C all false (o :: rest) ⟨tm, ob⟩ K :=
 SGo.eff (guardX_ok hg) (s_clear ho hdst hy' hob hte hzd h1z hzs hle) hgo
end
end Go.Abs
namespace Go.Abs
open Go Go.RowKit
section
variable {C : Cx} {K : St → Prop} {all : Array Oper} {rest : List Oper} {tm : List (Nat × X)} {ob : List AObj} {d : Nat} {pu : Bool} {o : Oper}
theorem go_half {t u : TypeId} {y z : Operand} {k : IntKind} {m : Int} (h : Int) (ho : o.op = .binOp .shr t y z u) (hg : guardX all tm o = some true) (hdst : o.dst = some d) (hd : Nat.blt d C.N = true) (hy : (⟨tm, ob⟩ : St).ev C.E y = .d (.imm (.int .u64 m)))
  (hz : (⟨tm, ob⟩ : St).ev C.E z = .d (.imm (.int k 1))) (he : m / 2 = h) (h0 : 0 ≤ m) (h1 : m < 18446744073709551616) (hn : SGo C all pu rest ⟨(d, .d (.imm (.int .u64 h))) :: tm, ob⟩ K) : SGo C all pu (o :: rest) ⟨tm, ob⟩ K := by
 obtain ⟨a, rfl⟩ := Int.eq_ofNat_of_zero_le h0
 have e : h = ((a / 2 ^ 1 : Nat) : Int) := by omega
 refine go_vopG hg hdst hd (v_binR ho hy hz (by simp) (by simp) (fun w => ?_) (inR_ok (k := .u64) (by simp only [inR]; omega))) hn
 rw [e]
 exact u64_shr a 1 (by omega) w
end
end Go.Abs
namespace Go.Abs
open Go
theorem yz {P R : Prop} (h : R) (f : R → P := by
  first
  | exact fun h => zS rfl h | exact qA | exact qB rfl | exact qD | exact qF | exact qE | exact qG | exact fun h => zT rfl h | exact fun h => zU rfl h | exact qL rfl rfl | exact qH rfl | exact qM rfl rfl rfl | exact qC (by kernel_rfl) | exact qO rfl rfl rfl) : P := f h
section
variable {C : Cx} {all : Array Oper} {pu : Bool} {K : St → Prop} {rest : List Oper} {o : Oper} {tm : List (Nat × X)} {ob : List AObj} {d : Nat}
theorem yp {y : Operand} {args : List Operand} {tys : Array TypeId} {f : FuncId} {ds : List D} {rx : X} (hb : HasBody C.E f) (h0 : Ev C.E f ds rx) (h : SGo C all pu rest ⟨(d, rx) :: tm, ob⟩ K)
  (ho : o.op = .call { callee := .value y, args := args.toArray, argTypes := tys } := by exact rfl) (hg : guardX all tm o = some true := by exact rfl) (hdst : o.dst = some d := by exact rfl) (hd : Nat.blt d C.N = true := by exact rfl)
  (hf : (⟨tm, ob⟩ : St).ev C.E y = .d (.imm (.func (.func f) #[] #[])) := by exact rfl) (hds : datsX C.E ⟨tm, ob⟩ args = some ds := by exact rfl) : SGo C all pu (o :: rest) ⟨tm, ob⟩ K := qP ho hg hdst hd hf hds hb h0 h
theorem yi {t : TypeId} {y z : Operand} {xs : List D} {k : IntKind} {i : Int} {te : TE} (x : D) (hx : xs[i.toNat]? = some x) (h : SGo C all pu rest ⟨(d, .at_ x 0) :: tm, ob⟩ K) (ho : o.op = .indexAddr t y z := by exact rfl) (hg : guardX all tm o = some true := by exact rfl) (hdst : o.dst = some d := by exact rfl)
  (hd : Nat.blt d C.N = true := by exact rfl) (hy : (⟨tm, ob⟩ : St).ev C.E y = .d (.sl xs) := by exact rfl) (hz : (⟨tm, ob⟩ : St).ev C.E z = .d (.imm (.int k i)) := by exact rfl) (hte : elemT C.E t = some te := by exact rfl) (hsz : Nat.beq x.cells.length te.size = true := by exact rfl)
  (h0 : 0 ≤ i := by first | omega | decide) : SGo C all pu (o :: rest) ⟨tm, ob⟩ K := qI x ho (guardX_ok hg) hdst hd hy hz hte hsz h0 hx h
theorem yc (sel : List Nat) {y : Operand} {args : List Operand} {tys : Array TypeId} {f : FuncId} {cs xs : List X} {ob1 ob1' ob2 : List AObj} {rx x2 : X} (hb : HasBody C.E f) (h0 : EvS C.E f xs ob1 rx ob1') (h : SGo C all false rest ⟨(d, x2) :: tm, ob2⟩ K)
  (ho : o.op = .call { callee := .value y, args := args.toArray, argTypes := tys } := by exact rfl) (hg : guardX all tm o = some true := by exact rfl) (hdst : o.dst = some d := by exact rfl) (hd : Nat.blt d C.N = true := by exact rfl)
  (hf : FnX ((⟨tm, ob⟩ : St).ev C.E y) f cs := by exact FnX.plain _) (hn : nodupB sel = true := by exact rfl) (hob : renObs sel ob sel = some ob1 := by exact rfl) (hx : renL sel (args.map (fun z => nrm ((⟨tm, ob⟩ : St).ev C.E z)) ++ cs) = some xs := by exact rfl)
  (hob2 : backL (bk sel ob.length) sel ob1' ob = ob2 := by exact rfl) (hx2 : bkX (bk sel ob.length) rx = x2 := by exact rfl) : SGo C all false (o :: rest) ⟨tm, ob⟩ K := go_callS sel ho hg hdst hd hf hb h0 hn hob hx hob2 hx2 h
theorem yv {k : Nat} {tm : List (Nat × X)} {P : Prop} (h : P) (hb : TmB k tm := by repeat (first | exact trivial | refine ⟨rfl, ?_⟩)) : TmB k tm ∧ P := ⟨hb, h⟩
end
section
variable {C : Cx} {l : List Oper} {E : List Nat} {wob : List AObj} {ops : List Oper} {tm : List (Nat × X)} {ob : List AObj} {K : St → Prop} {r : List It} {Q : Exit → St → Prop}
theorem yq (id : Nat) (E : List Nat) (h : RGo C id l E (List.replicate C.base.n0 AObj.dead) 0 l ⟨tm, ob⟩ (fun s' => go C r s' Q)) (ho : ordOK l = true := by kernel_rfl) (hE : chainB (ancs l) E = true := by kernel_rfl)
  (hw : wkP (List.replicate C.base.n0 AObj.dead).length (List.replicate C.base.n0 AObj.dead) ob := by repeat (first | exact trivial | refine ⟨⟨rfl, rfl⟩, ?_⟩ | refine ⟨trivial, ?_⟩)) : go C (.code (.region id l.toArray true) :: r) ⟨tm, ob⟩ Q := qR0 E ho hE hw h
theorem yf (id i n : Nat) (h : SGo C l.toArray true (ops.take n) ⟨tm, ob⟩ (fun s1 => RGo C id l E wob (i + n) (ops.drop n) ⟨s1.tm, ob⟩ K)) (hc : rgFB l E i n = true := by kernel_rfl) (hn : Nat.ble n ops.length = true := by exact rfl) : RGo C id l E wob i ops ⟨tm, ob⟩ K := rgF n hc hn h
end
theorem yy {P R1 R2 : Prop} (h1 : R1) (h2 : R2) (f : R1 → R2 → P := by exact qY rfl rfl rfl rfl) : P := f h1 h2
theorem yx {P R : Prop} (h : R) (f : R → P := by first | exact fun h => zX rfl rfl rfl rfl h | exact fun h => zW rfl rfl rfl rfl h) : P := f h
theorem yw {P R : Prop} (h : R) (f : R → P := by
  first
  | exact rgStore rfl rfl rfl rfl rfl rfl rfl rfl rfl rfl rfl (by repeat (first | exact trivial | refine ⟨⟨rfl, rfl⟩, ?_⟩ | refine ⟨trivial, ?_⟩))
  | exact rgAlloc rfl rfl rfl rfl rfl rfl rfl (by repeat (first | exact trivial | refine ⟨⟨rfl, rfl⟩, ?_⟩ | refine ⟨trivial, ?_⟩))
  | exact rgBox rfl rfl rfl rfl rfl rfl rfl (by repeat (first | exact trivial | refine ⟨⟨rfl, rfl⟩, ?_⟩ | refine ⟨trivial, ?_⟩))
  | exact rgBoxP rfl rfl rfl rfl rfl rfl rfl (by repeat (first | exact trivial | refine ⟨⟨rfl, rfl⟩, ?_⟩ | refine ⟨trivial, ?_⟩))
  | exact rgStoreP _ rfl rfl rfl rfl rfl rfl rfl (by assumption) rfl rfl rfl (by repeat (first | exact trivial | refine ⟨⟨rfl, rfl⟩, ?_⟩ | refine ⟨trivial, ?_⟩))
  | exact fun h => rgS rfl rfl rfl rfl (by first | exact True.intro | rfl | assumption | omega | (simp only [inR]; omega) | ((show _ ≤ (9223372036854775807 : Nat)); (try simp only [ByteArray.size_append]); omega) | exact tmod_ok (by omega) (by omega) | exact tdiv_ok (by omega) (by omega) | exact ⟨rfl, by decide, by decide⟩) (by repeat (first | exact trivial | refine ⟨⟨rfl, rfl⟩, ?_⟩ | refine ⟨trivial, ?_⟩)) h) : P := f h
theorem yF (p : Prop) [Decidable p] (h : ¬p) : decide p = false := decide_eq_false h
theorem yT (p : Prop) [Decidable p] (h : p) : decide p = true := decide_eq_true h
section
variable {C : Cx} {all : Array Oper} {pu : Bool} {K : St → Prop} {rest : List Oper} {o : Oper} {tm : List (Nat × X)} {ob ob' : List AObj} {d : Nat} {r : List It} {fn : Func}
theorem yl {t te : TypeId} {y : Operand} {i k off size : Nat} {xs : List D} {e : D} {x : X} {p : Prop} (he : xs[i]? = some e) (h : SGo C all pu rest ⟨(d, x) :: tm, ob⟩ K) (ho : o.op = .load t y := by exact rfl) (hg : guardX all tm o = some true := by exact rfl) (hdst : o.dst = some d := by exact rfl) (hd : Nat.blt d C.N = true := by exact rfl)
  (hy : (⟨tm, ob⟩ : St).ev C.E y = .pel k i off size := by exact rfl) (hob : ob[k]? = some (.row te size xs) := by exact rfl) (hl : loadX C.E ob t (.at_ e off) = some (p, x) := by exact rfl) : SGo C all pu (o :: rest) ⟨tm, ob⟩ K := qW e ho hg hdst hd hy hob he hl h
theorem yr (ks : List Nat) {q : ResultVar} {d d' : D} (he : d = d') (hn : nodupB ks = true := by exact rfl) (hk0 : ((List.range C.base.n0).all fun i => ks[i]? == some i) = true := by exact rfl) (hob : renObs ks ob ks = some ob' := by exact rfl) (hr : fn.results = #[q] := by exact rfl) (h : resX C ⟨tm, ob⟩ q = some d := by exact rfl) :
  go C (.code .ret :: r) ⟨tm, ob⟩ (EndSD C fn (.d d') ob') := retD1 ks hn hk0 hob hr h he
theorem yt (ks : List Nat) {q q' : ResultVar} {d d' : D} {l : List D} (he : [d, d'] = l) (hn : nodupB ks = true := by exact rfl) (hk0 : ((List.range C.base.n0).all fun i => ks[i]? == some i) = true := by exact rfl) (hob : renObs ks ob ks = some ob' := by exact rfl) (hr : fn.results = #[q, q'] := by exact rfl) (h : resX C ⟨tm, ob⟩ q = some d := by exact rfl) (h' : resX C ⟨tm, ob⟩ q' = some d' := by exact rfl) :
  go C (.code .ret :: r) ⟨tm, ob⟩ (EndSD C fn (.tup l) ob') := retD2 ks hn hk0 hob hr h h' he
theorem yo (ks : List Nat) (hn : nodupB ks = true := by exact rfl) (hk0 : ((List.range C.base.n0).all fun i => ks[i]? == some i) = true := by exact rfl) (hob : renObs ks ob ks = some ob' := by exact rfl) (hr : fn.results = #[] := by exact rfl) : go C [] ⟨tm, ob⟩ (EndS C fn (.tup []) ob') := endS0 ks hn hk0 hob hr
end
section
variable {E : Env} {f : FuncId} {fn : Func} {c : Code} {rx : X} {N : Nat} {d0 d1 d2 : D}
theorem ye1 (hf : E.P.funcs[f]? = some fn) (hN : fn.ntmps = N) (h : ∀ (w0 : World) (F0 O : Nat → Prop), go ⟨E, w0, F0, N, ⟨O, 0, []⟩⟩ [.code c] ⟨[(0, .d d0)], []⟩ (EndIs ⟨E, w0, F0, N, ⟨O, 0, []⟩⟩ fn rx)) (hb : fn.body = some c := by exact rfl) (hle : Nat.ble 1 N = true := by exact rfl) : Ev E f [d0] rx := enter1 hf hN hb hle h
theorem ye2 (hf : E.P.funcs[f]? = some fn) (hN : fn.ntmps = N) (h : ∀ (w0 : World) (F0 O : Nat → Prop), go ⟨E, w0, F0, N, ⟨O, 0, []⟩⟩ [.code c] ⟨[(0, .d d0), (1, .d d1)], []⟩ (EndIs ⟨E, w0, F0, N, ⟨O, 0, []⟩⟩ fn rx)) (hb : fn.body = some c := by exact rfl) (hle : Nat.ble 2 N = true := by exact rfl) : Ev E f [d0, d1] rx := enter2 hf hN hb hle h
theorem ye3 (hf : E.P.funcs[f]? = some fn) (hN : fn.ntmps = N) (h : ∀ (w0 : World) (F0 O : Nat → Prop), go ⟨E, w0, F0, N, ⟨O, 0, []⟩⟩ [.code c] ⟨[(0, .d d0), (1, .d d1), (2, .d d2)], []⟩ (EndIs ⟨E, w0, F0, N, ⟨O, 0, []⟩⟩ fn rx)) (hb : fn.body = some c := by exact rfl) (hle : Nat.ble 3 N = true := by exact rfl) : Ev E f [d0, d1, d2] rx := enter3 hf hN hb hle h
variable {xs : List X} {ob ob' : List AObj} {tm : List (Nat × X)} {n : Nat}
theorem yn (hf : E.P.funcs[f]? = some fn) (hN : fn.ntmps = N) (h : ∀ (w0 : World) (F0 O : Nat → Prop) (σ0 : Sg), go ⟨E, w0, F0, N, ⟨O, n, σ0⟩⟩ [.code c] ⟨tm, ob⟩ (EndS ⟨E, w0, F0, N, ⟨O, n, σ0⟩⟩ fn rx ob')) (hb : fn.body = some c := by exact rfl) (hle : Nat.ble xs.length N = true := by exact rfl)
  (hn : ob.length = n := by (dsimp only [List.range, List.range.loop, List.zip, List.zipWith, List.length] <;> exact rfl)) (ht : (List.range xs.length).zip xs = tm := by (dsimp only [List.range, List.range.loop, List.zip, List.zipWith, List.length] <;> exact rfl)) : EvS E f xs ob rx ob' := by
 subst hn ht
 exact EvS.enter hf hN hb hle h
theorem yd (hf : E.P.funcs[f]? = some fn) (hN : fn.ntmps = N) (h : ∀ (w0 : World) (F0 O : Nat → Prop) (σ0 : Sg), go ⟨E, w0, F0, N, ⟨O, n, σ0⟩⟩ [.code c] ⟨tm, ob⟩ (EndSD ⟨E, w0, F0, N, ⟨O, n, σ0⟩⟩ fn rx ob')) (hb : fn.body = some c := by exact rfl) (hle : Nat.ble xs.length N = true := by exact rfl)
  (hn : ob.length = n := by (dsimp only [List.range, List.range.loop, List.zip, List.zipWith, List.length] <;> exact rfl)) (ht : (List.range xs.length).zip xs = tm := by (dsimp only [List.range, List.range.loop, List.zip, List.zipWith, List.length] <;> exact rfl)) : EvS E f xs ob rx ob' := by
 subst hn ht
 exact EvS.enterD hf hN hb hle h
end
section
variable {C : Cx} {l : List Oper} {wob : List AObj} {E : List Nat} {ops : List Oper} {tm : List (Nat × X)} {ob : List AObj} {K : St → Prop} {r : List It} {Q : Exit → St → Prop}
theorem yu (id : Nat) (E T : List Nat) (h : RGo C id l E (killT T ob) 0 l ⟨tm, ob⟩ (fun s' => go C r s' Q)) (ho : ordOK l = true := by kernel_rfl) (hE : chainB (ancs l) E = true := by kernel_rfl) (hn : Nat.ble C.base.n0 (killT T ob).length = true := by exact rfl) (hw : wkP (killT T ob).length (killT T ob) ob := by repeat (first | exact trivial | refine ⟨⟨rfl, rfl⟩, ?_⟩ | refine ⟨trivial, ?_⟩)) : go C (.code (.region id l.toArray true) :: r) ⟨tm, ob⟩ Q := qRT E T ho hE hn hw h
theorem yk (id i n : Nat) (h : SGo C l.toArray true (ops.take n) ⟨tm, wob⟩ (fun s1 => TmB wob.length s1.tm ∧ RGo C id l E wob (i + n) (ops.drop n) ⟨s1.tm, ob⟩ K)) (hc : rgWB E i n = true := by kernel_rfl) (hn : Nat.ble n ops.length = true := by exact rfl) (hnd : dstND (ops.take n) = true := by kernel_rfl) (hb : TmB wob.length tm := by repeat (first | exact trivial | refine ⟨rfl, ?_⟩)) : RGo C id l E wob i ops ⟨tm, ob⟩ K := rgW n hc hn hnd hb h
end
end Go.Abs
namespace Go.Abs
open Go Go.RowKit
section
variable {C : Cx} {s : St} {o : Oper}
end
section
variable {C : Cx} {s : St} {o : Oper}
end
section
variable {C : Cx} {all : Array Oper} {pu : Bool} {K : St → Prop} {rest : List Oper} {tm : List (Nat × X)} {ob : List AObj} {d : Nat} {o : Oper}
end
end Go.Abs
namespace Go.Abs
open Go Go.RowKit
section
variable {C : Cx} {s : St} {o : Oper}
def zeroNs : List Value → Option (List D)
 | [] => some []
 | v :: r => bif okV v then (zeroNs r).map (D.imm v :: ·) else none
theorem zeroNs_ok {w : World} {F : Nat → Prop} : ∀ {vs : List Value} {cs : List D}, zeroNs vs = some cs → CellsRd w F vs cs
 | [], cs, h => by
  simp only [zeroNs] at h
  cases h
  exact ⟨rfl, fun v h => (by simp at h), fun i v h => (by simp at h)⟩
 | v :: r, cs, h => by
  simp only [zeroNs] at h
  cases hv : okV v with
  | false => rw [hv] at h; cases h
  | true =>
   rw [hv, cond_true, Option.map_eq_some_iff] at h
   obtain ⟨cs', hc, rfl⟩ := h
   have ih := zeroNs_ok (w := w) (F := F) hc
   refine ⟨by simp [ih.len], fun u hu => ?_, fun i u hu => ?_⟩
   ·rcases List.mem_cons.1 hu with e | e
    ·rw [e]; exact okV_one hv
    ·exact ih.one u e
   ·cases i with
    | zero => simp at hu; subst hu; exact ⟨.imm v, by simp, Rd.imm v hv⟩
    | succ i => simpa using ih.rd i u (by simpa using hu)
theorem v_buildN {t : TypeId} {parts : Array (Nat × Operand)} {e : TE} {fs : Array Field} {zs cs : List D} (ho : o.op = .build t parts) (he : findT C.E.T t = some e) (hds : e.desc = .struct fs) (hb : allPlaces C.E fs.toList = true) (hzs : zeroNs e.zero.cells.toList = some zs)
  (hcs : fillX C.E fs s parts.toList zs = some cs) : VOp C s o (.d (.agg cs)) := by
 refine VOp.pure_ fun F σ w a hi hr => ?_
 obtain ⟨hok, rfl⟩ := findT_ok he
 have hu := hok.1
 rw [hds] at hu
 obtain ⟨ps, m1, m2⟩ := mapM_places (E := C.E) (w := w) fs.toList hb
 have hz0 := zeroNs_ok (w := w) (F := F) hzs
 obtain ⟨vs', f1, f2⟩ := fill_ok (s := s) (a := a) (σ := σ) (places := ps.toArray) (fun i off size hp => by simpa using m2 i off size (by simpa using hp)) parts.toList e.zero.cells zs cs
  (fun q hq => hr q.2 (by simp [ho, Op.operands]; exact ⟨q.1, by simpa using hq⟩)) hz0 hcs
 refine ⟨.agg vs', ?_, ?_⟩
 ·have m1' : (fs.mapM fun f => (do pure (f.offset, ← sizeOf f.type) : Sem (Nat × Nat))).run C.E.P w = .ok ps.toArray w := by
   rw [← Array.toArray_toList (xs := fs), List.mapM_toArray]
   simp only [map_eq_pure_bind, Sem.run_bind, m1, Result.andThen_ok, Sem.run_pure]
  have hparts : (parts.map fun (i, x) => (i, a.eval x)).toList = parts.toList.map fun q => (q.1, a.eval q.2) := by simp
  simp only [execOp, ho, Instr.build, Sem.run_bind, zero_run hok, Result.andThen_ok, run_underlying hu, m1', hparts, f1, Sem.run_pure]
 ·have := rd_agg (ds := cs) (vs := vs'.toList) f2.len f2.one f2.rd
  show Rd w F (.agg cs) (.agg vs')
  simpa using this
theorem rd_nil {w : World} {F : Nat → Prop} {v : Value} (h : Rd w F (.imm (.slice none 0 0)) v) : Rd w F (.sl []) v := by
 rw [(Rd.imm_inv h).1]
 exact Rd.slnil
theorem v_append0o {t t' : TypeId} {y z : Operand} {te : TE} {e' : TypeId} {k : Nat} {xs : List D} (ho : o.op = .call { callee := .builtin .append, args := #[y, z], argTypes := #[t, t'] }) (hte : elemT C.E t = some te) (hd' : descOf C.E t' = some (.slice e'))
  (hy' : s.ev C.E y = .own k) (hob : s.ob[k]? = some (.row te.t te.size xs)) (hz' : s.ev C.E z = .d (.sl [])) : VOp C s o (.own k) := by
 obtain ⟨hu, hok⟩ := elemT_ok hte
 refine VOp.pure_ fun F σ w a hi hr => ?_
 have hy := hr y (by simp [ho, Op.operands, Call.operands])
 have hz := hr z (by simp [ho, Op.operands, Call.operands])
 rw [hy'] at hy
 rw [hz'] at hz
 have key : ∀ v, (Builtin.append_ #[t, t'] o.type #[a.eval y, a.eval z]).run C.E.P w = .ok v w → (execOp a.eval o).run C.E.P w = .ok (.value v) w := by
  intro v hv
  simp [execOp, ho, resolve, invoke, builtin, hv]
 have hzv : ∃ zb zc, a.eval z = .slice zb 0 zc := by
  rcases Rd.sl_inv hz with ⟨-, e⟩ | ⟨_, ad, cap, e, -⟩
  ·exact ⟨_, _, e⟩
  ·exact ⟨_, _, e⟩
 obtain ⟨zb, zc, ez⟩ := hzv
 refine ⟨a.eval y, key _ ?_, hy⟩
 obtain ⟨b, c, n, p1, p2⟩ := hy
 obtain ⟨vs, q1, q2, q3, q4, -⟩ := hi.obs k _ _ hob p1
 rw [p2, ez]
 exact append0_run hu hok (descOf_ok hd') q4
end
section
variable {C : Cx} {all : Array Oper} {pu : Bool} {K : St → Prop} {rest : List Oper} {tm : List (Nat × X)} {ob : List AObj} {d : Nat} {o : Oper}
theorem go_buildN {t : TypeId} {parts : Array (Nat × Operand)} {e : TE} {fs : Array Field} {zs cs : List D} (ho : o.op = .build t parts) (hg : guardX all tm o = some true) (hdst : o.dst = some d) (hd : Nat.blt d C.N = true) (he : findT C.E.T t = some e) (hds : e.desc = .struct fs) (hb : allPlaces C.E fs.toList = true) (hzs : zeroNs e.zero.cells.toList = some zs)
  (hcs : fillX C.E fs ⟨tm, ob⟩ parts.toList zs = some cs) (h : SGo C all pu rest ⟨(d, .d (.agg cs)) :: tm, ob⟩ K) : SGo C all pu (o :: rest) ⟨tm, ob⟩ K := go_vopG hg hdst hd (v_buildN ho he hds hb hzs hcs) h
theorem go_append0o {t t' : TypeId} {y z : Operand} {te : TE} {e' : TypeId} {k : Nat} {xs : List D} (ho : o.op = .call { callee := .builtin .append, args := #[y, z], argTypes := #[t, t'] })
  (hg : guardX all tm o = some true) (hdst : o.dst = some d) (hd : Nat.blt d C.N = true) (hte : elemT C.E t = some te) (hd' : descOf C.E t' = some (.slice e')) (hy' : (⟨tm, ob⟩ : St).ev C.E y = .own k) (hob : ob[k]? = some (.row te.t te.size xs)) (hz' : (⟨tm, ob⟩ : St).ev C.E z = .d (.sl []))
  (h : SGo C all pu rest ⟨(d, .own k) :: tm, ob⟩ K) : SGo C all pu (o :: rest) ⟨tm, ob⟩ K :=
 go_vopG hg hdst hd (v_append0o ho hte hd' hy' hob hz') h
end
end Go.Abs
namespace Go.Abs
open Go Go.RowKit
theorem Le.dead {C : Cx} {tm : List (Nat × X)} {ob : List AObj} : Le C ⟨tm, ob⟩ ⟨tm, ob ++ [.dead]⟩ := by
 rintro a w ⟨F, σ, h1, h2, h3, hi, h4, h5, hs⟩
 have hget : ∀ (o : Nat) (x : AObj) (p : Nat × Nat × Nat), (ob ++ [AObj.dead])[o]? = some x → (σ ++ [(0, 0, 0)])[o]? = some p → x.live = true → ob[o]? = some x ∧ σ[o]? = some p := by
  intro o x p hx hp hl
  have hlt : o < ob.length := by
   rcases Nat.lt_or_ge o ob.length with h | h
   ·exact h
   ·rw [List.getElem?_append_right h] at hx
    rcases Nat.eq_zero_or_pos (o - ob.length) with e | e
    ·rw [e] at hx; cases hx; simp [AObj.live] at hl
    ·rw [List.getElem?_eq_none (by simp; omega)] at hx; cases hx
  rw [List.getElem?_append_left hlt] at hx
  rw [List.getElem?_append_left (by rw [hi.len]; exact hlt)] at hp
  exact ⟨hx, hp⟩
 refine ⟨F, σ ++ [(0, 0, 0)], h1, h2, h3, ⟨hi.flt, hi.glob, by simp [hi.len], fun o x p hx hp => ?_, fun o o' x x' p p' hne hx hl hx' hl' hp hp' => ?_, fun i p hp hq => σ_app _ _ (hi.pre i p hp hq)⟩, h4, h5, fun t => (hs t).mono (fun _ h => h) (fun _ _ => rfl) σ_app⟩
 ·cases hl : x.live with
  | false =>
   cases x with
   | dead => trivial
   | _ => simp [AObj.live] at hl
  | true =>
   obtain ⟨g1, g2⟩ := hget o x p hx hp hl
   exact (hi.obs o x p g1 g2).mono (fun _ h => h) (fun _ _ => rfl) σ_app (fun _ => rfl) (fun _ h => h)
 ·obtain ⟨g1, g2⟩ := hget o x p hx hp hl
  obtain ⟨g3, g4⟩ := hget o' x' p' hx' hp' hl'
  exact hi.inj o o' x x' p p' hne g1 hl g3 hl' g2 g4
theorem Le.objW {C : Cx} {tm : List (Nat × X)} {ob : List AObj} (k : Nat) {ty : TypeId} {c c' : VC} (hob : ob[k]? = some (.var ty c)) (hl : c.cells.length = c'.cells.length)
  (hw : ∀ (i : Nat) x x', c.cells[i]? = some x → c'.cells[i]? = some x' → ∀ w F σ v, RdX w F σ x v → RdX w F σ x' v) : Le C ⟨tm, ob⟩ ⟨tm, ob.set k (.var ty c')⟩ := by
 rintro a w ⟨F, σ, h1, h2, h3, hi, h4, h5, hs⟩
 have hget : ∀ (i : Nat) (y : AObj), (ob.set k (.var ty c'))[i]? = some y → ∃ x, ob[i]? = some x ∧ (x = y ∨ (x = .var ty c ∧ y = .var ty c')) := by
  intro i y hy
  rw [List.getElem?_set] at hy
  split at hy
  ·rename_i e
   subst e
   split at hy
   ·cases hy; exact ⟨_, hob, .inr ⟨rfl, rfl⟩⟩
   ·cases hy
  ·exact ⟨y, hy, .inl rfl⟩
 have hlive : ∀ x y : AObj, (x = y ∨ (x = .var ty c ∧ y = .var ty c')) → y.live = true → x.live = true := by
  rintro x y (rfl | ⟨rfl, rfl⟩) hy
  ·exact hy
  ·rfl
 refine ⟨F, σ, h1, h2, h3, ⟨hi.flt, hi.glob, by rw [hi.len]; simp, fun o x p hx hp => ?_, fun o o' x x' p p' hne hx hlx hx' hlx' hp hp' => ?_, hi.pre⟩, h4, h5, hs⟩
 ·obtain ⟨x0, hx0, e⟩ := hget o x hx
  rcases e with rfl | ⟨rfl, rfl⟩
  ·exact hi.obs o x0 p hx0 hp
  ·have hobs := hi.obs o _ p hx0 hp
   obtain ⟨pb, pc, pn⟩ := p
   obtain ⟨vs, q1, q2, q3, q4, q5⟩ := hobs
   refine ⟨vs, q1, by rw [← hl]; exact q2, q3, fun i x v hx hv => ?_, q5⟩
   have hlt : i < c.cells.length := by rw [hl]; exact (List.getElem?_eq_some_iff.1 hx).1
   exact hw i _ x (List.getElem?_eq_getElem hlt) hx w F σ v (q4 i _ v (List.getElem?_eq_getElem hlt) hv)
 ·obtain ⟨x0, hx0, e⟩ := hget o x hx
  obtain ⟨x1, hx1, e'⟩ := hget o' x' hx'
  exact hi.inj o o' x0 x1 p p' hne hx0 (hlive _ _ e hlx) hx1 (hlive _ _ e' hlx') hp hp'
section
variable {C : Cx} {r : List It} {Q : Exit → St → Prop} {tm : List (Nat × X)} {ob : List AObj} {c : Code}
theorem go_dead (h : go C (.code c :: r) ⟨tm, ob ++ [.dead]⟩ Q) : go C (.code c :: r) ⟨tm, ob⟩ Q := go_weaken Le.dead h
end
end Go.Abs
namespace Go.Abs
open Go Go.RowKit
theorem mGet_cons (k : Value) (x : Value × D) (r : List (Value × D)) (z : D) : mGet k (x :: r) z = bif vEq k x.1 then x.2 else mGet k r z := by
 simp only [mGet, mIdx]
 cases vEq k x.1 with
 | true => rfl
 | false =>
  simp only [cond_false]
  cases mIdx k r <;> rfl
theorem mPut_nil (k : Value) (d : D) : mPut k d [] = [(k, d)] := rfl
theorem mPut_cons (k : Value) (d : D) (x : Value × D) (r : List (Value × D)) : mPut k d (x :: r) = bif vEq k x.1 then (k, d) :: r else x :: mPut k d r := by
 simp only [mPut, mIdx]
 cases vEq k x.1 with
 | true => rfl
 | false =>
  simp only [cond_false]
  cases mIdx k r <;> rfl
theorem vEq_int {a b : Int} {x : Value} (h : vEq (.int .i64 a) x = true) : vEq (.int .i64 b) x = (b == a) := by
 cases x <;> simp_all [vEq]
theorem mGet_put (a b : Int) (d z : D) : ∀ (xs : List (Value × D)), mGet (.int .i64 b) (mPut (.int .i64 a) d xs) z = bif b == a then d else mGet (.int .i64 b) xs z
 | [] => by rw [mPut_nil, mGet_cons]; rfl
 | x :: r => by
  rw [mPut_cons, mGet_cons]
  cases h : vEq (.int .i64 a) x.1 with
  | true =>
   rw [cond_true, mGet_cons, vEq_int h]
   show (bif (b == a) then d else _) = _
   cases b == a <;> rfl
  | false =>
   rw [cond_false, mGet_cons, mGet_put a b d z r]
   cases hb : vEq (.int .i64 b) x.1 with
   | false => rfl
   | true =>
    have : (b == a) = false := by rw [← Bool.not_eq_true, beq_iff_eq]; rintro rfl; rw [h] at hb; cases hb
    rw [this]; rfl
section
variable {C : Cx} {s : St} {o : Oper}
theorem s_mapUpdate {t kt et : TypeId} {y z v : Operand} {k : Nat} {kd : TypeDesc} {xs : List (Value × D)} {kv : Value} {e : D} (ho : o.op = .mapUpdate t y z v) (hdst : o.dst = none) (hy : s.ev C.E y = .mp k) (hz : s.ev C.E z = .d (.imm kv)) (hv : toD (s.ev C.E v) = some e)
  (hob : s.ob[k]? = some (.map kd xs)) (hm : descOf C.E t = some (.map kt et)) (hk : descOf C.E kt = some kd) (hkv : keyB kd kv = true) : SOp C s o (s.setOb k (.map kd (mPut kv e xs))) := by
 rintro w a K Q ⟨F, σ, h1, h2, h3, hi, h4, h5, hs⟩ hK
 have g1 := ev_rd (E := C.E) hi hs y
 have g2 := ev_rd (E := C.E) hi hs z
 have g3 := toD_rd hv (ev_rd (E := C.E) hi hs v)
 rw [hy] at g1
 rw [hz] at g2
 obtain ⟨b, c, n, p1, p2⟩ := g1
 obtain ⟨e2, -⟩ := Rd.imm_inv g2
 obtain ⟨es, q1, q2, q3, q4, q5, q6⟩ := hi.obs k _ _ hob p1
 have hkk := keyB_ok hkv
 have hf := findNow_idx hkk es.toList xs 0 (by simpa using q2) (fun j e x he hx => (q3 j e x (by simpa using he) hx).1.1) q4
 cases hi' : mIdx kv xs with
 | none =>
  rw [hi'] at hf
  have hp : mPut kv e xs = xs ++ [(kv, e)] := by rw [mPut, hi']
  have hrun : (execOp a.eval o).run C.E.P w = .ok .skip { w with heap := w.heap.setIfInBounds b (.map (es.push { key := kv, val := a.eval v, born := es.size }) (es.size + 1)) } := by
   simp [execOp, ho, p2, e2, Instr.mapUpdate, run_underlying (descOf_ok hm), MapKept.run_getObj_map q1, MapKept.run_checkKey (descOf_ok hk) hkk, MapKept.run_findKey (descOf_ok hk) hf, MapKept.run_setObj_map _ q1, Result.andThen]
  unfold Oper.wp
  rw [hp] at hK
  rw [hrun]
  simp only [Oper.upon]
  rw [hdst]
  have := rel_map (s := s) (ys := xs ++ [(kv, e)]) (es' := es.push { key := kv, val := a.eval v, born := es.size }) h1 h2 h3 hi h4 h5 hs hob p1 q1 q5 q6 (by simp [q2]) (fun i u x he hx => ?_) (fun x hx => ?_)
  ·rw [Array.size_push] at this
   exact hK _ _ this
  ·rcases Nat.lt_or_ge i xs.length with hlt | hge
   ·rw [List.getElem?_append_left hlt] at hx
    rw [Array.getElem?_push, if_neg (by omega)] at he
    exact q3 i u x he hx
   ·have hie : i = xs.length := by
     have := (List.getElem?_eq_some_iff.1 hx).1
     simp at this
     omega
    subst hie
    rw [List.getElem?_append_right (Nat.le_refl _), Nat.sub_self] at hx
    rw [Array.getElem?_push, if_pos q2.symm] at he
    cases hx
    cases he
    exact ⟨⟨rfl, q2⟩, g3⟩
  ·rcases List.mem_append.1 hx with hx | hx
   ·exact q4 x hx
   ·rw [List.mem_singleton.1 hx]; exact hkk
 | some i =>
  rw [hi'] at hf
  obtain ⟨x, hx, hxv⟩ := mIdx_some hi'
  have hix : i < xs.length := (List.getElem?_eq_some_iff.1 hx).1
  have hil : i < es.size := by omega
  obtain ⟨u, he⟩ : ∃ u, es[i]? = some u := ⟨es[i], by simp [hil]⟩
  have hf' : Instr.findNow kd kv es.toList 0 = some (some (i, u.val)) := by rw [hf]; simp [he]
  have hkx : kv = x.1 := (vEq_iff hkk (q4 x (List.mem_of_getElem? hx))).1 hxv
  obtain ⟨⟨hek, heb⟩, hev⟩ := q3 i u x he hx
  have hekv : u.key = kv := by rw [hek, hkx]
  have hp : mPut kv e xs = xs.set i (kv, e) := by rw [mPut, hi']
  have hrun : (execOp a.eval o).run C.E.P w = .ok .skip { w with heap := w.heap.setIfInBounds b (.map (es.modify i fun e' => { e' with key := kv, val := a.eval v }) es.size) } := by
   simp [execOp, ho, p2, e2, Instr.mapUpdate, run_underlying (descOf_ok hm), MapKept.run_getObj_map q1, MapKept.run_checkKey (descOf_ok hk) hkk, MapKept.run_findKey (descOf_ok hk) hf', he, hekv, MapKept.run_keyThatStays hkk, MapKept.run_setObj_map _ q1, Result.andThen]
  unfold Oper.wp
  rw [hp] at hK
  rw [hrun]
  simp only [Oper.upon]
  rw [hdst]
  have := rel_map (s := s) (ys := xs.set i (kv, e)) (es' := es.modify i fun e' => { e' with key := kv, val := a.eval v }) h1 h2 h3 hi h4 h5 hs hob p1 q1 q5 q6 (by simp [q2]) (fun j w' v' hu hv' => ?_) (fun u' hu => ?_)
  ·rw [Array.size_modify] at this
   exact hK _ _ this
  ·rw [Array.getElem?_modify] at hu
   rw [List.getElem?_set] at hv'
   split at hu
   ·rename_i e1
    subst e1
    rw [if_pos rfl, if_pos hix] at hv'
    cases hv'
    rw [Option.map_eq_some_iff] at hu
    obtain ⟨u0, hu0, rfl⟩ := hu
    rw [he] at hu0
    cases hu0
    exact ⟨⟨rfl, heb⟩, g3⟩
   ·rename_i e1
    rw [if_neg e1] at hv'
    exact q3 j w' v' hu hv'
  ·rcases List.mem_or_eq_of_mem_set hu with h | h
   ·exact q4 u' h
   ·rw [h]; exact hkk
end
section
variable {C : Cx} {K : St → Prop} {all : Array Oper} {pu : Bool} {rest : List Oper} {tm : List (Nat × X)} {ob : List AObj} {d : Nat} {o : Oper}
theorem go_lookupE {t kt et : TypeId} {y z : Operand} {k : Nat} {kd : TypeDesc} {xs : List (Value × D)} {kv : Value} {te : TE} {zd e : D} (he : mGet kv xs zd = e) (h : SGo C all pu rest ⟨(d, .d e) :: tm, ob⟩ K) (ho : o.op = .lookup t y z false := by exact rfl) (hg : guardX all tm o = some true := by exact rfl) (hdst : o.dst = some d := by exact rfl) (hd : Nat.blt d C.N = true := by exact rfl) (hy : (⟨tm, ob⟩ : St).ev C.E y = .mp k := by exact rfl) (hz : (⟨tm, ob⟩ : St).ev C.E z = .d (.imm kv) := by exact rfl) (hob : ob[k]? = some (.map kd xs) := by exact rfl)
  (hm : descOf C.E t = some (.map kt et) := by exact rfl) (hk : descOf C.E kt = some kd := by exact rfl) (hkv : keyB kd kv = true := by exact rfl) (hte : findT C.E.T et = some te := by exact rfl) (hzd : zeroDs [te.zero] = some [zd] := by exact rfl) (hz1 : te.zero.oneCell' = true := by exact rfl) : SGo C all pu (o :: rest) ⟨tm, ob⟩ K := by
 subst he
 exact go_lookup ho hg hdst hd hy hz hob hm hk hkv hte hzd hz1 h
theorem go_mapUpdate {t kt et : TypeId} {y z v : Operand} {k : Nat} {kd : TypeDesc} {xs : List (Value × D)} {kv : Value} {e : D} (h : SGo C all false rest ⟨tm, ob.set k (.map kd (mPut kv e xs))⟩ K) (ho : o.op = .mapUpdate t y z v := by exact rfl) (hg : guardX all tm o = some true := by exact rfl) (hdst : o.dst = none := by exact rfl) (hy : (⟨tm, ob⟩ : St).ev C.E y = .mp k := by exact rfl) (hz : (⟨tm, ob⟩ : St).ev C.E z = .d (.imm kv) := by exact rfl)
  (hv : toD ((⟨tm, ob⟩ : St).ev C.E v) = some e := by exact rfl) (hob : ob[k]? = some (.map kd xs) := by exact rfl) (hm : descOf C.E t = some (.map kt et) := by exact rfl) (hk : descOf C.E kt = some kd := by exact rfl) (hkv : keyB kd kv = true := by exact rfl) : SGo C all false (o :: rest) ⟨tm, ob⟩ K :=
 SGo.eff (guardX_ok hg) (s_mapUpdate ho hdst hy hz hv hob hm hk hkv) h
end
end Go.Abs
namespace Go.Abs
open Go Go.RowKit
section
variable {C : Cx} {s : St} {o : Oper}
theorem v_append0n {t t' : TypeId} {y z : Operand} {te : TE} {e' : TypeId} (ho : o.op = .call { callee := .builtin .append, args := #[y, z], argTypes := #[t, t'] }) (hte : elemT C.E t = some te) (hd' : descOf C.E t' = some (.slice e'))
  (hy' : s.ev C.E y = .nilS) (hz' : s.ev C.E z = .d (.sl [])) : VOp C s o .nilS := by
 obtain ⟨hu, hok⟩ := elemT_ok hte
 refine VOp.pure_ fun F σ w a hi hr => ?_
 have hy := hr y (by simp [ho, Op.operands, Call.operands])
 have hz := hr z (by simp [ho, Op.operands, Call.operands])
 rw [hy'] at hy
 rw [hz'] at hz
 have key : ∀ v, (Builtin.append_ #[t, t'] o.type #[a.eval y, a.eval z]).run C.E.P w = .ok v w → (execOp a.eval o).run C.E.P w = .ok (.value v) w := by
  intro v hv
  simp [execOp, ho, resolve, invoke, builtin, hv]
 have hzv : ∃ zb zc, a.eval z = .slice zb 0 zc := by
  rcases Rd.sl_inv hz with ⟨-, e⟩ | ⟨_, ad, cap, e, -⟩
  ·exact ⟨_, _, e⟩
  ·exact ⟨_, _, e⟩
 obtain ⟨zb, zc, ez⟩ := hzv
 refine ⟨a.eval y, key _ ?_, hy⟩
 rw [show a.eval y = .slice none 0 0 from hy, ez]
 exact append0_run hu hok (descOf_ok hd') (Nat.le_refl _)
end
section
variable {C : Cx} {all : Array Oper} {pu : Bool} {K : St → Prop} {rest : List Oper} {tm : List (Nat × X)} {ob : List AObj} {d : Nat} {o : Oper}
theorem go_append0n {t t' : TypeId} {y z : Operand} {te : TE} {e' : TypeId} (h : SGo C all pu rest ⟨(d, .nilS) :: tm, ob⟩ K) (ho : o.op = .call { callee := .builtin .append, args := #[y, z], argTypes := #[t, t'] } := by exact rfl)
  (hg : guardX all tm o = some true := by exact rfl) (hdst : o.dst = some d := by exact rfl) (hd : Nat.blt d C.N = true := by exact rfl) (hte : elemT C.E t = some te := by exact rfl) (hd' : descOf C.E t' = some (.slice e') := by exact rfl) (hy' : (⟨tm, ob⟩ : St).ev C.E y = .nilS := by exact rfl) (hz' : (⟨tm, ob⟩ : St).ev C.E z = .d (.sl []) := by exact rfl) : SGo C all pu (o :: rest) ⟨tm, ob⟩ K :=
 go_vopG hg hdst hd (v_append0n ho hte hd' hy' hz') h
end
end Go.Abs
namespace Go.Abs
open Go Go.RowKit
def Dn (eff : Nat → Bool) (L : Array Bool) : Nat → Bool := fun i => eff i && L.getD i false
structure DnOK (ops : List Oper) (eff : Nat → Bool) (i : Nat) (D : Nat → Bool) : Prop where
 sub : ∀ j, D j = true → eff j = true
 pre : ∀ j, eff j = true → Ahead ops j i → D j = true
 post : ∀ j, eff j = true → Ahead ops i j → D j = false
structure Dr2 (C : Cx) (s : St) (xs : List (Oper × Option X)) (ops : List Oper) (obT : (Nat → Bool) → List AObj) (eff : Nat → Bool) (L : Array Bool) (a : Act) (w : World) : Prop where
 size : L.size = ops.length
 down : DownL ops L
 rel : ∃ tm, C.Rel ⟨tm, obT (Dn eff L)⟩ a w ∧
  (∀ t, (∀ (j : Nat) o, ops[j]? = some o → L.getD j false = true → o.dst ≠ some t) → lk tm t = lk s.tm t) ∧
  (∀ (j : Nat) o x t, xs[j]? = some (o, x) → L.getD j false = true → o.dst = some t → lk tm t = x.getD .und)
theorem Dr2.all {C : Cx} {s : St} {xs : List (Oper × Option X)} {ops : List Oper} {obT : (Nat → Bool) → List AObj} {eff : Nat → Bool} (hx : xs.map (·.1) = ops) (ho : OrdOK ops)
  (hdk : ∀ (i : Nat) o x, xs[i]? = some (o, x) → dstOK C o = true ∧ GuardIs ops.toArray (stps s (xs.take i)) o x.isSome)
  (hv : ∀ (i : Nat) o x, eff i = false → xs[i]? = some (o, x) → ∀ y, x = some y → ∀ D, DnOK ops eff i D → VOp C ⟨(stps s (xs.take i)).tm, obT D⟩ o y)
  (hve : ∀ (i : Nat) o x, eff i = true → xs[i]? = some (o, x) → ∃ y, x = some y ∧ ∀ D, DnOK ops eff i D → D i = false → ∀ tm', (∀ z ∈ o.op.operands.toList, (⟨tm', obT D⟩ : St).ev C.E z = (⟨(stps s (xs.take i)).tm, obT D⟩ : St).ev C.E z) →
   (∀ t, lk tm' t = lk s.tm t ∨ ∃ j p z, j ≠ i ∧ ¬ Ahead ops i j ∧ xs[j]? = some (p, z) ∧ lk tm' t = z.getD .und) → SOp C ⟨tm', obT D⟩ o ((⟨tm', obT (fun j => D j || j == i)⟩ : St).put o.dst y))
  {Q : Exit → Act → World → Prop} (hq : ∀ a w, C.Rel ⟨(stps s xs).tm, obT (fun j => eff j && decide (j < ops.length))⟩ a w → Q .normal a w) :
  ∀ (fuel : Nat) (L : Array Bool) (a : Act) (w : World), unl ops.length L ≤ fuel → Dr2 C s xs ops obT eff L a w → wpAny C.E.P .any ops.toArray Q fuel L a w := by
 have hxo : ∀ (i : Nat) o, ops[i]? = some o → ∃ x, xs[i]? = some (o, x) := by
  intro i o hi
  rw [← hx, List.getElem?_map] at hi
  cases hxi : xs[i]? with
  | none => rw [hxi] at hi; cases hi
  | some p => rw [hxi] at hi; simp at hi; exact ⟨p.2, by rw [← hi]⟩
 have hox : ∀ (i : Nat) o x, xs[i]? = some (o, x) → ops[i]? = some o := by
  intro i o x hi
  rw [← hx, List.getElem?_map, hi]; rfl
 have hdst : ∀ (j : Nat) (p : Oper) d, ops.toArray[j]? = some p → p.dst = some d → d < C.N := by
  intro j p d hj hd
  rw [List.getElem?_toArray] at hj
  obtain ⟨x, hx'⟩ := hxo j p hj
  exact dstOK_lt (hdk j p x hx').1 d hd
 -- what a slot that the operation looks at holds
 have hlook : ∀ (i : Nat) (o : Oper) (x : Option X) (L : Array Bool) (tm : List (Nat × X)), xs[i]? = some (o, x) → L.getD i false = false → DownL ops L →
   (∀ e ∈ o.after, Region.binds .any e = true → L.getD e.on false = true) →
   (∀ t, (∀ (j : Nat) o, ops[j]? = some o → L.getD j false = true → o.dst ≠ some t) → lk tm t = lk s.tm t) →
   (∀ (j : Nat) o x t, xs[j]? = some (o, x) → L.getD j false = true → o.dst = some t → lk tm t = x.getD .und) →
   ∀ t ∈ o.looksAt ops.toArray, lk tm t = lk (stps s (xs.take i)).tm t := by
  intro i o x L tm hi hL hdown hready h1 h2 t ht
  by_cases hw : ∃ (j : Nat) (p : Oper), ops[j]? = some p ∧ p.dst = some t
  ·obtain ⟨j, p, hj, hp⟩ := hw
   obtain ⟨y, hy⟩ := hxo j p hj
   have huniq : ∀ (k : Nat) (q : Oper), k ≠ j → ops[k]? = some q → q.dst ≠ some t := fun k q hk hq => ho.uniq k j q p t hk hq hj hp
   by_cases hij : i = j
   ·subst hij
    have e : lk (stps s (xs.take i)).tm t = lk s.tm t := by
     refine lk_stps_other _ _ _ fun q hq => ?_
     obtain ⟨k, hk⟩ := List.getElem?_of_mem hq
     rw [List.getElem?_take] at hk
     split at hk
     ·exact huniq k q.1 (by omega) (hox k q.1 q.2 hk)
     ·cases hk
    rw [e]
    refine h1 t fun k q hk hkl => ?_
    by_cases hki : k = i
    ·subst hki; rw [hL] at hkl; cases hkl
    ·exact huniq k q hki hk
   ·obtain ⟨ha, hb⟩ := ho.looks i j o p t hij (hox i o x hi) hj hp ht
    by_cases hlt : j < i
    ·obtain ⟨e, he, hbd, hej⟩ := ha hlt
     have hjl : L.getD j false = true := by rw [← hej]; exact hready e he hbd
     have e1 : lk (stps s (xs.take i)).tm t = y.getD .und := by
      refine lk_stps_one _ _ t j p y (by rw [List.getElem?_take, if_pos hlt]; exact hy) hp fun k q hk hq => ?_
      rw [List.getElem?_take] at hq
      split at hq
      ·exact huniq k q.1 hk (hox k q.1 q.2 hq)
      ·cases hq
     rw [e1]
     exact h2 j p y t hy hjl hp
    ·obtain ⟨e, he, hbd, hei⟩ := hb hlt
     have hjl : L.getD j false = false := by
      cases hjl : L.getD j false with
      | false => rfl
      | true =>
       have := hdown j p e hj hjl he hbd
       rw [hei, hL] at this
       cases this
     have e1 : lk (stps s (xs.take i)).tm t = lk s.tm t := by
      refine lk_stps_other _ _ _ fun q hq => ?_
      obtain ⟨k, hk⟩ := List.getElem?_of_mem hq
      rw [List.getElem?_take] at hk
      split at hk
      ·exact huniq k q.1 (by omega) (hox k q.1 q.2 hk)
      ·cases hk
     rw [e1]
     refine h1 t fun k q hk hkl => ?_
     by_cases hkj : k = j
     ·subst hkj; rw [hjl] at hkl; cases hkl
     ·exact huniq k q hkj hk
  ·have hno : ∀ (k : Nat) (q : Oper), ops[k]? = some q → q.dst ≠ some t := fun k q hk hq => hw ⟨k, q, hk, hq⟩
   have e1 : lk (stps s (xs.take i)).tm t = lk s.tm t := by
    refine lk_stps_other _ _ _ fun q hq => ?_
    obtain ⟨k, hk⟩ := List.getElem?_of_mem hq
    rw [List.getElem?_take] at hk
    split at hk
    ·exact hno k q.1 (hox k q.1 q.2 hk)
    ·cases hk
   rw [e1]
   exact h1 t fun k q hk _ => hno k q hk
 -- the end
 have hfin : ∀ (L : Array Bool) (a : Act) (w : World), (∀ i, i < ops.length → L.getD i false = true) → Dr2 C s xs ops obT eff L a w → Q .normal a w := by
  intro L a w hall hO
  obtain ⟨tm, hr, h1, h2⟩ := hO.rel
  have hk : Dn eff L = fun j => eff j && decide (j < ops.length) := by
   funext j
   unfold Dn
   by_cases hj : j < ops.length
   ·rw [hall j hj, decide_eq_true hj]
   ·rw [decide_eq_false hj]
    have : L.getD j false = false := by
     rw [Array.getD_eq_getD_getElem?, Array.getElem?_eq_none (by rw [hO.size]; omega)]; rfl
    rw [this]
  rw [hk] at hr
  refine hq a w (StEq.rel (s := ⟨tm, obT _⟩) (s' := ⟨(stps s xs).tm, obT _⟩) ⟨fun t => ?_, rfl⟩ hr)
  show lk (stps s xs).tm t = lk tm t
  by_cases hw : ∃ (j : Nat) (p : Oper), ops[j]? = some p ∧ p.dst = some t
  ·obtain ⟨j, p, hj, hp⟩ := hw
   obtain ⟨y, hy⟩ := hxo j p hj
   rw [lk_stps_one s xs t j p y hy hp fun k q hk hq => ho.uniq k j q.1 p t hk (hox k q.1 q.2 hq) hj hp]
   exact (h2 j p y t hy (hall j (List.getElem?_eq_some_iff.1 hj).1) hp).symm
  ·have hno : ∀ (k : Nat) (q : Oper), ops[k]? = some q → q.dst ≠ some t := fun k q hk hq => hw ⟨k, q, hk, hq⟩
   rw [lk_stps_other s xs t fun q hq => by
    obtain ⟨k, hk⟩ := List.getElem?_of_mem hq
    exact hno k q.1 (hox k q.1 q.2 hk)]
   exact (h1 t fun k q hk _ => hno k q hk).symm
 -- whoever is ready
 have hready : ∀ (L : Array Bool) i, i ∈ Region.ready .any ops.toArray L → L.size = ops.length → ∃ o, ops[i]? = some o ∧ L.getD i false = false ∧ ∀ e ∈ o.after, Region.binds .any e = true → L.getD e.on false = true := by
  intro L i hi hs
  unfold Region.ready at hi
  rw [List.mem_filter, List.mem_range] at hi
  obtain ⟨hlt, h⟩ := hi
  rw [List.size_toArray] at hlt
  rw [Bool.and_eq_true] at h
  obtain ⟨h1, h2⟩ := h
  have ho' : ops[i]? = some ops[i] := List.getElem?_eq_getElem hlt
  refine ⟨ops[i], ho', ?_, ?_⟩
  ·rw [← getD_tf (by omega)]; simpa using h1
  ·intro e he hbd
   rw [List.getElem?_toArray, ho'] at h2
   simp only [Option.map_some, Option.getD_some] at h2
   obtain ⟨k, hk, rfl⟩ := Array.getElem_of_mem he
   have := Array.all_eq_true.1 h2 k hk
   rw [hbd] at this
   simpa using this
 have hsome : ∀ (L : Array Bool) (a : Act) (w : World), Dr2 C s xs ops obT eff L a w → Region.ready .any ops.toArray L = [] → ∀ i, i < ops.length → L.getD i false = true := by
  intro L a w hO hr i
  induction i using Nat.strongRecOn with
  | _ i ih =>
   intro hi
   cases hL : L.getD i false with
   | true => rfl
   | false =>
    have ho' : ops[i]? = some ops[i] := List.getElem?_eq_getElem hi
    have hm : i ∈ Region.ready .any ops.toArray L := by
     unfold Region.ready
     rw [List.mem_filter, List.mem_range, List.size_toArray]
     refine ⟨hi, ?_⟩
     rw [getD_tf (by rw [hO.size]; exact hi), hL, List.getElem?_toArray, ho']
     simp only [Bool.not_false, Bool.true_and, Option.map_some, Option.getD_some]
     refine Array.all_eq_true.2 fun k hk => ?_
     cases hbd : Region.binds .any (ops[i]).after[k] with
     | false => simp
     | true =>
      have hb := ho.back i _ _ ho' (Array.getElem_mem hk) hbd
      rw [ih _ hb (by omega)]
      simp
    rw [hr] at hm
    cases hm
 intro fuel
 induction fuel with
 | zero =>
  intro L a w hu hO
  have hall : ∀ i, i < ops.length → L.getD i false = true := fun i hi => by
   rw [← getD_tf (by rw [hO.size]; exact hi)]
   exact unl_zero (by omega) i hi
  refine ⟨?_, hfin L a w hall hO⟩
  refine List.eq_nil_iff_forall_not_mem.2 fun i hi => ?_
  obtain ⟨o, h1, h2, _⟩ := hready L i hi hO.size
  rw [hall i (List.getElem?_eq_some_iff.1 h1).1] at h2
  cases h2
 | succ fuel ih =>
  intro L a w hu hO
  refine ⟨fun hr => hfin L a w (hsome L a w hO hr) hO, fun i hi => ?_⟩
  obtain ⟨o, hoi, hL, hed⟩ := hready L i hi hO.size
  have hlt : i < ops.length := (List.getElem?_eq_some_iff.1 hoi).1
  obtain ⟨x, hxi⟩ := hxo i o hoi
  obtain ⟨hd, hg⟩ := hdk i o x hxi
  obtain ⟨tm, hr, h1, h2⟩ := hO.rel
  have hl := hlook i o x L tm hxi hL hO.down hed h1 h2
  have hset : ∀ j, (L.setIfInBounds i true).getD j false = (L.getD j false || j == i) := fun j => getD_set_true (by rw [hO.size]; exact hlt)
  have hu' : unl ops.length (L.setIfInBounds i true) ≤ fuel := by
   have := unl_set (L := L) hO.size hlt (by rw [getD_tf (by rw [hO.size]; exact hlt)]; exact hL)
   omega
  have hdown' : DownL ops (L.setIfInBounds i true) := by
   intro j p e hj hjl hee hbd
   rw [hset] at hjl ⊢
   rw [Bool.or_eq_true] at hjl ⊢
   rcases hjl with hjl | hjl
   ·exact .inl (hO.down j p e hj hjl hee hbd)
   ·obtain rfl : j = i := by simpa using hjl
    rw [hoi] at hj
    cases hj
    exact .inl (hed e hee hbd)
  have hwant : Region.wanted o (yielded ops.toArray a.tmps) = x.isSome := by
   obtain ⟨F, σ, _, _, _, _, _, r5, hs⟩ := hr
   refine hg.wanted (N := C.N) hdst r5 (w := w) (F := F) (σ := σ) fun j pol t hgj ht => ?_
   rw [← hl t (by
    unfold Oper.looksAt
    refine List.mem_append.2 (.inr ?_)
    rw [hgj]
    show t ∈ ((ops.toArray[j]?).bind (·.dst)).toList
    rw [ht]
    simp)]
   exact hs t
  have hops : ∀ (ob : List AObj) (z : Operand), z ∈ o.op.operands.toList → (⟨tm, ob⟩ : St).ev C.E z = (stps s (xs.take i)).ev C.E z := by
   intro ob z hz
   cases z with
   | tmp t =>
    refine hl t ?_
    unfold Oper.looksAt
    refine List.mem_append.2 (.inl ?_)
    rw [List.mem_filterMap]
    exact ⟨_, hz, rfl⟩
   | _ => rfl
  have hone : ∀ (y : Option X) (ob : List AObj) (t : Nat), o.dst ≠ some t → lk ((⟨tm, ob⟩ : St).put o.dst (y.getD .und)).tm t = lk tm t := by
   intro y ob t ht
   cases hdd : o.dst with
   | none => rfl
   | some d =>
    simp only [St.put, lk]
    cases hb : Nat.beq d t with
    | true => exact absurd (by rw [hdd, Nat.eq_of_beq_eq_true hb]) ht
    | false => rfl
  have hnew : ∀ (ob : List AObj), (∀ t, (∀ (j : Nat) o, ops[j]? = some o → (L.setIfInBounds i true).getD j false = true → o.dst ≠ some t) → lk ((⟨tm, ob⟩ : St).put o.dst (x.getD .und)).tm t = lk s.tm t) ∧
    (∀ (j : Nat) o' x' t, xs[j]? = some (o', x') → (L.setIfInBounds i true).getD j false = true → o'.dst = some t → lk ((⟨tm, ob⟩ : St).put o.dst (x.getD .und)).tm t = x'.getD .und) := by
   intro ob
   refine ⟨fun t ht => ?_, fun j p y t hj hjl hp => ?_⟩
   ·rw [hone x ob t (ht i o hoi (by rw [hset]; simp))]
    exact h1 t fun j q hj hjl => ht j q hj (by rw [hset, hjl]; rfl)
   ·rw [hset, Bool.or_eq_true] at hjl
    by_cases hji : j = i
    ·subst hji
     rw [hxi] at hj
     cases hj
     rw [hp]
     exact lk_put_same _ _ _
    ·have hjl' : L.getD j false = true := by
      rcases hjl with h | h
      ·exact h
      ·exact absurd (by simpa using h) hji
     rw [hone x ob t (ho.uniq i j o p t (fun e => hji e.symm) hoi (hox j p y hj) hp)]
     exact h2 j p y t hj hjl' hp
  have hputob : ∀ (ob : List AObj) (y : X), (⟨tm, ob⟩ : St).put o.dst y = ⟨((⟨tm, ob⟩ : St).put o.dst y).tm, ob⟩ := by
   intro ob y
   cases o.dst <;> rfl
  have hD : DnOK ops eff i (Dn eff L) := by
   refine ⟨fun j hj => ?_, fun j hj ha => ?_, fun j hj ha => ?_⟩
   ·unfold Dn at hj
    rw [Bool.and_eq_true] at hj
    exact hj.1
   ·unfold Dn
    rw [hj, ha.ready hO.down hoi hed]; rfl
   ·unfold Dn
    rw [hj]
    cases hjl : L.getD j false with
    | false => rfl
    | true => rw [ha.down hO.down hjl] at hL; cases hL
  have hDset : Dn eff (L.setIfInBounds i true) = bif eff i then (fun j => Dn eff L j || j == i) else Dn eff L := by
   cases he : eff i with
   | true =>
    funext j
    show (eff j && (L.setIfInBounds i true).getD j false) = ((eff j && L.getD j false) || j == i)
    rw [hset]
    cases hji : j == i with
    | false => rw [Bool.or_false, Bool.or_false]
    | true => obtain rfl := eq_of_beq hji; rw [he]; simp
   | false =>
    funext j
    show (eff j && (L.setIfInBounds i true).getD j false) = (eff j && L.getD j false)
    rw [hset]
    cases hji : j == i with
    | false => rw [Bool.or_false]
    | true => obtain rfl := eq_of_beq hji; rw [he]; rfl
  unfold wpOp
  rw [List.getElem?_toArray, hoi]
  simp only
  cases he : eff i with
  | true =>
   rw [he, cond_true] at hDset
   obtain ⟨y, hy, heop⟩ := hve i o x he hxi
   rw [hy] at hwant hnew
   rw [if_pos (by rw [hwant]; rfl)]
   have hDi : Dn eff L i = false := by unfold Dn; rw [hL, Bool.and_false]
   have hslots : ∀ t, lk tm t = lk s.tm t ∨ ∃ j p z, j ≠ i ∧ ¬ Ahead ops i j ∧ xs[j]? = some (p, z) ∧ lk tm t = z.getD .und := by
    intro t
    by_cases hw : ∃ (j : Nat) (p : Oper), ops[j]? = some p ∧ L.getD j false = true ∧ p.dst = some t
    ·obtain ⟨j, p, hj, hjl, hp⟩ := hw
     obtain ⟨z, hz⟩ := hxo j p hj
     exact .inr ⟨j, p, z, (fun e => by rw [e, hL] at hjl; cases hjl), (fun ha => by have := ha.down hO.down hjl; rw [hL] at this; cases this), hz, h2 j p z t hz hjl hp⟩
    ·exact .inl (h1 t fun j p hj hjl hp => hw ⟨j, p, hj, hjl, hp⟩)
   have hsop := heop _ hD hDi tm (fun z hz => (hops _ z hz).trans (by cases z <;> rfl)) hslots
   refine .inl (hsop w a _ Q hr fun a' w' hr' => ih _ _ _ hu' ⟨by simp [hO.size], hdown', ?_⟩)
   rw [hputob] at hr'
   rw [hDset]
   exact ⟨_, hr', (hnew _).1, (hnew _).2⟩
  | false =>
   rw [he, cond_false] at hDset
   have hnext : ∀ a' w', C.Rel ((⟨tm, obT (Dn eff L)⟩ : St).put o.dst (x.getD .und)) a' w' → wpAny C.E.P .any ops.toArray Q fuel (L.setIfInBounds i true) a' w' := by
    intro a' w' hr'
    refine ih _ _ _ hu' ⟨by simp [hO.size], hdown', ?_⟩
    rw [hputob] at hr'
    rw [hDset]
    exact ⟨_, hr', (hnew _).1, (hnew _).2⟩
   cases hx' : x with
   | none =>
    rw [hx'] at hwant hnext
    rw [if_neg (by rw [hwant]; simp)]
    refine hnext _ _ ?_
    obtain ⟨F, σ, r1, r2, r3, hi', r4, r5, hs⟩ := hr
    exact rel_put r1 r2 r3 hi' r4 r5 hs hd (Ext.refl hi'.flt) fun _ => rfl
   | some y =>
    rw [hx'] at hwant hnext
    rw [if_pos (by rw [hwant]; rfl)]
    have hvop' : VOp C ⟨tm, obT (Dn eff L)⟩ o y := by
     intro F σ w a K Q hi ho hK
     exact hv i o x he hxi y hx' _ hD F σ w a K Q hi (fun z hz => by
      have := ho z hz
      rw [hops _ z hz] at this
      exact this) hK
    refine .inl (hvop'.sop hd w a _ Q hr fun a' w' hr' => hnext a' w' hr')
def Cap.refs : Cap → List Nat
 | .d _ => []
 | .ptr o _ => [o]
 | .own o => [o]
def X.refs : X → List Nat
 | .ptr o _ => [o]
 | .own o => [o]
 | .mp o => [o]
 | .pel o _ _ _ => [o]
 | .sub o _ _ _ => [o]
 | .clo _ cs => cs.flatMap Cap.refs
 | .bnd _ cs => cs.flatMap Cap.refs
 | .st cs => cs.flatMap Cap.refs
 | _ => []
def AObj.refs : AObj → List Nat
 | .var _ c => c.cells.flatMap X.refs
 | _ => []
theorem capRd_agree {w : World} {F : Nat → Prop} {σ σ' : Sg} {c : Cap} {v : Value} (h : CapRd w F σ c v) (hσ : ∀ o ∈ c.refs, ∀ p, σ[o]? = some p → σ'[o]? = some p) : CapRd w F σ' c v := by
 cases c with
 | d x => exact h
 | ptr o off => obtain ⟨b, c, k, h1, h2⟩ := h; exact ⟨b, c, k, hσ o (by simp [Cap.refs]) _ h1, h2⟩
 | own o => obtain ⟨b, c, k, h1, h2⟩ := h; exact ⟨b, c, k, hσ o (by simp [Cap.refs]) _ h1, h2⟩
theorem RdX.agree {w : World} {F : Nat → Prop} {σ σ' : Sg} {x : X} {v : Value} (h : RdX w F σ x v) (hσ : ∀ o ∈ x.refs, ∀ p, σ[o]? = some p → σ'[o]? = some p) : RdX w F σ' x v := by
 cases x with
 | ptr o off => obtain ⟨b, c, n, h1, h2⟩ := h; exact ⟨b, c, n, hσ o (by simp [X.refs]) _ h1, h2⟩
 | own o => obtain ⟨b, c, n, h1, h2⟩ := h; exact ⟨b, c, n, hσ o (by simp [X.refs]) _ h1, h2⟩
 | pel o i off size => obtain ⟨b, c, n, h1, h2⟩ := h; exact ⟨b, c, n, hσ o (by simp [X.refs]) _ h1, h2⟩
 | sub o lo m size => obtain ⟨b, c, n, h1, h2⟩ := h; exact ⟨b, c, n, hσ o (by simp [X.refs]) _ h1, h2⟩
 | mp o => obtain ⟨b, c, n, h1, h2⟩ := h; exact ⟨b, c, n, hσ o (by simp [X.refs]) _ h1, h2⟩
 | clo f cs =>
  obtain ⟨us, e, hl, hr⟩ := h
  exact ⟨us, e, hl, fun i c u h1 h2 => capRd_agree (hr i c u h1 h2) fun o ho => hσ o (List.mem_flatMap.2 ⟨c, List.mem_of_getElem? h1, ho⟩)⟩
 | bnd f cs =>
  obtain ⟨us, e, hl, hr⟩ := h
  exact ⟨us, e, hl, fun i c u h1 h2 => capRd_agree (hr i c u h1 h2) fun o ho => hσ o (List.mem_flatMap.2 ⟨c, List.mem_of_getElem? h1, ho⟩)⟩
 | st cs =>
  obtain ⟨us, e, hl, h1', hr⟩ := h
  exact ⟨us, e, hl, h1', fun i c u h1 h2 => capRd_agree (hr i c u h1 h2) fun o ho => hσ o (List.mem_flatMap.2 ⟨c, List.mem_of_getElem? h1, ho⟩)⟩
 | _ => exact h
theorem ObOK.agree {w : World} {F : Nat → Prop} {σ σ' : Sg} {B : Nat → Prop} {x : AObj} {p : Nat × Nat × Nat} (h : ObOK w F σ B x p) (hσ : ∀ o ∈ x.refs, ∀ p, σ[o]? = some p → σ'[o]? = some p) : ObOK w F σ' B x p := by
 obtain ⟨b, c, k⟩ := p
 cases x with
 | var ty cs =>
  obtain ⟨vs, h1, h2, h3, h4, h5⟩ := h
  exact ⟨vs, h1, h2, h3, fun i x v a e => (h4 i x v a e).agree fun o ho => hσ o (List.mem_flatMap.2 ⟨x, List.mem_of_getElem? a, ho⟩), h5⟩
 | _ => exact h
theorem capRefs_below {n : Nat} {cs : List Cap} (h : (cs.all fun c => match c with | .ptr o _ => Nat.blt o n | .own o => Nat.blt o n | .d _ => true) = true) : ∀ o ∈ cs.flatMap Cap.refs, o < n := by
 intro o ho
 obtain ⟨c, hc, ho⟩ := List.mem_flatMap.1 ho
 have := List.all_eq_true.1 h c hc
 cases c with
 | d x => simp [Cap.refs] at ho
 | ptr q off => simp [Cap.refs] at ho; subst ho; simpa using this
 | own q => simp [Cap.refs] at ho; subst ho; simpa using this
theorem X.refs_below {n : Nat} {x : X} (h : x.below n = true) : ∀ o ∈ x.refs, o < n := by
 cases x with
 | ptr o off => intro q hq; simp [X.refs] at hq; subst hq; simpa [X.below] using h
 | own o => intro q hq; simp [X.refs] at hq; subst hq; simpa [X.below] using h
 | mp o => intro q hq; simp [X.refs] at hq; subst hq; simpa [X.below] using h
 | pel o i off size => intro q hq; simp [X.refs] at hq; subst hq; simpa [X.below] using h
 | sub o lo m size => intro q hq; simp [X.refs] at hq; subst hq; simpa [X.below] using h
 | clo f cs => exact capRefs_below h
 | bnd f cs => exact capRefs_below h
 | st cs => exact capRefs_below h
 | _ => intro q hq; simp [X.refs] at hq
theorem AObj.refs_below {n : Nat} {x : AObj} (h : x.below n = true) : ∀ o ∈ x.refs, o < n := by
 cases x with
 | var t c =>
  intro q hq
  obtain ⟨y, hy, hq⟩ := List.mem_flatMap.1 hq
  exact X.refs_below (List.all_eq_true.1 h y hy) q hq
 | _ => intro q hq; simp [AObj.refs] at hq
inductive NewX : (Nat → X) → Prop
 | own : NewX .own
 | ptr (off : Nat) : NewX (.ptr · off)
theorem NewX.rd {R : Nat → X} (h : NewX R) {w : World} {F : Nat → Prop} {σ σ' : Sg} {n j : Nat} {v : Value} (hv : RdX w F σ (R n) v) (hσ : ∀ p, σ[n]? = some p → σ'[j]? = some p) : RdX w F σ' (R j) v := by
 cases h with
 | own => obtain ⟨b, c, k, h1, h2⟩ := hv; exact ⟨b, c, k, hσ _ h1, h2⟩
 | ptr off => obtain ⟨b, c, k, h1, h2⟩ := hv; exact ⟨b, c, k, hσ _ h1, h2⟩
theorem rel_fill {C : Cx} {tm tm' : List (Nat × X)} {ob : List AObj} {j : Nat} {y : AObj} {R : Nat → X} {a : Act} {w : World} (hR : NewX R) (hj : ob[j]? = some .dead) (hjn : C.base.n0 ≤ j)
  (hob : ∀ x ∈ ob, ∀ o ∈ x.refs, o < ob.length ∧ o ≠ j) (hy : ∀ o ∈ y.refs, o < ob.length ∧ o ≠ j)
  (ht : ∀ t, (lk tm' t = lk tm t ∧ ∀ o ∈ (lk tm t).refs, o < ob.length ∧ o ≠ j) ∨ (lk tm t = R ob.length ∧ lk tm' t = R j))
  (h : C.Rel ⟨tm, ob ++ [y]⟩ a w) : C.Rel ⟨tm', ob.set j y⟩ a w := by
 obtain ⟨F, σ, h1, h2, h3, hi, h4, h5, hs⟩ := h
 have hlen : σ.length = ob.length + 1 := by have := hi.len; simpa using this
 have hjl : j < ob.length := (List.getElem?_eq_some_iff.1 hj).1
 obtain ⟨p, hp⟩ : ∃ p, σ[ob.length]? = some p := ⟨_, List.getElem?_eq_getElem (by omega)⟩
 have hag : ∀ o, o < ob.length → o ≠ j → ∀ q, σ[o]? = some q → ((σ.take ob.length).set j p)[o]? = some q := by
  intro o ho hne q hq
  rw [List.getElem?_set_ne (fun e => hne e.symm), List.getElem?_take, if_pos ho]
  exact hq
 have hgj : ((σ.take ob.length).set j p)[j]? = some p := by
  rw [List.getElem?_set_self (by rw [List.length_take]; omega)]
 have hyl : (ob ++ [y])[ob.length]? = some y := by simp
 have hold : ∀ o x, (ob.set j y)[o]? = some x → (o = j ∧ x = y) ∨ (o ≠ j ∧ ob[o]? = some x) := by
  intro o x hx
  by_cases e : o = j
  ·subst e
   rw [List.getElem?_set_self hjl] at hx
   exact .inl ⟨rfl, (Option.some.inj hx).symm⟩
  ·rw [List.getElem?_set_ne (fun e' => e e'.symm)] at hx
   exact .inr ⟨e, hx⟩
 have happ : ∀ {o x}, ob[o]? = some x → (ob ++ [y])[o]? = some x := fun {o x} hx => by
  rw [List.getElem?_append_left (List.getElem?_eq_some_iff.1 hx).1]; exact hx
 have hback : ∀ o q, o ≠ j → ((σ.take ob.length).set j p)[o]? = some q → σ[o]? = some q := by
  intro o q hne hq
  rw [List.getElem?_set_ne (fun e => hne e.symm), List.getElem?_take] at hq
  split at hq
  ·exact hq
  ·cases hq
 refine ⟨F, (σ.take ob.length).set j p, h1, h2, h3, ⟨hi.flt, hi.glob, by simp [List.length_take, hlen], fun o x q hx hq => ?_, fun o o' x x' q q' hne hx hl hx' hl' hq hq' => ?_, fun i q hin hq => ?_⟩, h4, h5, fun t => ?_⟩
 ·rcases hold o x hx with ⟨rfl, rfl⟩ | ⟨hne, hx1⟩
  ·rw [hgj] at hq
   cases hq
   exact (hi.obs _ _ _ hyl hp).agree fun o ho q hq => hag o (hy o ho).1 (hy o ho).2 q hq
  ·exact (hi.obs o x q (happ hx1) (hback o q hne hq)).agree fun r hr q hq => hag r (hob x (List.mem_of_getElem? hx1) r hr).1 (hob x (List.mem_of_getElem? hx1) r hr).2 q hq
 ·rcases hold o x hx with ⟨rfl, rfl⟩ | ⟨hn1, hx1⟩
  ·rcases hold o' x' hx' with ⟨rfl, rfl⟩ | ⟨hn2, hx2⟩
   ·exact absurd rfl hne
   ·rw [hgj] at hq
    cases hq
    have := (List.getElem?_eq_some_iff.1 hx2).1
    exact hi.inj ob.length o' _ _ _ _ (by omega) hyl hl (happ hx2) hl' hp (hback o' q' hn2 hq')
  ·rcases hold o' x' hx' with ⟨rfl, rfl⟩ | ⟨hn2, hx2⟩
   ·rw [hgj] at hq'
    cases hq'
    have := (List.getElem?_eq_some_iff.1 hx1).1
    exact hi.inj o ob.length _ _ _ _ (by omega) (happ hx1) hl hyl hl' (hback o q hn1 hq) hp
   ·exact hi.inj o o' _ _ _ _ hne (happ hx1) hl (happ hx2) hl' (hback o q hn1 hq) (hback o' q' hn2 hq')
 ·refine hag i (by omega) (by omega) q ?_
  exact hi.pre i q hin hq
 ·rcases ht t with ⟨e1, e2⟩ | ⟨e1, e2⟩
  ·show RdX w F _ (lk tm' t) _
   rw [e1]
   exact (hs t).agree fun o ho q hq => hag o (e2 o ho).1 (e2 o ho).2 q hq
  ·show RdX w F _ (lk tm' t) _
   have := hs t
   rw [show lk (⟨tm, ob ++ [y]⟩ : St).tm t = R ob.length from e1] at this
   rw [e2]
   exact hR.rd this fun q hq => by rw [hp] at hq; cases hq; exact hgj
def NOp (C : Cx) (tm : List (Nat × X)) (ob : List AObj) (o : Oper) (d : Nat) (R : Nat → X) (y : AObj) : Prop :=
 o.dst = some d ∧ ∀ tm' ob', Wk ob ob' → (∀ z ∈ o.op.operands.toList, (⟨tm', ob'⟩ : St).ev C.E z = (⟨tm, ob⟩ : St).ev C.E z) → SOp C ⟨tm', ob'⟩ o ⟨(d, R ob'.length) :: tm', ob' ++ [y]⟩
def putT (tm : List (Nat × X)) (o : Oper) (x : X) : List (Nat × X) := match o.dst with | some d => (d, x) :: tm | none => tm
inductive RM (C : Cx) (l : List Oper) (E : List Nat) (ob : List AObj) : Nat → Nat → List Oper → List (Nat × X) → List AObj → List (Nat × X) → Prop
 | nil (i k : Nat) (tm : List (Nat × X)) : RM C l E ob i k [] tm [] tm
 | skip {i k : Nat} {o : Oper} {rest : List Oper} {tm tm' : List (Nat × X)} {ys : List AObj} (hg : GuardIs l.toArray ⟨tm, ob⟩ o false) (hd : dstOK C o = true) (hne : E.contains i = false) (h : RM C l E ob (i + 1) k rest (putT tm o .und) ys tm') : RM C l E ob i k (o :: rest) tm ys tm'
 | val {i k : Nat} {o : Oper} {rest : List Oper} {tm tm' : List (Nat × X)} {ys : List AObj} {x : X} (hg : GuardIs l.toArray ⟨tm, ob⟩ o true) (hd : dstOK C o = true) (hne : E.contains i = false) (hv : ∀ ob', Wk ob ob' → VOp C ⟨tm, ob'⟩ o x)
   (hr : ∀ r ∈ x.refs, r < ob.length ∨ ∃ e, E[r - ob.length]? = some e ∧ Ahead l e i) (h : RM C l E ob (i + 1) k rest (putT tm o x) ys tm') : RM C l E ob i k (o :: rest) tm ys tm'
 | eff {i k d : Nat} {o : Oper} {rest : List Oper} {tm tm' : List (Nat × X)} {ys : List AObj} {R : Nat → X} {y : AObj} (hg : GuardIs l.toArray ⟨tm, ob⟩ o true) (hd : dstOK C o = true) (he : E[k]? = some i) (hR : NewX R) (hv : NOp C tm ob o d R y) (hy : ∀ r ∈ y.refs, r < ob.length)
   (h : RM C l E ob (i + 1) (k + 1) rest ((d, R (ob.length + k)) :: tm) ys tm') : RM C l E ob i k (o :: rest) tm (y :: ys) tm'
theorem put_putT (tm : List (Nat × X)) (ob : List AObj) (o : Oper) (x : X) : (⟨tm, ob⟩ : St).put o.dst x = ⟨putT tm o x, ob⟩ := by
 unfold putT
 cases o.dst <;> rfl
theorem RM.data {C : Cx} {l : List Oper} {E : List Nat} {ob : List AObj} {i k : Nat} {ops : List Oper} {tm tm' : List (Nat × X)} {ys : List AObj} (h : RM C l E ob i k ops tm ys tm') :
    ∃ xs : List (Oper × Option X), xs.map (·.1) = ops ∧ stps ⟨tm, ob⟩ xs = ⟨tm', ob⟩ ∧ (∀ (q : Nat) y, ys[q]? = some y → ∃ j, j < ops.length ∧ E[k + q]? = some (i + j)) ∧
      ∀ (j : Nat) o x, xs[j]? = some (o, x) → dstOK C o = true ∧ GuardIs l.toArray (stps ⟨tm, ob⟩ (xs.take j)) o x.isSome ∧
        ((E.contains (i + j) = false ∧ ∀ y, x = some y → (∀ ob', Wk ob ob' → VOp C ⟨(stps ⟨tm, ob⟩ (xs.take j)).tm, ob'⟩ o y) ∧ ∀ r ∈ y.refs, r < ob.length ∨ ∃ e, E[r - ob.length]? = some e ∧ Ahead l e (i + j)) ∨
         ∃ q d R y, E[k + q]? = some (i + j) ∧ ys[q]? = some y ∧ x = some (R (ob.length + (k + q))) ∧ NewX R ∧ NOp C (stps ⟨tm, ob⟩ (xs.take j)).tm ob o d R y ∧ ∀ r ∈ y.refs, r < ob.length) := by
  induction h with
  | nil i k tm => exact ⟨[], rfl, rfl, fun q y h => by simp at h, fun j o x h => by simp at h⟩
  | @skip i k o rest tm tm' ys hg hd hne hh ih =>
    obtain ⟨xs, h1, h2, h3, h4⟩ := ih
    have hs : ∀ zs, stps ⟨tm, ob⟩ ((o, none) :: zs) = stps ⟨putT tm o .und, ob⟩ zs := fun zs => by
      show stps ((⟨tm, ob⟩ : St).put o.dst .und) zs = _
      rw [put_putT]
    refine ⟨(o, none) :: xs, by simp [h1], (hs xs).trans h2, fun q y hq => ?_, fun j o' x' hj => ?_⟩
    · obtain ⟨j, j1, j2⟩ := h3 q y hq
      exact ⟨j + 1, by simpa using j1, by rw [j2, show i + 1 + j = i + (j + 1) by omega]⟩
    · cases j with
      | zero =>
        simp at hj
        obtain ⟨rfl, rfl⟩ := hj
        exact ⟨hd, hg, .inl ⟨hne, fun y hy => by cases hy⟩⟩
      | succ j =>
        have := h4 j o' x' (by simpa using hj)
        rw [show i + 1 + j = i + (j + 1) by omega, ← hs] at this
        exact this
  | @val i k o rest tm tm' ys x hg hd hne hv hr hh ih =>
    obtain ⟨xs, h1, h2, h3, h4⟩ := ih
    have hs : ∀ zs, stps ⟨tm, ob⟩ ((o, some x) :: zs) = stps ⟨putT tm o x, ob⟩ zs := fun zs => by
      show stps ((⟨tm, ob⟩ : St).put o.dst x) zs = _
      rw [put_putT]
    refine ⟨(o, some x) :: xs, by simp [h1], (hs xs).trans h2, fun q y hq => ?_, fun j o' x' hj => ?_⟩
    · obtain ⟨j, j1, j2⟩ := h3 q y hq
      exact ⟨j + 1, by simpa using j1, by rw [j2, show i + 1 + j = i + (j + 1) by omega]⟩
    · cases j with
      | zero =>
        simp at hj
        obtain ⟨rfl, rfl⟩ := hj
        exact ⟨hd, hg, .inl ⟨hne, fun y hy => by cases hy; exact ⟨hv, hr⟩⟩⟩
      | succ j =>
        have := h4 j o' x' (by simpa using hj)
        rw [show i + 1 + j = i + (j + 1) by omega, ← hs] at this
        exact this
  | @eff i k d o rest tm tm' ys R y hg hd he hR hv hy hh ih =>
    obtain ⟨xs, h1, h2, h3, h4⟩ := ih
    have hs : ∀ zs, stps ⟨tm, ob⟩ ((o, some (R (ob.length + k))) :: zs) = stps ⟨(d, R (ob.length + k)) :: tm, ob⟩ zs := fun zs => by
      show stps ((⟨tm, ob⟩ : St).put o.dst (R (ob.length + k))) zs = _
      rw [hv.1]; rfl
    refine ⟨(o, some (R (ob.length + k))) :: xs, by simp [h1], (hs xs).trans h2, fun q z hq => ?_, fun j o' x' hj => ?_⟩
    · cases q with
      | zero => exact ⟨0, by simp, by simpa using he⟩
      | succ q =>
        obtain ⟨j, j1, j2⟩ := h3 q z (by simpa using hq)
        exact ⟨j + 1, by simpa using j1, by rw [show k + (q + 1) = k + 1 + q by omega, j2, show i + 1 + j = i + (j + 1) by omega]⟩
    · cases j with
      | zero =>
        simp at hj
        obtain ⟨rfl, rfl⟩ := hj
        exact ⟨hd, hg, .inr ⟨0, d, R, y, by simpa using he, rfl, rfl, hR, hv, hy⟩⟩
      | succ j =>
        obtain ⟨a1, a2, a3⟩ := h4 j o' x' (by simpa using hj)
        rw [show i + 1 + j = i + (j + 1) by omega, ← hs] at a3
        rw [← hs] at a2
        refine ⟨a1, a2, ?_⟩
        rcases a3 with a3 | ⟨q, d', R', y', b1, b2, b3, b4, b5, b6⟩
        · exact .inl a3
        · refine .inr ⟨q + 1, d', R', y', by rw [show k + (q + 1) = k + 1 + q by omega]; exact b1, by simpa using b2, by rw [b3, show k + 1 + q = k + (q + 1) by omega], b4, b5, b6⟩
theorem NewX.refs {R : Nat → X} (h : NewX R) (n : Nat) : (R n).refs = [n] := by cases h <;> rfl
def RMgo (C : Cx) (_id : Nat) (l : List Oper) (E : List Nat) (ob : List AObj) (i k : Nat) (ops : List Oper) (tm : List (Nat × X)) (K : List (Nat × X) → List AObj → Prop) : Prop := ∃ ys tm', RM C l E ob i k ops tm ys tm' ∧ K tm' ys
section
variable {C : Cx} {r : List It} {Q : Exit → St → Prop} {tm : List (Nat × X)} {ob : List AObj} {id : Nat} {l : List Oper} {E : List Nat} {i k d : Nat} {o : Oper} {rest : List Oper} {K : List (Nat × X) → List AObj → Prop} {p : Prop} {x : X}
end
end Go.Abs
namespace Go.Abs
open Go Go.RowKit
def mvG (k n o : Nat) : Nat := bif Nat.beq o k then n else o
def mvT (k n : Nat) : List (Nat × X) → List (Nat × X)
 | [] => []
 | p :: r => (p.1, bkX (mvG k n) p.2) :: mvT k n r
def mvB (g : Nat → Nat) : List AObj → List AObj
 | [] => []
 | x :: r => bkO g x :: mvB g r
theorem mvB_map (g : Nat → Nat) : ∀ l : List AObj, mvB g l = l.map (bkO g)
 | [] => rfl
 | x :: r => by rw [mvB, mvB_map g r]; rfl
theorem lk_mv (k n : Nat) (t : Nat) : ∀ tm : List (Nat × X), lk (mvT k n tm) t = bkX (mvG k n) (lk tm t)
 | [] => rfl
 | (a, x) :: r => by
  simp only [mvT, lk]
  cases Nat.beq a t with
  | true => rfl
  | false => exact lk_mv k n t r
theorem Le.move {C : Cx} {tm : List (Nat × X)} {ob : List AObj} (k : Nat) {x : AObj} (hx : ob[k]? = some x) :
  Le C ⟨tm, ob⟩ ⟨mvT k ob.length tm, (mvB (mvG k ob.length) ob).set k .dead ++ [bkO (mvG k ob.length) x]⟩ := by
 rintro a w ⟨F, σ, h1, h2, h3, hi, h4, h5, hs⟩
 have hlen : σ.length = ob.length := hi.len
 have hk : k < ob.length := (List.getElem?_eq_some_iff.1 hx).1
 obtain ⟨p, hp⟩ : ∃ p, σ[k]? = some p := ⟨_, List.getElem?_eq_getElem (by rw [hlen]; exact hk)⟩
 have hg : ∀ (i : Nat) q, σ[i]? = some q → (σ ++ [p])[mvG k ob.length i]? = some q := fun i q hq => by
  have hil : i < σ.length := (List.getElem?_eq_some_iff.1 hq).1
  unfold mvG
  cases e : Nat.beq i k with
  | true =>
   have : i = k := Nat.eq_of_beq_eq_true e
   subst this
   rw [cond_true, ← hlen, List.getElem?_append_right (Nat.le_refl _), Nat.sub_self]
   rw [hp] at hq
   cases hq
   rfl
  | false =>
   rw [cond_false, List.getElem?_append_left hil]
   exact hq
 have hget : ∀ (o : Nat) (y : AObj) q, ((mvB (mvG k ob.length) ob).set k .dead ++ [bkO (mvG k ob.length) x])[o]? = some y → (σ ++ [p])[o]? = some q → y.live = true →
   ∃ o1 z, ob[o1]? = some z ∧ σ[o1]? = some q ∧ y = bkO (mvG k ob.length) z ∧ ((o = ob.length ∧ o1 = k) ∨ (o1 = o ∧ o ≠ k)) := by
  intro o y q hy hq hl
  rw [mvB_map] at hy
  rcases Nat.lt_or_ge o ob.length with h | h
  ·rw [List.getElem?_append_left (by simpa using h), List.getElem?_set] at hy
   rw [List.getElem?_append_left (by rw [hlen]; exact h)] at hq
   split at hy
   ·split at hy
    ·cases hy; cases hl
    ·cases hy
   ·rename_i hne
    rw [List.getElem?_map, Option.map_eq_some_iff] at hy
    obtain ⟨z, hz, rfl⟩ := hy
    exact ⟨o, z, hz, hq, rfl, .inr ⟨rfl, fun e => hne e.symm⟩⟩
  ·have ho : o = ob.length := by
    have := (List.getElem?_eq_some_iff.1 hy).1
    simp at this
    omega
   subst ho
   rw [List.getElem?_append_right (by simp)] at hy
   rw [List.getElem?_append_right (by omega), hlen, Nat.sub_self] at hq
   simp at hy
   cases hy
   cases hq
   exact ⟨k, x, hx, hp, rfl, .inl ⟨rfl, rfl⟩⟩
 refine ⟨F, σ ++ [p], h1, h2, h3, ⟨hi.flt, hi.glob, by rw [mvB_map]; simp [hlen], fun o y q hy hq => ?_, fun o o' y y' q q' hne hy hl hy' hl' hq hq' => ?_, fun i p hp hq => σ_app _ _ (hi.pre i p hp hq)⟩, h4, h5, fun t => ?_⟩
 ·cases hl : y.live with
  | false =>
   cases y with
   | dead => trivial
   | _ => simp [AObj.live] at hl
  | true =>
   obtain ⟨o1, z, g1, g2, rfl, -⟩ := hget o y q hy hq hl
   exact bkO_ok hg (hi.obs o1 z q g1 g2)
 ·obtain ⟨o1, z, g1, g2, rfl, g3⟩ := hget o y q hy hq hl
  obtain ⟨o2, z', g1', g2', rfl, g3'⟩ := hget o' y' q' hy' hq' hl'
  rw [bkO_live] at hl hl'
  exact hi.inj o1 o2 z z' q q' (by rcases g3 with ⟨e1, e2⟩ | ⟨e1, e2⟩ <;> rcases g3' with ⟨e3, e4⟩ | ⟨e3, e4⟩ <;> omega) g1 hl g1' hl' g2 g2'
 ·rw [show (⟨mvT k ob.length tm, (mvB (mvG k ob.length) ob).set k .dead ++ [bkO (mvG k ob.length) x]⟩ : St).tm = mvT k ob.length tm from rfl, lk_mv]
  exact bkX_rd hg (hs t)
section
variable {C : Cx} {r : List It} {Q : Exit → St → Prop} {tm : List (Nat × X)} {ob : List AObj} {c : Code}
theorem kont_goto {l : Nat} {s : St} : ∀ {r : List It}, kont C r Q (.goto l) s → Q (.goto l) s
 | [], h => h
 | .code _ :: r, h => kont_goto (r := r) h
 | .blk _ :: r, h => kont_goto (r := r) h
 | .stop _ :: r, h => kont_goto (r := r) h
theorem qScope {s : St} (hQ : ∀ l s, ¬ Q (.goto l) s) (h : go C (.code c :: r) s Q) : go C (.code (.scope c) :: r) s Q := by
 intro a w hr
 refine wp_scope_straight (wp_mono (h a w hr) ?_)
 intro e a' w' ⟨s', hs, hq⟩
 cases e with
 | goto l => exact (hQ l s' (kont_goto hq)).elim
 | normal => exact ⟨s', hs, hq⟩
 | exit i => exact ⟨s', hs, hq⟩
 | ret => exact ⟨s', hs, hq⟩
 | panic ch => exact ⟨s', hs, hq⟩
 | outgrown => exact ⟨s', hs, hq⟩
theorem qLabel {l : Nat} {s : St} (h : go C r s Q) : go C (.code (.label l) :: r) s Q := fun _ _ hr => wp_label ⟨s, hr, h⟩
end
end Go.Abs
namespace Go.Abs
open Go Go.RowKit
section
variable {C : Cx} {s : St} {o : Oper}
theorem s_storeSt {t ty : TypeId} {y z : Operand} {i : Nat} {c : VC} {e : TE} {cs : List Cap} (ho : o.op = .store t y z) (hdst : o.dst = none) (hy : s.ev C.E y = .ptr i 0) (hz : s.ev C.E z = .st cs) (hob : s.ob[i]? = some (.var ty c))
  (he : findT C.E.T t = some e) (hsz : Nat.beq cs.length e.size = true) (hle : Nat.beq c.cells.length cs.length = true) : SOp C s o (s.setOb i (.var ty (.cs (cs.map Cap.x)))) := by
 obtain ⟨hok, rfl⟩ := findT_ok he
 have hsz' := Nat.eq_of_beq_eq_true hsz
 have hle' := Nat.eq_of_beq_eq_true hle
 rintro w a K Q ⟨F, σ, h1, h2, h3, hi, h4, h5, hs⟩ hK
 have hv := ev_rd (E := C.E) hi hs z
 rw [hz] at hv
 have hp := ev_rd (E := C.E) hi hs y
 rw [hy] at hp
 obtain ⟨b, cc, n, p1, p2⟩ := hp
 obtain ⟨vs, q1, q2, q3, q4, q5, q6⟩ := hi.obs i _ _ hob p1
 obtain ⟨c1, c3, c2⟩ := capsOf_ok (x := .st cs) rfl hv
 have hcl : (a.eval z).cells.toList.length = cs.length := by simpa using c1
 have hrow := run_storeCells_at C.E.P b 0 ty (a.eval z).cells.toList 0 vs.toArray w q1 (by simp; omega) c2
 have hall : vs.take 0 ++ (a.eval z).cells.toList ++ vs.drop (0 + (a.eval z).cells.toList.length) = (a.eval z).cells.toList := by
  rw [List.take_zero, List.nil_append, List.drop_eq_nil_of_le (by omega), List.append_nil]
 have hrun : (execOp a.eval o).run C.E.P w = .ok .skip (w.setRow b (a.eval z).cells.toList.toArray) := by
  simp only [execOp, ho, Instr.storeAt, p2, Instr.sureAddr, storeVar, Sem.run_bind, Sem.run_pure, Result.andThen_ok, sizeOf_run hok]
  rw [if_neg (by rw [c1, hsz']; simp)]
  simp only [Nat.add_zero] at hrow
  rw [hrow, hall]
  rfl
 unfold Oper.wp
 rw [hrun]
 simp only [Oper.upon]
 rw [hdst]
 refine hK _ _ ⟨F, σ, ?_, h2, h3, ?_, h4, h5, fun t => ?_⟩
 ·exact h1.setRow q5 _
 ·refine hi.turn hob rfl p1 q6 ?_
  have keep : ∀ k, F k → (w.setRow b (a.eval z).cells.toList.toArray).heap[k]? = w.heap[k]? := fun k hk => setRow_other w b _ k (fun e => q6 (e ▸ hk))
  refine ⟨_, setRow_heap w b vs.toArray _ ty _ q1, ?_, fun v hv => ?_, fun j xj v hj hvj => ?_, q5, q6⟩
  ·simp only [VC.cells, List.length_map]
   omega
  ·exact c2 v (by simpa using hv)
  ·refine RdX.mono ?_ (fun _ h => h) keep (fun _ _ h => h)
   simp only [VC.cells, List.getElem?_map, Option.map_eq_some_iff] at hj
   obtain ⟨c', hc', rfl⟩ := hj
   exact Cap.x_rd (c3 j c' v hc' (by simpa using hvj))
 ·exact (hs t).mono (fun _ h => h) (fun k hk => setRow_other w b _ k (fun e => q6 (e ▸ hk))) (fun _ _ h => h)
theorem v_buildPN {t : TypeId} {parts : List (Nat × Operand)} {e : TE} {fs : Array Field} {zs : List D} {cs : List Cap} (ho : o.op = .build t parts.toArray) (he : findT C.E.T t = some e) (hd : e.desc = .struct fs)
  (hb : allPlaces C.E fs.toList = true) (hzs : zeroNs e.zero.cells.toList = some zs) (hcs : fillP C.E fs s parts (zs.map Cap.d) = some cs) : VOp C s o (.st cs) := by
 refine VOp.pure_ fun F σ w a hi hr => ?_
 obtain ⟨hok, rfl⟩ := findT_ok he
 have hu := hok.1
 rw [hd] at hu
 obtain ⟨ps, m1, m2⟩ := mapM_places (E := C.E) (w := w) fs.toList hb
 have hz0 := zeroNs_ok (w := w) (F := F) hzs
 have hz1 : CellsP w F σ e.zero.cells.toList (zs.map Cap.d) := by
  refine ⟨by simpa using hz0.len, hz0.one, fun i c v hc hv => ?_⟩
  rw [List.getElem?_map, Option.map_eq_some_iff] at hc
  obtain ⟨d, hd, rfl⟩ := hc
  obtain ⟨d', e1, e2⟩ := hz0.rd i v hv
  rw [hd] at e1
  cases e1
  exact e2
 obtain ⟨vs', f1, f2⟩ := fillP_ok (s := s) (a := a) (σ := σ) (places := ps.toArray) (fun i off size hp => by simpa using m2 i off size (by simpa using hp)) parts e.zero.cells (zs.map Cap.d) cs
  (fun q hq => hr q.2 (by simp [ho, Op.operands]; exact ⟨q.1, by simpa using hq⟩)) hz1 hcs
 refine ⟨.agg vs', ?_, ?_⟩
 ·have m1' : (fs.mapM fun f => (do pure (f.offset, ← sizeOf f.type) : Sem (Nat × Nat))).run C.E.P w = .ok ps.toArray w := by
   rw [← Array.toArray_toList (xs := fs), List.mapM_toArray]
   simp only [map_eq_pure_bind, Sem.run_bind, m1, Result.andThen_ok, Sem.run_pure]
  have hparts : (parts.toArray.map fun (i, x) => (i, a.eval x)).toList = parts.map fun q => (q.1, a.eval q.2) := by simp
  simp only [execOp, ho, Instr.build, Sem.run_bind, zero_run hok, Result.andThen_ok, run_underlying hu, m1', hparts, f1, Sem.run_pure]
 ·exact ⟨vs'.toList, by simp, f2.len, f2.one, f2.rd⟩
end
section
variable {C : Cx} {K : St → Prop} {all : Array Oper} {rest : List Oper} {tm : List (Nat × X)} {ob : List AObj} {o : Oper} {d : Nat} {pu : Bool}
theorem go_buildPN {t : TypeId} {parts : List (Nat × Operand)} {e : TE} {fs : Array Field} {zs : List D} {cs : List Cap} (ho : o.op = .build t parts.toArray) (hg : guardX all tm o = some true) (hdst : o.dst = some d) (hd : Nat.blt d C.N = true) (he : findT C.E.T t = some e) (hds : e.desc = .struct fs)
  (hb : allPlaces C.E fs.toList = true) (hzs : zeroNs e.zero.cells.toList = some zs) (hcs : fillP C.E fs ⟨tm, ob⟩ parts (zs.map Cap.d) = some cs) (h : SGo C all pu rest ⟨(d, .st cs) :: tm, ob⟩ K) : SGo C all pu (o :: rest) ⟨tm, ob⟩ K :=
 go_vopG hg hdst hd (v_buildPN ho he hds hb hzs hcs) h
theorem go_storeSt {t ty : TypeId} {y z : Operand} {i : Nat} {c : VC} {e : TE} {cs : List Cap} {l : List X} (hg : o.guard = none) (hdst : o.dst = none) (ho : o.op = .store t y z) (hy : (⟨tm, ob⟩ : St).ev C.E y = .ptr i 0) (hz : (⟨tm, ob⟩ : St).ev C.E z = .st cs)
  (hob : ob[i]? = some (.var ty c)) (he : findT C.E.T t = some e) (hsz : Nat.beq cs.length e.size = true) (hle : Nat.beq c.cells.length cs.length = true) (hl : cs.map Cap.x = l)
  (h : SGo C all false rest ⟨tm, ob.set i (.var ty (.cs l))⟩ K) : SGo C all false (o :: rest) ⟨tm, ob⟩ K := by
 subst hl
 exact SGo.eff (by simp [GuardIs, hg]) (s_storeSt ho hdst hy hz hob he hsz hle) h
end
end Go.Abs
namespace Go.Abs
open Go Go.RowKit
def SlotsOK (n j : Nat) (tm : List (Nat × X)) : Prop := ∀ t, ∀ o ∈ (lk tm t).refs, o < n ∧ o ≠ j
def TOp (C : Cx) (l : List Oper) (E : List Nat) (obT : (Nat → Bool) → List AObj) (i j n : Nat) (tm : List (Nat × X)) (o : Oper) (y : X) : Prop :=
 ∀ D, DnOK l (fun e => E.contains e) i D → D i = false → ∀ tm', (∀ z ∈ o.op.operands.toList, (⟨tm', obT D⟩ : St).ev C.E z = (⟨tm, obT D⟩ : St).ev C.E z) → SlotsOK n j tm' → SOp C ⟨tm', obT D⟩ o ((⟨tm', obT (fun e => D e || e == i)⟩ : St).put o.dst y)
def RefOK (l : List Oper) (E : List Nat) (b m i : Nat) (x : X) : Prop := ∀ r ∈ x.refs, r < b ∨ (r < b + m ∧ ∃ e, E[r - b]? = some e ∧ (e = i ∨ Ahead l e i))
inductive RT (C : Cx) (l : List Oper) (E : List Nat) (ob : List AObj) (m : Nat) (obT : (Nat → Bool) → List AObj) : Nat → List Oper → List (Nat × X) → List (Nat × X) → Prop
 | nil (i : Nat) (tm : List (Nat × X)) : RT C l E ob m obT i [] tm tm
 | skip {i : Nat} {o : Oper} {rest : List Oper} {tm tm' : List (Nat × X)} (hg : GuardIs l.toArray ⟨tm, ob⟩ o false) (hd : dstOK C o = true) (hne : E.contains i = false) (h : RT C l E ob m obT (i + 1) rest (putT tm o .und) tm') : RT C l E ob m obT i (o :: rest) tm tm'
 | val {i : Nat} {o : Oper} {rest : List Oper} {tm tm' : List (Nat × X)} {x : X} (hg : GuardIs l.toArray ⟨tm, ob⟩ o true) (hd : dstOK C o = true) (hne : E.contains i = false) (hv : ∀ D, DnOK l (fun e => E.contains e) i D → VOp C ⟨tm, obT D⟩ o x)
   (hr : RefOK l E ob.length m i x) (h : RT C l E ob m obT (i + 1) rest (putT tm o x) tm') : RT C l E ob m obT i (o :: rest) tm tm'
 | eff {i q : Nat} {o : Oper} {rest : List Oper} {tm tm' : List (Nat × X)} {x : X} (hg : GuardIs l.toArray ⟨tm, ob⟩ o true) (hd : dstOK C o = true) (he : E[q]? = some i) (hv : TOp C l E obT i (ob.length + q) (ob.length + m) tm o x)
   (hr : RefOK l E ob.length m i x) (h : RT C l E ob m obT (i + 1) rest (putT tm o x) tm') : RT C l E ob m obT i (o :: rest) tm tm'
theorem RT.data {C : Cx} {l : List Oper} {E : List Nat} {ob : List AObj} {m : Nat} {obT : (Nat → Bool) → List AObj} {i : Nat} {ops : List Oper} {tm tm' : List (Nat × X)} (h : RT C l E ob m obT i ops tm tm') :
    ∃ xs : List (Oper × Option X), xs.map (·.1) = ops ∧ stps ⟨tm, ob⟩ xs = ⟨tm', ob⟩ ∧
      ∀ (j : Nat) o x, xs[j]? = some (o, x) → dstOK C o = true ∧ GuardIs l.toArray (stps ⟨tm, ob⟩ (xs.take j)) o x.isSome ∧ (∀ y, x = some y → RefOK l E ob.length m (i + j) y) ∧
        ((E.contains (i + j) = false ∧ ∀ y, x = some y → ∀ D, DnOK l (fun e => E.contains e) (i + j) D → VOp C ⟨(stps ⟨tm, ob⟩ (xs.take j)).tm, obT D⟩ o y) ∨
         ∃ q y, E[q]? = some (i + j) ∧ x = some y ∧ TOp C l E obT (i + j) (ob.length + q) (ob.length + m) (stps ⟨tm, ob⟩ (xs.take j)).tm o y) := by
  have one : ∀ {i : Nat} {o : Oper} {rest : List Oper} {tm tm' : List (Nat × X)} (x : Option X),
      (∃ xs : List (Oper × Option X), xs.map (·.1) = rest ∧ stps ⟨putT tm o (x.getD .und), ob⟩ xs = ⟨tm', ob⟩ ∧
        ∀ (j : Nat) o' x', xs[j]? = some (o', x') → dstOK C o' = true ∧ GuardIs l.toArray (stps ⟨putT tm o (x.getD .und), ob⟩ (xs.take j)) o' x'.isSome ∧ (∀ y, x' = some y → RefOK l E ob.length m (i + 1 + j) y) ∧
          ((E.contains (i + 1 + j) = false ∧ ∀ y, x' = some y → ∀ D, DnOK l (fun e => E.contains e) (i + 1 + j) D → VOp C ⟨(stps ⟨putT tm o (x.getD .und), ob⟩ (xs.take j)).tm, obT D⟩ o' y) ∨
           ∃ q y, E[q]? = some (i + 1 + j) ∧ x' = some y ∧ TOp C l E obT (i + 1 + j) (ob.length + q) (ob.length + m) (stps ⟨putT tm o (x.getD .und), ob⟩ (xs.take j)).tm o' y)) →
      (dstOK C o = true ∧ GuardIs l.toArray ⟨tm, ob⟩ o x.isSome ∧ (∀ y, x = some y → RefOK l E ob.length m i y) ∧
        ((E.contains i = false ∧ ∀ y, x = some y → ∀ D, DnOK l (fun e => E.contains e) i D → VOp C ⟨tm, obT D⟩ o y) ∨
         ∃ q y, E[q]? = some i ∧ x = some y ∧ TOp C l E obT i (ob.length + q) (ob.length + m) tm o y)) →
      ∃ xs : List (Oper × Option X), xs.map (·.1) = o :: rest ∧ stps ⟨tm, ob⟩ xs = ⟨tm', ob⟩ ∧
        ∀ (j : Nat) o' x', xs[j]? = some (o', x') → dstOK C o' = true ∧ GuardIs l.toArray (stps ⟨tm, ob⟩ (xs.take j)) o' x'.isSome ∧ (∀ y, x' = some y → RefOK l E ob.length m (i + j) y) ∧
          ((E.contains (i + j) = false ∧ ∀ y, x' = some y → ∀ D, DnOK l (fun e => E.contains e) (i + j) D → VOp C ⟨(stps ⟨tm, ob⟩ (xs.take j)).tm, obT D⟩ o' y) ∨
           ∃ q y, E[q]? = some (i + j) ∧ x' = some y ∧ TOp C l E obT (i + j) (ob.length + q) (ob.length + m) (stps ⟨tm, ob⟩ (xs.take j)).tm o' y) := by
    intro i o rest tm tm' x ⟨xs, h1, h2, h4⟩ hx
    have hs : ∀ zs, stps ⟨tm, ob⟩ ((o, x) :: zs) = stps ⟨putT tm o (x.getD .und), ob⟩ zs := fun zs => by
      show stps ((⟨tm, ob⟩ : St).put o.dst (x.getD .und)) zs = _
      rw [put_putT]
    refine ⟨(o, x) :: xs, by simp [h1], (hs xs).trans h2, fun j o' x' hj => ?_⟩
    cases j with
    | zero =>
      simp at hj
      obtain ⟨rfl, rfl⟩ := hj
      exact hx
    | succ j =>
      have := h4 j o' x' (by simpa using hj)
      rw [show i + 1 + j = i + (j + 1) by omega, ← hs] at this
      exact this
  induction h with
  | nil i tm => exact ⟨[], rfl, rfl, fun j o x h => by simp at h⟩
  | skip hg hd hne hh ih => exact one none ih ⟨hd, hg, fun y hy => (by cases hy), .inl ⟨hne, fun y hy => (by cases hy)⟩⟩
  | val hg hd hne hv hr hh ih => exact one (some _) ih ⟨hd, hg, fun y hy => (by cases hy; exact hr), .inl ⟨hne, fun y hy => (by cases hy; exact hv)⟩⟩
  | eff hg hd he hv hr hh ih => exact one (some _) ih ⟨hd, hg, fun y hy => (by cases hy; exact hr), .inr ⟨_, _, he, rfl, hv⟩⟩
theorem SOp.fill {C : Cx} {o : Oper} {d n j : Nat} {tm : List (Nat × X)} {ob ob1 : List AObj} {R : Nat → X} {y : AObj} (h : SOp C ⟨tm, ob⟩ o ⟨(d, R ob1.length) :: tm, ob1 ++ [y]⟩) (hdst : o.dst = some d) (hR : NewX R) (hs : SlotsOK n j tm) (hn : ob1.length = n) (hj : ob1[j]? = some .dead) (hjn : C.base.n0 ≤ j)
  (hob : ∀ x ∈ ob1, ∀ o ∈ x.refs, o < n ∧ o ≠ j) (hy : ∀ o ∈ y.refs, o < n ∧ o ≠ j) : SOp C ⟨tm, ob⟩ o ((⟨tm, ob1.set j y⟩ : St).put o.dst (R j)) := by
 intro w a K Q hr hK
 refine h w a K Q hr fun a' w' hr' => hK a' w' ?_
 subst hn
 rw [hdst]
 refine rel_fill (tm := (d, R ob1.length) :: tm) hR hj hjn hob hy (fun t => ?_) hr'
 cases hdt : Nat.beq d t with
 | true => exact .inr ⟨by simp only [lk, hdt, cond_true], by simp only [lk, hdt, cond_true]⟩
 | false =>
  refine .inl ⟨by simp only [lk, hdt, cond_false], ?_⟩
  simp only [lk, hdt, cond_false]
  exact hs t
section
variable {C : Cx} {r : List It} {Q : Exit → St → Prop} {tm : List (Nat × X)} {ob ob' : List AObj} {id m : Nat} {l : List Oper} {E : List Nat} {zs : (Nat → Bool) → List AObj} {i d : Nat} {o : Oper} {rest : List Oper} {K : List (Nat × X) → Prop} {p : Prop} {x : X}
theorem SOp.same {s s1 s2 : St} (h : SOp C s o s1) (e : s1 = s2) : SOp C s o s2 := e ▸ h
theorem DnOK.ahead {D : Nat → Bool} (h : DnOK l (fun e => E.contains e) i D) (j : Nat) (hj : E.contains j = true := by exact rfl) (ha : aheadB (ancs l) j i = true := by kernel_rfl) : D j = true := h.pre j hj (ancs_spec ha)
theorem DnOK.behind {D : Nat → Bool} (h : DnOK l (fun e => E.contains e) i D) (j : Nat) (hj : E.contains j = true := by exact rfl) (ha : aheadB (ancs l) i j = true := by kernel_rfl) : D j = false := h.post j hj (ancs_spec ha)
def RefsOK (n j : Nat) (zs : List AObj) : Prop := ∀ x ∈ zs, ∀ o ∈ x.refs, o < n ∧ o ≠ j
theorem RefsOK.nil {n j : Nat} : RefsOK n j [] := fun _ h => by cases h
theorem RefsOK.cons {n j : Nat} {x : AObj} {zs : List AObj} (hx : x.refs = []) (h : RefsOK n j zs) : RefsOK n j (x :: zs) := by
 intro y hy o ho
 rcases List.mem_cons.1 hy with rfl | hy
 ·rw [hx] at ho; cases ho
 ·exact h y hy o ho
theorem RefsOK.old {j m : Nat} (hO : ObLe ob.length ob) (hj : ob.length ≤ j) {zs : List AObj} (h : RefsOK (ob.length + m) j zs) : RefsOK (ob.length + m) j (ob ++ zs) := by
 intro x hx o ho
 rcases List.mem_append.1 hx with hx | hx
 ·have := AObj.refs_below (hO.all x hx) o ho
  omega
 ·exact h x hx o ho
end
end Go.Abs
namespace Go.Abs
open Go Go.RowKit
theorem go_fitO {C : Cx} {c : Code} {r : List It} {s : St} {Q : Exit → St → Prop} (k : Nat) {ty : TypeId} {x : D} (ho : s.ob[k]? = some (.var ty (.w (.d x)))) (h : Fit x → go C (.code c :: r) s Q) : go C (.code c :: r) s Q := by
 intro a w hr
 refine h ?_ a w hr
 obtain ⟨F, σ, -, -, -, hi, -⟩ := hr
 have hlt : k < σ.length := by rw [hi.len]; exact (List.getElem?_eq_some_iff.1 ho).1
 obtain ⟨p, hp⟩ : ∃ p, σ[k]? = some p := ⟨_, List.getElem?_eq_getElem hlt⟩
 obtain ⟨b, cc, n⟩ := p
 obtain ⟨vs, -, hl, -, hx, -⟩ := hi.obs k _ _ ho hp
 refine fit_cells fun c hc => ?_
 obtain ⟨i, hi⟩ := List.getElem?_of_mem hc
 have h1 : (VC.w (X.d x)).cells[i]? = some (.d c) := by
  show (x.cells.map X.d)[i]? = _
  rw [List.getElem?_map, hi]; rfl
 have hlt : i < vs.length := by rw [← hl]; exact (List.getElem?_eq_some_iff.1 h1).1
 exact Rd.fit (show Rd w F c _ from hx i _ _ h1 (List.getElem?_eq_getElem hlt))
end Go.Abs
namespace Go.Val
open Go Go.Abs
inductive V where
 | mk (k n d : Int) (s : ByteArray) (l : List V)
 deriving Inhabited
def V.k : V → Int | .mk k _ _ _ _ => k
def V.n : V → Int | .mk _ n _ _ _ => n
def V.d : V → Int | .mk _ _ d _ _ => d
def V.s : V → ByteArray | .mk _ _ _ s _ => s
def V.l : V → List V | .mk _ _ _ _ l => l
theorem V.eta (v : V) : V.mk v.k v.n v.d v.s v.l = v := by cases v; rfl
mutual
def kids : V → List D
 | .mk _ _ _ _ l => encL l
def encL : List V → List D
 | [] => []
 | v :: r => .agg [.int v.k, .int v.n, .int v.d, .str v.s, .sl (kids v)] :: encL r
end
def enc (v : V) : D := .agg [.int v.k, .int v.n, .int v.d, .str v.s, .sl (kids v)]
theorem encL_map (l : List V) : encL l = l.map enc := by
 induction l with
 | nil => simp [encL]
 | cons v r ih => simp [encL, ih, enc]
theorem kids_eq (v : V) : kids v = v.l.map enc := by
 cases v
 simp [kids, encL_map, V.l]
theorem kids_get {v : V} {i : Nat} {x : V} (h : v.l[i]? = some x) : (kids v)[i]? = some (enc x) := by
 rw [kids_eq, List.getElem?_map, h]; rfl
theorem encL_get {l : List V} {i : Nat} {x : V} (h : l[i]? = some x) : (encL l)[i]? = some (enc x) := by
 rw [encL_map, List.getElem?_map, h]; rfl
theorem kids_len (v : V) : (kids v).length = v.l.length := by rw [kids_eq]; simp
theorem encL_len (l : List V) : (encL l).length = l.length := by rw [encL_map]; simp
def encR (l : List (List V)) : List D := l.map fun r => .sl (encL r)
theorem fit_enc {v : V} (h : Fit (enc v)) : inR .i64 v.k ∧ inR .i64 v.n ∧ inR .i64 v.d ∧ v.s.size ≤ 9223372036854775807 ∧ v.l.length ≤ 9223372036854775807 ∧ ∀ x ∈ v.l, Fit (enc x) := by
 have hc := h.aggs
 have h5 := (hc (.sl (kids v)) (by simp)).sls
 rw [kids_len] at h5
 refine ⟨(hc (.int v.k) (by simp)).int, (hc (.int v.n) (by simp)).int, (hc (.int v.d) (by simp)).int, (hc (.str v.s) (by simp)).str, h5.1, fun x hx => h5.2 _ ?_⟩
 rw [kids_eq]
 exact List.mem_map_of_mem hx
theorem fit_encL {l : List V} (h : Fit (.sl (encL l))) : l.length ≤ 9223372036854775807 ∧ ∀ x ∈ l, Fit (enc x) := by
 have h5 := h.sls
 rw [encL_len] at h5
 refine ⟨h5.1, fun x hx => h5.2 _ ?_⟩
 rw [encL_map]
 exact List.mem_map_of_mem hx
def inM (n : Int) : Bool := decide (n ≥ -1000000000000000) && decide (n ≤ 1000000000000000)
theorem inM_iff (n : Int) : inM n = true ↔ -1000000000000000 ≤ n ∧ n ≤ 1000000000000000 := by simp [inM]
def gcdF (a b : Int) : Int := bif inM a && inM b then (Int.gcd a b : Int) else 0
def fval (n d : Int) : Bool := decide (d ≥ 1) && (decide (d ≤ 1000000000000000) && (inM n && ((Int.gcd n d : Int) == 1)))
def kn (t : Int) : Int := bif (t == 0) || (t == 2) then t else 1
theorem kn_cases (t : Int) : kn t = 0 ∨ kn t = 1 ∨ kn t = 2 := by
 unfold kn
 cases h : (t == 0) || (t == 2) with
 | false => simp
 | true => simp at h; simp only [cond_true]; omega
def tt (b : Bool) : Int := bif b then 2 else 0
def vNull : V := .mk 0 0 0 ⟨#[]⟩ []
def s0 (s : ByteArray) : Bool := s.toList == (⟨#[]⟩ : ByteArray).toList
def strOK (s : ByteArray) : Bool := s.data.toList.all (fun b => !(decide (b.toNat < 32) || decide (b.toNat > 126))) && decide (s.size ≤ 100)
def okFlat (v : V) : Bool :=
 (v.k == 0 && (v.d == 0 && s0 v.s && v.l.length == 0) && v.n == 0) ||
 (v.k == 1 && (v.d == 0 && s0 v.s && v.l.length == 0) && (v.n == 0 || v.n == 1)) ||
 (v.k == 2 && (v.d == 0 && s0 v.s && v.l.length == 0) && inM v.n) ||
 (v.k == 3 && (s0 v.s && v.l.length == 0) && (decide (v.d ≥ 2) && fval v.n v.d)) ||
 (v.k == 4 && (v.d == 0 && v.l.length == 0) && (v.n == 0 && strOK v.s)) ||
 ((v.k == 5 || v.k == 6) && (v.d == 0 && s0 v.s && v.l.length == 0) && (decide (v.n ≥ 1) && decide (v.n ≤ 1000000)))
def okStep (i : Nat) (v : V) : Bool := v.k == (bif i % 2 == 0 then 5 else 6) && okFlat v
def okSteps : Nat → List V → Bool
 | _, [] => true
 | i, v :: r => okStep i v && okSteps (i + 1) r
def okPath (l : List V) : Bool := l.length % 2 == 1 && decide (l.length ≤ 25) && okSteps 0 l
def okN : Nat → V → Bool
 | 0, v => okFlat v || (v.k == 7 && (v.d == 0 && s0 v.s) && (v.n == 0 && okPath v.l))
 | m + 1, v => okFlat v || (v.k == 7 && (v.d == 0 && s0 v.s) && (v.n == 0 && okPath v.l)) || (v.k == 8 && (v.d == 0 && s0 v.s) && (v.n == 0 && decide (v.l.length ≤ 64) && v.l.all (okN m)))
def okV (v : V) : Bool := okN 8 v
def plainF (v : V) : Bool := (v.k == 1 || v.k == 2 || v.k == 4) && okV v
def isNum (v : V) : Bool := (v.k == 2 || v.k == 3) && okV v
def numN (v : V) : Int := bif isNum v then v.n else 0
def numD (v : V) : Int := bif isNum v then (bif v.k == 2 then 1 else v.d) else 0
end Go.Val
namespace Go.Proofs.YtenpjlghikohmaaGreatDoor
open Go Go.Abs
set_option maxRecDepth 100000
def te3 : TE := ⟨3, .int .i64, 1, 8, .int .i64 0⟩
def te4 : TE := ⟨4, .bool, 1, 1, .bool false⟩
def te9 : TE := ⟨9, .string, 1, 16, .string { data := #[] }⟩
def te28 : TE := ⟨28, .struct #[⟨"Vars", 25, 0, false, "", "", 0⟩, ⟨"Atoms", 26, 1, false, "", "", 24⟩], 2, 48, .agg #[.slice Option.none 0 0, .slice Option.none 0 0]⟩
def te38 : TE := ⟨38, .struct #[⟨"Nodes", 35, 0, false, "", "", 0⟩, ⟨"Edges", 36, 1, false, "", "", 24⟩, ⟨"NextNode", 3, 2, false, "", "", 48⟩, ⟨"NextEdge", 3, 3, false, "", "", 56⟩], 4, 64, .agg #[.slice Option.none 0 0, .slice Option.none 0 0, .int .i64 0, .int .i64 0]⟩
def te42 : TE := ⟨42, .struct #[⟨"Nodes", 3, 0, false, "", "", 0⟩, ⟨"Edges", 3, 1, false, "", "", 8⟩, ⟨"Labels", 39, 2, false, "", "", 16⟩, ⟨"Types", 39, 3, false, "", "", 40⟩, ⟨"Outs", 40, 4, false, "", "", 64⟩, ⟨"Ins", 40, 5, false, "", "", 88⟩], 6, 112, .agg #[.int .i64 0, .int .i64 0, .slice Option.none 0 0, .slice Option.none 0 0, .slice Option.none 0 0, .slice Option.none 0 0]⟩
def te56 : TE := ⟨56, .struct #[⟨"Kind", 3, 0, false, "", "", 0⟩, ⟨"N", 3, 1, false, "", "", 8⟩, ⟨"D", 3, 2, false, "", "", 16⟩, ⟨"S", 9, 3, false, "", "", 24⟩, ⟨"L", 54, 4, false, "", "", 40⟩], 5, 64, .agg #[.int .i64 0, .int .i64 0, .int .i64 0, .string { data := #[] }, .slice Option.none 0 0]⟩
def te58 : TE := ⟨58, .struct #[⟨"Kind", 3, 0, false, "", "", 0⟩, ⟨"Vars", 46, 1, false, "", "", 8⟩, ⟨"Name", 9, 2, false, "", "", 32⟩, ⟨"Types", 25, 3, false, "", "", 48⟩, ⟨"V", 56, 4, false, "", "", 72⟩], 9, 136, .agg #[.int .i64 0, .slice Option.none 0 0, .string { data := #[] }, .slice Option.none 0 0, .int .i64 0, .int .i64 0, .int .i64 0, .string { data := #[] }, .slice Option.none 0 0]⟩
def te63 : TE := ⟨63, .struct #[⟨"Arity", 3, 0, false, "", "", 0⟩, ⟨"Rows", 40, 1, false, "", "", 8⟩], 2, 32, .agg #[.int .i64 0, .slice Option.none 0 0]⟩
def te104 : TE := ⟨104, .struct #[⟨"Id", 3, 0, false, "", "", 0⟩, ⟨"Labels", 25, 1, false, "", "", 8⟩, ⟨"Props", 102, 2, false, "", "", 32⟩], 3, 56, .agg #[.int .i64 0, .slice Option.none 0 0, .slice Option.none 0 0]⟩
def te107 : TE := ⟨107, .struct #[⟨"Name", 9, 0, false, "", "", 0⟩, ⟨"N", 3, 1, false, "", "", 16⟩], 2, 24, .agg #[.string { data := #[] }, .int .i64 0]⟩
def te109 : TE := ⟨109, .struct #[⟨"Id", 3, 0, false, "", "", 0⟩, ⟨"From", 3, 1, false, "", "", 8⟩, ⟨"To", 3, 2, false, "", "", 16⟩, ⟨"Type", 9, 3, false, "", "", 24⟩, ⟨"Props", 102, 4, false, "", "", 40⟩], 5, 64, .agg #[.int .i64 0, .int .i64 0, .int .i64 0, .string { data := #[] }, .slice Option.none 0 0]⟩
def te118 : TE := ⟨118, .struct #[⟨"s", 42, 0, false, "", "graphdb/estimate", 0⟩, ⟨"c", 28, 6, false, "", "graphdb/estimate", 112⟩, ⟨"best", 116, 8, false, "", "graphdb/estimate", 160⟩], 9, 184, .agg #[.int .i64 0, .int .i64 0, .slice Option.none 0 0, .slice Option.none 0 0, .slice Option.none 0 0, .slice Option.none 0 0, .slice Option.none 0 0, .slice Option.none 0 0, .slice Option.none 0 0]⟩
def te125 : TE := ⟨125, .struct #[⟨"rels", 123, 0, false, "", "graphdb/atoms", 0⟩, ⟨"vars", 40, 1, false, "", "graphdb/atoms", 24⟩, ⟨"tuple", 46, 2, false, "", "graphdb/atoms", 48⟩, ⟨"out", 40, 3, false, "", "graphdb/atoms", 72⟩], 4, 96, .agg #[.slice Option.none 0 0, .slice Option.none 0 0, .slice Option.none 0 0, .slice Option.none 0 0]⟩
def te210 : TE := ⟨210, .struct #[⟨"Key", 9, 0, false, "", "", 0⟩, ⟨"V", 56, 1, false, "", "", 16⟩], 6, 80, .agg #[.string { data := #[] }, .int .i64 0, .int .i64 0, .int .i64 0, .string { data := #[] }, .slice Option.none 0 0]⟩
def te236 : TE := ⟨236, .struct #[⟨"N", 3, 0, false, "", "", 0⟩, ⟨"D", 3, 1, false, "", "", 8⟩], 2, 16, .agg #[.int .i64 0, .int .i64 0]⟩
def te349 : TE := ⟨349, .struct #[⟨"neg", 4, 0, false, "", "graphdb/frac", 0⟩, ⟨"hi", 277, 1, false, "", "graphdb/frac", 8⟩, ⟨"lo", 277, 2, false, "", "graphdb/frac", 16⟩], 3, 24, .agg #[.bool false, .int .u64 0, .int .u64 0]⟩
def te25 : TE := ⟨25, .slice 9, 1, 24, .slice Option.none 0 0⟩
def te26 : TE := ⟨26, .slice 58, 1, 24, .slice Option.none 0 0⟩
def te35 : TE := ⟨35, .slice 104, 1, 24, .slice Option.none 0 0⟩
def te36 : TE := ⟨36, .slice 109, 1, 24, .slice Option.none 0 0⟩
def te39 : TE := ⟨39, .slice 107, 1, 24, .slice Option.none 0 0⟩
def te40 : TE := ⟨40, .slice 46, 1, 24, .slice Option.none 0 0⟩
def te46 : TE := ⟨46, .slice 3, 1, 24, .slice Option.none 0 0⟩
def te47 : TE := ⟨47, .slice 3, 1, 24, .slice Option.none 0 0⟩
def te54 : TE := ⟨54, .slice 56, 1, 24, .slice Option.none 0 0⟩
def te102 : TE := ⟨102, .slice 210, 1, 24, .slice Option.none 0 0⟩
def te116 : TE := ⟨116, .slice 47, 1, 24, .slice Option.none 0 0⟩
def te123 : TE := ⟨123, .slice 63, 1, 24, .slice Option.none 0 0⟩
def te156 : TE := ⟨156, .slice 4, 1, 24, .slice Option.none 0 0⟩
def te1 : TE := ⟨1, .func #[] #[] false, 1, 8, .nilFunc⟩
def te2 : TE := ⟨2, .int .i64, 1, 8, .int .i64 0⟩
def te5 : TE := ⟨5, .int .u8, 1, 1, .int .u8 0⟩
def te21 : TE := ⟨21, .int .i32, 1, 4, .int .i32 0⟩
def te43 : TE := ⟨43, .int .i64, 1, 8, .int .i64 0⟩
def te113 : TE := ⟨113, .func #[46, 46] #[4] false, 1, 8, .nilFunc⟩
def te119 : TE := ⟨119, .pointer 118, 1, 8, .pointer Option.none⟩
def te122 : TE := ⟨122, .func #[3, 3] #[3] false, 1, 8, .nilFunc⟩
def te134 : TE := ⟨134, .func #[46] #[] true, 1, 8, .nilFunc⟩
def te138 : TE := ⟨138, .func #[46, 46] #[3] false, 1, 8, .nilFunc⟩
def te152 : TE := ⟨152, .func #[162] #[] false, 1, 8, .nilFunc⟩
def te153 : TE := ⟨153, .func #[162] #[] false, 1, 8, .nilFunc⟩
def te162 : TE := ⟨162, .func #[9] #[4] false, 1, 8, .nilFunc⟩
def te182 : TE := ⟨182, .func #[56, 56] #[3] false, 1, 8, .nilFunc⟩
def te189 : TE := ⟨189, .map 3 3, 1, 8, .map Option.none⟩
def te196 : TE := ⟨196, .func #[3] #[4] false, 1, 8, .nilFunc⟩
def te202 : TE := ⟨202, .func #[196] #[] false, 1, 8, .nilFunc⟩
def te203 : TE := ⟨203, .func #[196] #[] false, 1, 8, .nilFunc⟩
def te205 : TE := ⟨205, .pointer 125, 1, 8, .pointer Option.none⟩
def te218 : TE := ⟨218, .int .u64, 1, 8, .int .u64 0⟩
def te248 : TE := ⟨248, .func #[104, 3] #[3] false, 1, 8, .nilFunc⟩
def te257 : TE := ⟨257, .func #[107] #[4] false, 1, 8, .nilFunc⟩
def te261 : TE := ⟨261, .func #[46] #[4] false, 1, 8, .nilFunc⟩
def te268 : TE := ⟨268, .int .i64, 1, 8, .int .i64 0⟩
def te275 : TE := ⟨275, .int .u32, 1, 4, .int .u32 0⟩
def te277 : TE := ⟨277, .int .u64, 1, 8, .int .u64 0⟩
def te319 : TE := ⟨319, .int .u64, 1, 8, .int .u64 0⟩
def te323 : TE := ⟨323, .pointer 3, 1, 8, .pointer Option.none⟩
def te347 : TE := ⟨347, .func #[21] #[4] false, 1, 8, .nilFunc⟩
def te353 : TE := ⟨353, .pointer 319, 1, 8, .pointer Option.none⟩
theorem kC {P : Program} {e : TE} {l : List TE} {i : TypeInfo} (h : P.underlying e.t = some e.desc) (h' : P.info? e.t = some i) (h2 : ∀ x ∈ l, x.ok P) (a : i.size = e.size := by exact rfl) (b : i.bytes = e.bytes := by exact rfl) (c : i.zero = some e.zero := by exact rfl) : ∀ x ∈ e :: l, x.ok P := List.forall_mem_cons.2 ⟨⟨h, i, h', a, b, c⟩, h2⟩
def seatT : List TE := [te3, te4, te9, te28, te38, te42, te56, te58, te63, te104, te107, te109, te118, te125, te210, te236, te349, te25, te26, te35, te36, te39, te40, te46, te47, te54, te102, te116, te123, te156, te1, te2, te5, te21, te43, te113, te119, te122, te134, te138, te152, te153, te162, te182, te189, te196, te202, te203, te205, te218, te248, te257, te261, te268, te275, te277, te319, te323, te347, te353]
theorem seatT_ok : ∀ e ∈ seatT, e.ok Tryz.prog := by
 unfold seatT
 refine kC Tryz.underlying3 Tryz.type3 ?_
 refine kC Tryz.underlying4 Tryz.type4 ?_
 refine kC Tryz.underlying9 Tryz.type9 ?_
 refine kC Tryz.underlying28 Tryz.type28 ?_
 refine kC Tryz.underlying38 Tryz.type38 ?_
 refine kC Tryz.underlying42 Tryz.type42 ?_
 refine kC Tryz.underlying56 Tryz.type56 ?_
 refine kC Tryz.underlying58 Tryz.type58 ?_
 refine kC Tryz.underlying63 Tryz.type63 ?_
 refine kC Tryz.underlying104 Tryz.type104 ?_
 refine kC Tryz.underlying107 Tryz.type107 ?_
 refine kC Tryz.underlying109 Tryz.type109 ?_
 refine kC Tryz.underlying118 Tryz.type118 ?_
 refine kC Tryz.underlying125 Tryz.type125 ?_
 refine kC Tryz.underlying210 Tryz.type210 ?_
 refine kC Tryz.underlying236 Tryz.type236 ?_
 refine kC Tryz.underlying349 Tryz.type349 ?_
 refine kC Tryz.underlying25 Tryz.type25 ?_
 refine kC Tryz.underlying26 Tryz.type26 ?_
 refine kC Tryz.underlying35 Tryz.type35 ?_
 refine kC Tryz.underlying36 Tryz.type36 ?_
 refine kC Tryz.underlying39 Tryz.type39 ?_
 refine kC Tryz.underlying40 Tryz.type40 ?_
 refine kC Tryz.underlying46 Tryz.type46 ?_
 refine kC Tryz.underlying47 Tryz.type47 ?_
 refine kC Tryz.underlying54 Tryz.type54 ?_
 refine kC Tryz.underlying102 Tryz.type102 ?_
 refine kC Tryz.underlying116 Tryz.type116 ?_
 refine kC Tryz.underlying123 Tryz.type123 ?_
 refine kC Tryz.underlying156 Tryz.type156 ?_
 refine kC Tryz.underlying1 Tryz.type1 ?_
 refine kC Tryz.underlying2 Tryz.type2 ?_
 refine kC Tryz.underlying5 Tryz.type5 ?_
 refine kC Tryz.underlying21 Tryz.type21 ?_
 refine kC Tryz.underlying43 Tryz.type43 ?_
 refine kC Tryz.underlying113 Tryz.type113 ?_
 refine kC Tryz.underlying119 Tryz.type119 ?_
 refine kC Tryz.underlying122 Tryz.type122 ?_
 refine kC Tryz.underlying134 Tryz.type134 ?_
 refine kC Tryz.underlying138 Tryz.type138 ?_
 refine kC Tryz.underlying152 Tryz.type152 ?_
 refine kC Tryz.underlying153 Tryz.type153 ?_
 refine kC Tryz.underlying162 Tryz.type162 ?_
 refine kC Tryz.underlying182 Tryz.type182 ?_
 refine kC Tryz.underlying189 Tryz.type189 ?_
 refine kC Tryz.underlying196 Tryz.type196 ?_
 refine kC Tryz.underlying202 Tryz.type202 ?_
 refine kC Tryz.underlying203 Tryz.type203 ?_
 refine kC Tryz.underlying205 Tryz.type205 ?_
 refine kC Tryz.underlying218 Tryz.type218 ?_
 refine kC Tryz.underlying248 Tryz.type248 ?_
 refine kC Tryz.underlying257 Tryz.type257 ?_
 refine kC Tryz.underlying261 Tryz.type261 ?_
 refine kC Tryz.underlying268 Tryz.type268 ?_
 refine kC Tryz.underlying275 Tryz.type275 ?_
 refine kC Tryz.underlying277 Tryz.type277 ?_
 refine kC Tryz.underlying319 Tryz.type319 ?_
 refine kC Tryz.underlying323 Tryz.type323 ?_
 refine kC Tryz.underlying347 Tryz.type347 ?_
 refine kC Tryz.underlying353 Tryz.type353 ?_
 intro e h; cases h
def seatG : List GE := [{ g := 0, x := .agg [.int 0, .int 1] }]
def seatI (w : World) (F : Nat → Prop) : Prop := True ∧ True
theorem seatI_mono : ∀ (w w' : World) (F F' : Nat → Prop), (∀ b, F b → F' b) → (∀ b, F b → w'.heap[b]? = w.heap[b]?) → seatI w F → seatI w' F' := by
 rintro w w' F F' hF hw ⟨h1, h2⟩
 refine ⟨?_, ?_⟩
 ·trivial
 ·trivial
theorem seatM : Tryz.prog.follows .mixedOrders = true := by kernel_rfl
noncomputable def E : Env := { P := Tryz.prog, T := seatT, G := seatG, hT := seatT_ok, hM := seatM, I := seatI, hI := seatI_mono }
theorem b2 : HasBody E 2 := Tryz.call2
theorem b3 : HasBody E 3 := Tryz.call3
theorem b4 : HasBody E 4 := Tryz.call4
theorem b5 : HasBody E 5 := Tryz.call5
theorem b6 : HasBody E 6 := Tryz.call6
theorem b14 : HasBody E 14 := Tryz.call14
theorem b15 : HasBody E 15 := Tryz.call15
theorem b16 : HasBody E 16 := Tryz.call16
theorem b17 : HasBody E 17 := Tryz.call17
theorem b18 : HasBody E 18 := Tryz.call18
theorem b19 : HasBody E 19 := Tryz.call19
theorem b23 : HasBody E 23 := Tryz.call23
theorem b30 : HasBody E 30 := Tryz.call30
theorem b41 : HasBody E 41 := Tryz.call41
theorem b42 : HasBody E 42 := Tryz.call42
theorem b43 : HasBody E 43 := Tryz.call43
theorem b44 : HasBody E 44 := Tryz.call44
theorem b45 : HasBody E 45 := Tryz.call45
theorem b46 : HasBody E 46 := Tryz.call46
theorem b47 : HasBody E 47 := Tryz.call47
theorem b48 : HasBody E 48 := Tryz.call48
theorem b49 : HasBody E 49 := Tryz.call49
theorem b50 : HasBody E 50 := Tryz.call50
theorem b51 : HasBody E 51 := Tryz.call51
theorem b52 : HasBody E 52 := Tryz.call52
theorem b53 : HasBody E 53 := Tryz.call53
theorem b54 : HasBody E 54 := Tryz.call54
theorem b57 : HasBody E 57 := Tryz.call57
theorem b58 : HasBody E 58 := Tryz.call58
theorem b59 : HasBody E 59 := Tryz.call59
theorem b60 : HasBody E 60 := Tryz.call60
theorem b61 : HasBody E 61 := Tryz.call61
theorem b62 : HasBody E 62 := Tryz.call62
theorem b63 : HasBody E 63 := Tryz.call63
theorem b65 : HasBody E 65 := Tryz.call65
theorem b66 : HasBody E 66 := Tryz.call66
theorem b81 : HasBody E 81 := Tryz.call81
theorem b82 : HasBody E 82 := Tryz.call82
theorem b83 : HasBody E 83 := Tryz.call83
theorem b84 : HasBody E 84 := Tryz.call84
theorem b85 : HasBody E 85 := Tryz.call85
theorem b120 : HasBody E 120 := Tryz.call120
theorem b121 : HasBody E 121 := Tryz.call121
theorem b122 : HasBody E 122 := Tryz.call122
theorem b123 : HasBody E 123 := Tryz.call123
theorem b124 : HasBody E 124 := Tryz.call124
theorem b125 : HasBody E 125 := Tryz.call125
theorem b127 : HasBody E 127 := Tryz.call127
theorem b128 : HasBody E 128 := Tryz.call128
theorem b129 : HasBody E 129 := Tryz.call129
theorem b130 : HasBody E 130 := Tryz.call130
theorem b131 : HasBody E 131 := Tryz.call131
theorem b132 : HasBody E 132 := Tryz.call132
theorem b133 : HasBody E 133 := Tryz.call133
theorem b134 : HasBody E 134 := Tryz.call134
theorem b135 : HasBody E 135 := Tryz.call135
theorem b136 : HasBody E 136 := Tryz.call136
theorem b138 : HasBody E 138 := Tryz.call138
theorem b139 : HasBody E 139 := Tryz.call139
theorem b140 : HasBody E 140 := Tryz.call140
theorem b141 : HasBody E 141 := Tryz.call141
theorem b142 : HasBody E 142 := Tryz.call142
theorem b143 : HasBody E 143 := Tryz.call143
theorem b145 : HasBody E 145 := Tryz.call145
theorem b146 : HasBody E 146 := Tryz.call146
theorem b147 : HasBody E 147 := Tryz.call147
theorem b148 : HasBody E 148 := Tryz.call148
theorem b149 : HasBody E 149 := Tryz.call149
theorem b150 : HasBody E 150 := Tryz.call150
theorem b151 : HasBody E 151 := Tryz.call151
theorem b152 : HasBody E 152 := Tryz.call152
theorem b153 : HasBody E 153 := Tryz.call153
theorem b154 : HasBody E 154 := Tryz.call154
theorem b155 : HasBody E 155 := Tryz.call155
theorem b171 : HasBody E 171 := Tryz.call171
theorem b180 : HasBody E 180 := Tryz.call180
theorem b212 : HasBody E 212 := Tryz.call212
theorem b213 : HasBody E 213 := Tryz.call213
theorem b214 : HasBody E 214 := Tryz.call214
theorem b215 : HasBody E 215 := Tryz.call215
theorem b216 : HasBody E 216 := Tryz.call216
theorem b218 : HasBody E 218 := Tryz.call218
theorem b219 : HasBody E 219 := Tryz.call219
theorem b220 : HasBody E 220 := Tryz.call220
theorem b221 : HasBody E 221 := Tryz.call221
theorem b222 : HasBody E 222 := Tryz.call222
theorem b223 : HasBody E 223 := Tryz.call223
theorem b224 : HasBody E 224 := Tryz.call224
theorem b225 : HasBody E 225 := Tryz.call225
theorem b227 : HasBody E 227 := Tryz.call227
theorem b229 : HasBody E 229 := Tryz.call229
theorem b230 : HasBody E 230 := Tryz.call230
theorem b231 : HasBody E 231 := Tryz.call231
theorem b232 : HasBody E 232 := Tryz.call232
theorem b233 : HasBody E 233 := Tryz.call233
theorem b234 : HasBody E 234 := Tryz.call234
theorem b235 : HasBody E 235 := Tryz.call235
theorem b236 : HasBody E 236 := Tryz.call236
theorem b237 : HasBody E 237 := Tryz.call237
theorem b238 : HasBody E 238 := Tryz.call238
theorem b239 : HasBody E 239 := Tryz.call239
theorem b240 : HasBody E 240 := Tryz.call240
theorem b295 : HasBody E 295 := Tryz.call295
theorem b303 : HasBody E 303 := Tryz.call303
theorem b306 : HasBody E 306 := Tryz.call306
theorem b307 : HasBody E 307 := Tryz.call307
theorem b308 : HasBody E 308 := Tryz.call308
theorem b309 : HasBody E 309 := Tryz.call309
theorem b310 : HasBody E 310 := Tryz.call310
theorem b311 : HasBody E 311 := Tryz.call311
theorem b312 : HasBody E 312 := Tryz.call312
theorem b313 : HasBody E 313 := Tryz.call313
theorem b314 : HasBody E 314 := Tryz.call314
theorem b366 : HasBody E 366 := Tryz.call366
theorem b367 : HasBody E 367 := Tryz.call367
theorem b368 : HasBody E 368 := Tryz.call368
theorem b370 : HasBody E 370 := Tryz.call370
theorem b371 : HasBody E 371 := Tryz.call371
theorem b372 : HasBody E 372 := Tryz.call372
theorem b373 : HasBody E 373 := Tryz.call373
theorem b374 : HasBody E 374 := Tryz.call374
theorem b391 : HasBody E 391 := Tryz.call391
theorem b393 : HasBody E 393 := Tryz.call393
theorem b394 : HasBody E 394 := Tryz.call394
theorem b396 : HasBody E 396 := Tryz.call396
theorem b407 : HasBody E 407 := Tryz.call407
end Go.Proofs.YtenpjlghikohmaaGreatDoor
