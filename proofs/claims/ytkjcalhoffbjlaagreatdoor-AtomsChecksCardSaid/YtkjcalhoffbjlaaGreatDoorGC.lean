/- The walk through a region whose order is drawn and that holds several effects; Calls that are handed objects: data handed back; such calls in a region whose order is drawn; A row that grew out of nil, given up as data; Laws whose statement bears a bound on how much is read; Short names for the steps of a walk whose premises say themselves; In a region whose order is drawn: a literal of a slice as a row of the call's own, and an append whose row is given up as data at once; Drawn regions in which one operation calls a function that is handed objects and leaves them as they are; shifts, masks an. Conditions: each part's own, as it says. -/
import Derived.Test.YtkjcalhoffbjlaaGreatDoorGB
import Derived.Deep.DeepHandedRow
import Derived.Test.YtkjcalhoffbjlaaGreatDoorProg
import Derived.Test.YtkjcalhoffbjlaaGreatDoorGA
import Derived.KernelRfl
import Derived.Lib.LaidTab
import Derived.Shelf.Strconv.Itoa3
set_option linter.unusedVariables false
set_option linter.unusedSimpArgs false
namespace Go.Abs
open Go Go.RowKit
structure Wk (wob ob : List AObj) : Prop where
 len : wob.length ≤ ob.length
 get : ∀ (i : Nat) x, wob[i]? = some x → x.live = true → ob[i]? = some x ∧ x.below wob.length = true
def wkP (n : Nat) : List AObj → List AObj → Prop
 | [], _ => True
 | .dead :: r, _ :: q => True ∧ wkP n r q
 | _ :: _, [] => False
 | x :: r, y :: q => (x = y ∧ x.below n = true) ∧ wkP n r q
theorem wkP_ok {n : Nat} : ∀ {wob ob : List AObj}, wkP n wob ob → wob.length ≤ ob.length ∧ ∀ (i : Nat) x, wob[i]? = some x → x.live = true → ob[i]? = some x ∧ x.below n = true
 | [], _, _ => ⟨Nat.zero_le _, fun i x h => by simp at h⟩
 | x :: r, [], h => by cases x <;> simp [wkP] at h
 | x :: r, y :: q, h => by
  have key : (x.live = true → x = y ∧ x.below n = true) ∧ wkP n r q := by
   cases x with
   | dead => exact ⟨fun hl => by simp [AObj.live] at hl, h.2⟩
   | _ => exact ⟨fun _ => h.1, h.2⟩
  obtain ⟨h1, h2⟩ := wkP_ok key.2
  refine ⟨by simpa using h1, fun i z hz hl => ?_⟩
  cases i with
  | zero =>
   simp at hz
   subst hz
   obtain ⟨rfl, h4⟩ := key.1 hl
   exact ⟨rfl, h4⟩
  | succ i => exact h2 i z (by simpa using hz) hl
theorem Wk.mk' {wob ob : List AObj} (h : wkP wob.length wob ob) : Wk wob ob := ⟨(wkP_ok h).1, (wkP_ok h).2⟩
theorem WInv.wk {E : Env} {B : Base} {F : Nat → Prop} {σ : Sg} {ob wob : List AObj} {w : World} (h : WInv E B F σ ob w) (hw : Wk wob ob) (hn : B.n0 ≤ wob.length) : WInv E B F (σ.take wob.length) wob w := by
 have hlen := h.len
 have hl := hw.len
 have hget : ∀ (o : Nat) p, (σ.take wob.length)[o]? = some p → σ[o]? = some p := by
  intro o p hp
  rw [List.getElem?_take] at hp
  split at hp
  ·exact hp
  ·cases hp
 refine ⟨h.flt, h.glob, by rw [List.length_take]; omega, fun o x p hx hp => ?_, fun o o' x x' p p' hne hx hlx hx' hlx' hp hp' => ?_, fun i p hi hp => ?_⟩
 ·cases hlv : x.live with
  | false => cases x <;> simp [AObj.live] at hlv <;> trivial
  | true => exact (h.obs o x p (hw.get o x hx hlv).1 (hget o p hp)).take (hw.get o x hx hlv).2
 ·exact h.inj o o' x x' p p' hne (hw.get o x hx hlx).1 hlx (hw.get o' x' hx' hlx').1 hlx' (hget o p hp) (hget o' p' hp')
 ·rw [List.getElem?_take, if_pos (by omega)]
  exact h.pre i p hi hp
theorem St.ev_below {E : Env} {tm : List (Nat × X)} {ob : List AObj} {n : Nat} (h : ∀ t, (lk tm t).below n = true) (z : Operand) : ((⟨tm, ob⟩ : St).ev E z).below n = true := by
 cases z with
 | tmp t => exact h t
 | const v =>
  show (ofConst v).below n = true
  unfold ofConst
  split
  ·rfl
  ·cases okV v <;> rfl
 | global g =>
  show (findG E.G g).below n = true
  have : ∀ l : List GE, (findG l g).below n = true := by
   intro l
   induction l with
   | nil => rfl
   | cons a r ih =>
    simp only [findG]
    cases Nat.beq a.g g
    ·exact ih
    ·rfl
  exact this _
 | func f => rfl
theorem VOp.wk {C : Cx} {tm : List (Nat × X)} {ob wob : List AObj} {o : Oper} {x : X} (h : VOp C ⟨tm, wob⟩ o x) (hw : Wk wob ob) (hn : C.base.n0 ≤ wob.length) (hb : ∀ t, (lk tm t).below wob.length = true) : VOp C ⟨tm, ob⟩ o x := by
 intro F σ w a K Q hi hr hK
 refine h F (σ.take wob.length) w a K Q (hi.wk hw hn) (fun y hy => ?_) fun v w' F' he hv => hK v w' F' he ?_
 ·have := hr y hy
  exact RdX.take (n := wob.length) this (St.ev_below (ob := ob) hb y)
 ·refine hv.mono (fun _ h => h) (fun _ _ => rfl) fun o p hp => ?_
  rw [List.getElem?_take] at hp
  split at hp
  ·exact hp
  ·cases hp
def fixedB (A E : List Nat) (i : Nat) : Bool := E.all fun e => Nat.beq e i || (bif Nat.blt e i then aheadB A e i else aheadB A i e)
def FixedP (l : List Oper) (E : List Nat) (i : Nat) : Prop := ∀ e, E.contains e = true → (e < i → Ahead l e i) ∧ (i < e → Ahead l i e)
theorem fixedB_ok {l : List Oper} {E : List Nat} {i : Nat} (h : fixedB (ancs l) E i = true) : FixedP l E i := by
 intro e he
 have h1 := List.all_eq_true.1 h e (by simpa using he)
 refine ⟨fun hlt => ?_, fun hlt => ?_⟩
 ·have e1 : Nat.beq e i = false := by rw [← Bool.not_eq_true]; intro hb; have := Nat.eq_of_beq_eq_true hb; omega
  have e2 : Nat.blt e i = true := by simpa using hlt
  rw [e1, e2] at h1
  exact ancs_spec (by simpa using h1)
 ·have e1 : Nat.beq e i = false := by rw [← Bool.not_eq_true]; intro hb; have := Nat.eq_of_beq_eq_true hb; omega
  have e2 : Nat.blt e i = false := by rw [← Bool.not_eq_true]; simp; omega
  rw [e1, e2] at h1
  exact ancs_spec (by simpa using h1)
def chainB (A E : List Nat) : Bool := E.all fun e => fixedB A E e
inductive RD (C : Cx) (l : List Oper) (E : List Nat) (wob : List AObj) : Nat → List Oper → St → St → Prop
 | nil (i : Nat) (s : St) : RD C l E wob i [] s s
 | same {i : Nat} {ops : List Oper} {s s1 s' : St} (hs : StEq s s1) (h : RD C l E wob i ops s1 s') : RD C l E wob i ops s s'
 | fix {i : Nat} {o : Oper} {rest : List Oper} {s s' : St} {x : X} (hg : GuardIs l.toArray s o true) (hd : dstOK C o = true) (hne : E.contains i = false) (hf : FixedP l E i) (hv : VOp C s o x) (h : RD C l E wob (i + 1) rest (s.put o.dst x) s') : RD C l E wob i (o :: rest) s s'
 | skip {i : Nat} {o : Oper} {rest : List Oper} {s s' : St} (hg : GuardIs l.toArray s o false) (hd : dstOK C o = true) (hne : E.contains i = false) (h : RD C l E wob (i + 1) rest (s.put o.dst .und) s') : RD C l E wob i (o :: rest) s s'
 | weak {i : Nat} {o : Oper} {rest : List Oper} {s s' : St} {x : X} (hg : GuardIs l.toArray s o true) (hd : dstOK C o = true) (hne : E.contains i = false) (hv : VOp C ⟨s.tm, wob⟩ o x) (hb : ∀ t, (lk s.tm t).below wob.length = true) (h : RD C l E wob (i + 1) rest (s.put o.dst x) s') : RD C l E wob i (o :: rest) s s'
 | eff {i : Nat} {o : Oper} {rest : List Oper} {s s' : St} {x : X} {ob' : List AObj} (hg : GuardIs l.toArray s o true) (hd : dstOK C o = true) (hne : E.contains i = true) (hv : EOp C s o x ob') (hw : Wk wob ob') (h : RD C l E wob (i + 1) rest ((⟨s.tm, ob'⟩ : St).put o.dst x) s') : RD C l E wob i (o :: rest) s s'
theorem stps_tm : ∀ (xs : List (Oper × Option X)) (s s2 : St), (∀ t, lk s.tm t = lk s2.tm t) → ∀ t, lk (stps s xs).tm t = lk (stps s2 xs).tm t
 | [], _, _, h => h
 | (o, x) :: r, s, s2, h => by
  refine stps_tm r _ _ fun t => ?_
  cases o.dst with
  | none => exact h t
  | some d =>
   simp only [St.put, lk]
   cases Nat.beq d t
   ·exact h t
   ·rfl
theorem VOp.look {C : Cx} {tm tm' : List (Nat × X)} {ob : List AObj} {o : Oper} {x : X} (h : VOp C ⟨tm, ob⟩ o x) (he : ∀ t, lk tm' t = lk tm t) : VOp C ⟨tm', ob⟩ o x :=
 StEq.vop (s := ⟨tm, ob⟩) (s' := ⟨tm', ob⟩) ⟨he, rfl⟩ h
theorem EOp.look {C : Cx} {tm tm' : List (Nat × X)} {ob ob' : List AObj} {o : Oper} {x : X} (h : EOp C ⟨tm, ob⟩ o x ob') (he : ∀ t, lk tm' t = lk tm t) : EOp C ⟨tm', ob⟩ o x ob' := by
 intro t2 h2
 refine h t2 fun z hz => (h2 z hz).trans ?_
 cases z with
 | tmp t => exact he t
 | _ => rfl
theorem GuardIs.look {all : Array Oper} {s s' : St} {o : Oper} {b : Bool} (h : GuardIs all s o b) (he : ∀ t, lk s'.tm t = lk s.tm t) : GuardIs all s' o b := by
 unfold GuardIs at *
 cases hgd : o.guard with
 | none => rw [hgd] at h; exact h
 | some jp =>
  rw [hgd] at h
  obtain ⟨t, h1, h2⟩ := h
  exact ⟨t, h1, by rw [he]; exact h2⟩
theorem RD.data {C : Cx} {l : List Oper} {E : List Nat} {wob : List AObj} {i : Nat} {ops : List Oper} {s s' : St} (h : RD C l E wob i ops s s') (hw0 : Wk wob s.ob) :
  ∃ (xs : List (Oper × Option X)) (obT : Nat → List AObj), xs.map (·.1) = ops ∧ obT 0 = s.ob ∧ obT ops.length = s'.ob ∧ (∀ t, lk (stps s xs).tm t = lk s'.tm t) ∧ (∀ j, j ≤ ops.length → Wk wob (obT j)) ∧
   ∀ (j : Nat) o x, xs[j]? = some (o, x) → dstOK C o = true ∧ GuardIs l.toArray (stps s (xs.take j)) o x.isSome ∧
    (E.contains (i + j) = true → ∃ y, x = some y ∧ EOp C ⟨(stps s (xs.take j)).tm, obT j⟩ o y (obT (j + 1))) ∧
    (E.contains (i + j) = false → obT (j + 1) = obT j ∧ ∀ y, x = some y → (FixedP l E (i + j) ∧ VOp C ⟨(stps s (xs.take j)).tm, obT j⟩ o y) ∨ (VOp C ⟨(stps s (xs.take j)).tm, wob⟩ o y ∧ ∀ t, (lk (stps s (xs.take j)).tm t).below wob.length = true)) := by
 induction h with
 | nil i s => exact ⟨[], fun _ => s.ob, rfl, rfl, rfl, fun _ => rfl, fun _ _ => hw0, fun j o x h => by simp at h⟩
 | @same i ops s s1 s' hs hh ih =>
  obtain ⟨xs, obT, h1, h2, h3, h4, h5, h6⟩ := ih (by rw [hs.2]; exact hw0)
  have hst : ∀ ys t, lk (stps s ys).tm t = lk (stps s1 ys).tm t := fun ys => stps_tm ys s s1 fun t => (hs.1 t).symm
  refine ⟨xs, obT, h1, h2.trans hs.2, h3, fun t => (hst xs t).trans (h4 t), h5, fun j o x hj => ?_⟩
  obtain ⟨a1, a2, a3, a4⟩ := h6 j o x hj
  refine ⟨a1, a2.look (hst _), fun he => ?_, fun he => ⟨(a4 he).1, fun y hy => ?_⟩⟩
  ·obtain ⟨y, hy, hv⟩ := a3 he
   exact ⟨y, hy, hv.look (hst _)⟩
  ·rcases (a4 he).2 y hy with ⟨b1, b2⟩ | ⟨b1, b2⟩
   ·exact .inl ⟨b1, b2.look (hst _)⟩
   ·exact .inr ⟨b1.look (hst _), fun t => by rw [hst]; exact b2 t⟩
 | @fix i o rest s s' x hg hd hne hf hv hh ih =>
  obtain ⟨xs, obT, h1, h2, h3, h4, h5, h6⟩ := ih (by rw [St.put_ob]; exact hw0)
  rw [St.put_ob] at h2
  refine ⟨(o, some x) :: xs, fun j => match j with | 0 => s.ob | j + 1 => obT j, by simp [h1], rfl, h3, h4, fun j hj => ?_, fun j o' x' hj => ?_⟩
  ·cases j with
   | zero => exact hw0
   | succ j => exact h5 j (by simpa using hj)
  ·cases j with
   | zero =>
    simp at hj
    obtain ⟨rfl, rfl⟩ := hj
    refine ⟨hd, hg, fun he => ?_, fun _ => ⟨h2, fun y hy => ?_⟩⟩
    ·rw [Nat.add_zero, hne] at he; cases he
    ·cases hy; exact .inl ⟨hf, hv⟩
   | succ j =>
    have := h6 j o' x' (by simpa using hj)
    rw [show i + 1 + j = i + (j + 1) by omega] at this
    exact this
 | @skip i o rest s s' hg hd hne hh ih =>
  obtain ⟨xs, obT, h1, h2, h3, h4, h5, h6⟩ := ih (by rw [St.put_ob]; exact hw0)
  rw [St.put_ob] at h2
  refine ⟨(o, none) :: xs, fun j => match j with | 0 => s.ob | j + 1 => obT j, by simp [h1], rfl, h3, h4, fun j hj => ?_, fun j o' x' hj => ?_⟩
  ·cases j with
   | zero => exact hw0
   | succ j => exact h5 j (by simpa using hj)
  ·cases j with
   | zero =>
    simp at hj
    obtain ⟨rfl, rfl⟩ := hj
    refine ⟨hd, hg, fun he => ?_, fun _ => ⟨h2, fun y hy => ?_⟩⟩
    ·rw [Nat.add_zero, hne] at he; cases he
    ·cases hy
   | succ j =>
    have := h6 j o' x' (by simpa using hj)
    rw [show i + 1 + j = i + (j + 1) by omega] at this
    exact this
 | @weak i o rest s s' x hg hd hne hv hb hh ih =>
  obtain ⟨xs, obT, h1, h2, h3, h4, h5, h6⟩ := ih (by rw [St.put_ob]; exact hw0)
  rw [St.put_ob] at h2
  refine ⟨(o, some x) :: xs, fun j => match j with | 0 => s.ob | j + 1 => obT j, by simp [h1], rfl, h3, h4, fun j hj => ?_, fun j o' x' hj => ?_⟩
  ·cases j with
   | zero => exact hw0
   | succ j => exact h5 j (by simpa using hj)
  ·cases j with
   | zero =>
    simp at hj
    obtain ⟨rfl, rfl⟩ := hj
    refine ⟨hd, hg, fun he => ?_, fun _ => ⟨h2, fun y hy => ?_⟩⟩
    ·rw [Nat.add_zero, hne] at he; cases he
    ·cases hy; exact .inr ⟨hv, hb⟩
   | succ j =>
    have := h6 j o' x' (by simpa using hj)
    rw [show i + 1 + j = i + (j + 1) by omega] at this
    exact this
 | @eff i o rest s s' x ob' hg hd hne hv hw hh ih =>
  obtain ⟨xs, obT, h1, h2, h3, h4, h5, h6⟩ := ih (by rw [St.put_ob]; exact hw)
  rw [St.put_ob] at h2
  have hst : ∀ ys t, lk (stps (s.put o.dst x) ys).tm t = lk (stps ((⟨s.tm, ob'⟩ : St).put o.dst x) ys).tm t := fun ys => stps_tm ys _ _ fun t => by cases o.dst <;> rfl
  refine ⟨(o, some x) :: xs, fun j => match j with | 0 => s.ob | j + 1 => obT j, by simp [h1], rfl, h3, fun t => (hst xs t).trans (h4 t), fun j hj => ?_, fun j o' x' hj => ?_⟩
  ·cases j with
   | zero => exact hw0
   | succ j => exact h5 j (by simpa using hj)
  ·cases j with
   | zero =>
    simp at hj
    obtain ⟨rfl, rfl⟩ := hj
    refine ⟨hd, hg, fun he => ⟨x, rfl, ?_⟩, fun he => ?_⟩
    ·show EOp C ⟨s.tm, s.ob⟩ o x (obT 0)
     rw [h2]; exact hv
    ·rw [Nat.add_zero, hne] at he; cases he
   | succ j =>
    obtain ⟨a1, a2, a3, a4⟩ := h6 j o' x' (by simpa using hj)
    rw [show i + 1 + j = i + (j + 1) by omega] at a3 a4
    refine ⟨a1, a2.look (hst _), fun he => ?_, fun he => ⟨(a4 he).1, fun y hy => ?_⟩⟩
    ·obtain ⟨y, hy, hv'⟩ := a3 he
     exact ⟨y, hy, hv'.look (hst _)⟩
    ·rcases (a4 he).2 y hy with ⟨b1, b2⟩ | ⟨b1, b2⟩
     ·exact .inl ⟨b1, b2.look (hst _)⟩
     ·exact .inr ⟨b1.look (hst _), fun t => by
       have := b2 t
       rw [← hst] at this
       exact this⟩
def RGo (C : Cx) (_id : Nat) (l : List Oper) (E : List Nat) (wob : List AObj) (i : Nat) (ops : List Oper) (s : St) (K : St → Prop) : Prop := ∃ s', RD C l E wob i ops s s' ∧ K s'
theorem SD.obEq {C : Cx} {all : Array Oper} {ops : List Oper} {s s' : St} (h : SD C all true ops s s') : s'.ob = s.ob := by
 obtain ⟨xs, _, h2, _⟩ := h.data
 rw [h2.2, stps_ob]
theorem RD.of_fix_ {C : Cx} {l : List Oper} {E : List Nat} {wob : List AObj} {rest : List Oper} {s' : St} {pu : Bool} {ops : List Oper} {s s1 : St} (h : SD C l.toArray pu ops s s1) : pu = true → ∀ {i : Nat}, (∀ j, j < ops.length → E.contains (i + j) = false ∧ FixedP l E (i + j)) → RD C l E wob (i + ops.length) rest s1 s' → RD C l E wob i (ops ++ rest) s s' := by
 induction h with
 | nil s => exact fun _ _ _ hr => hr
 | @vop o r s s1 x hg hd hv hh ih =>
  intro hpu i hf hr
  refine .fix hg hd (hf 0 (by simp)).1 (hf 0 (by simp)).2 hv (ih hpu (i := i + 1) (fun j hj => ?_) ?_)
  ·rw [show i + 1 + j = i + (j + 1) by omega]; exact hf (j + 1) (by simpa using hj)
  ·rw [show i + 1 + r.length = i + (o :: r).length by simp; omega]; exact hr
 | @skip o r s s1 hg hd hh ih =>
  intro hpu i hf hr
  refine .skip hg hd (hf 0 (by simp)).1 (ih hpu (i := i + 1) (fun j hj => ?_) ?_)
  ·rw [show i + 1 + j = i + (j + 1) by omega]; exact hf (j + 1) (by simpa using hj)
  ·rw [show i + 1 + r.length = i + (o :: r).length by simp; omega]; exact hr
 | eff hp => intro hpu; rw [hpu] at hp; cases hp
 | ghost hp => intro hpu; rw [hpu] at hp; cases hp
 | same hs hh ih => exact fun hpu _ hf hr => .same hs (ih hpu hf hr)
theorem RD.of_fix {C : Cx} {l : List Oper} {E : List Nat} {wob : List AObj} {ops rest : List Oper} {s s1 s' : St} (h : SD C l.toArray true ops s s1) {i : Nat} (hf : ∀ j, j < ops.length → E.contains (i + j) = false ∧ FixedP l E (i + j)) (hr : RD C l E wob (i + ops.length) rest s1 s') : RD C l E wob i (ops ++ rest) s s' :=
 RD.of_fix_ h rfl hf hr
theorem SD.keep {C : Cx} {all : Array Oper} {ops : List Oper} {s s' : St} (h : SD C all true ops s s') {t : Nat} (ht : ∀ o ∈ ops, o.dst ≠ some t) : lk s'.tm t = lk s.tm t := by
 obtain ⟨xs, h1, h2, _⟩ := h.data
 rw [h2.1, lk_stps_other s xs t fun p hp => ht p.1 (by rw [← h1]; exact List.mem_map_of_mem hp)]
def dstND : List Oper → Bool
 | [] => true
 | o :: r => (match o.dst with
  | some d => r.all fun p => match p.dst with | some d' => !Nat.beq d d' | none => true
  | none => true) && dstND r
theorem RD.of_weak_ {C : Cx} {l : List Oper} {E : List Nat} {wob ob : List AObj} {rest : List Oper} {s' : St} {pu : Bool} {ops : List Oper} {s0 s1 : St} (h : SD C l.toArray pu ops s0 s1) : pu = true → dstND ops = true → (∀ t, (lk s1.tm t).below wob.length = true) → s0.ob = wob →
  ∀ {i : Nat}, (∀ t, (lk s0.tm t).below wob.length = true) → (∀ j, j < ops.length → E.contains (i + j) = false) → RD C l E wob (i + ops.length) rest ⟨s1.tm, ob⟩ s' → RD C l E wob i (ops ++ rest) ⟨s0.tm, ob⟩ s' := by
 induction h with
 | nil s => exact fun _ _ _ _ _ _ _ hr => hr
 | @vop o r s s1 x hg hd hv hh ih =>
  intro hpu hnd hb1 hob i hb hf hr
  simp only [dstND, Bool.and_eq_true] at hnd
  have hx : ∀ d, o.dst = some d → x.below wob.length = true := by
   intro d hdd
   have := hb1 d
   subst hpu
   rw [hh.keep (t := d) fun p hp hpd => by
    have h1 := hnd.1
    rw [hdd] at h1
    have h2 := List.all_eq_true.1 h1 p hp
    rw [hpd] at h2
    simp at h2] at this
   rwa [hdd, lk_put_same] at this
  have e : (⟨s.tm, ob⟩ : St).put o.dst x = ⟨(s.put o.dst x).tm, ob⟩ := by cases o.dst <;> rfl
  refine .weak (GuardIs.look hg fun _ => rfl) hd (hf 0 (by simp)) (by rw [← hob]; exact hv) hb ?_
  rw [e]
  refine ih hpu hnd.2 hb1 (by rw [St.put_ob]; exact hob) (i := i + 1) (fun t => ?_) (fun j hj => ?_) ?_
  ·cases hdd : o.dst with
   | none => exact hb t
   | some d =>
    simp only [St.put, lk]
    cases Nat.beq d t
    ·exact hb t
    ·exact hx d hdd
  ·rw [show i + 1 + j = i + (j + 1) by omega]; exact hf (j + 1) (by simpa using hj)
  ·rw [show i + 1 + r.length = i + (o :: r).length by simp; omega]; exact hr
 | @skip o r s s1 hg hd hh ih =>
  intro hpu hnd hb1 hob i hb hf hr
  simp only [dstND, Bool.and_eq_true] at hnd
  have e : (⟨s.tm, ob⟩ : St).put o.dst .und = ⟨(s.put o.dst .und).tm, ob⟩ := by cases o.dst <;> rfl
  refine .skip (GuardIs.look hg fun _ => rfl) hd (hf 0 (by simp)) ?_
  rw [e]
  refine ih hpu hnd.2 hb1 (by rw [St.put_ob]; exact hob) (i := i + 1) (fun t => ?_) (fun j hj => ?_) ?_
  ·cases hdd : o.dst with
   | none => exact hb t
   | some d =>
    simp only [St.put, lk]
    cases Nat.beq d t
    ·exact hb t
    ·rfl
  ·rw [show i + 1 + j = i + (j + 1) by omega]; exact hf (j + 1) (by simpa using hj)
  ·rw [show i + 1 + r.length = i + (o :: r).length by simp; omega]; exact hr
 | eff hp => intro hpu; rw [hpu] at hp; cases hp
 | ghost hp => intro hpu; rw [hpu] at hp; cases hp
 | @same ops s s2 s1 hs hh ih =>
  intro hpu hnd hb1 hob i hb hf hr
  exact .same (s1 := ⟨s2.tm, ob⟩) ⟨hs.1, rfl⟩ (ih hpu hnd hb1 (by rw [hs.2]; exact hob) (fun t => by rw [hs.1]; exact hb t) hf hr)
theorem RD.of_weak {C : Cx} {l : List Oper} {E : List Nat} {wob ob : List AObj} {ops rest : List Oper} {tm : List (Nat × X)} {s1 s' : St} (h : SD C l.toArray true ops ⟨tm, wob⟩ s1) (hnd : dstND ops = true) (hb1 : ∀ t, (lk s1.tm t).below wob.length = true)
  {i : Nat} (hb : ∀ t, (lk tm t).below wob.length = true) (hf : ∀ j, j < ops.length → E.contains (i + j) = false) (hr : RD C l E wob (i + ops.length) rest ⟨s1.tm, ob⟩ s') : RD C l E wob i (ops ++ rest) ⟨tm, ob⟩ s' :=
 RD.of_weak_ (s0 := ⟨tm, wob⟩) h rfl hnd hb1 rfl hb hf hr
def TmB (n : Nat) : List (Nat × X) → Prop
 | [] => True
 | (_, x) :: r => x.below n = true ∧ TmB n r
theorem TmB.lk {n : Nat} : ∀ {tm : List (Nat × X)}, TmB n tm → ∀ t, (lk tm t).below n = true
 | [], _, t => rfl
 | (k, x) :: r, h, t => by
  simp only [Go.Abs.lk]
  cases Nat.beq k t
  ·exact TmB.lk h.2 t
  ·exact h.1
def killT : List Nat → List AObj → List AObj
 | [], ob => ob
 | i :: r, ob => killT r (ob.set i .dead)
section
variable {C : Cx} {r : List It} {Q : Exit → St → Prop} {tm : List (Nat × X)} {ob : List AObj} {id : Nat} {l : List Oper} {E : List Nat} {wob : List AObj} {i : Nat} {ops : List Oper} {K : St → Prop}
theorem qR_ (wob : List AObj) (E : List Nat) (ho : ordOK l = true) (hE : chainB (ancs l) E = true) (hn : C.base.n0 ≤ wob.length) (hw : Wk wob ob)
  (h : RGo C id l E wob 0 l ⟨tm, ob⟩ (fun s' => go C r s' Q)) : go C (.code (.region id l.toArray true) :: r) ⟨tm, ob⟩ Q := by
 intro a w hr
 obtain ⟨s', h1, h2⟩ := h
 obtain ⟨xs, obT, e1, e2, e3, e4, e5, e6⟩ := h1.data hw
 have hlen : xs.length = l.length := by rw [← e1]; simp
 have hget : ∀ i, i < l.length → ∃ o x, xs[i]? = some (o, x) := fun i hi => by
  have : i < xs.length := by omega
  exact ⟨xs[i].1, xs[i].2, List.getElem?_eq_getElem this⟩
 have hfin : ∀ a w, C.Rel ⟨(stps ⟨tm, ob⟩ xs).tm, obT l.length⟩ a w → C.Rel s' a w := by
  intro a w hr
  rw [e3] at hr
  exact StEq.rel (s := ⟨(stps ⟨tm, ob⟩ xs).tm, s'.ob⟩) (s' := s') ⟨fun t => (e4 t).symm, rfl⟩ hr
 refine wp_region_any C.E.hM ?_
 refine Dr.all (s := ⟨tm, ob⟩) (xs := xs) (obT := obT) (eff := fun i => E.contains i) e1 (ordOK_spec ho) (fun i hi he => ?_) (fun i j hij hj h3 h4 => ?_) (fun i o x hi => ⟨(e6 i o x hi).1, (e6 i o x hi).2.1⟩) (fun i o x he hi y hy => ?_) (fun i o x he hi => ?_) (fun a w hr => ⟨s', hfin a w hr, h2⟩) _ _ _ _ ?_ ⟨by simp, fun j o' ed ho' hL => ?_, tm, 0, Nat.zero_le _, fun i hi => by omega, fun i _ hi _ => ?_, ?_, fun t _ => rfl, fun j o' x t hj hL => ?_⟩
 ·obtain ⟨o, x, hx⟩ := hget i hi
  exact ((e6 i o x hx).2.2.2 (by rw [Nat.zero_add]; exact he)).1
 ·exact (fixedB_ok (List.all_eq_true.1 hE j (by simpa using h4)) i h3).1 hij
 ·rcases ((e6 i o x hi).2.2.2 (by rw [Nat.zero_add]; exact he)).2 y hy with ⟨h3, h4⟩ | ⟨h3, h4⟩
  ·rw [Nat.zero_add] at h3
   exact .inl ⟨fun e _ he' => h3 e he', h4⟩
  ·exact .inr fun k hk => h3.wk (e5 k hk) hn h4
 ·exact (e6 i o x hi).2.2.1 (by rw [Nat.zero_add]; exact he)
 ·refine Nat.le_trans (List.length_filter_le _ _) ?_
  simp
 ·exfalso
  by_cases hlt : j < l.length <;> simp [hlt] at hL
 ·rw [Array.getD_eq_getD_getElem?, Array.getElem?_replicate]
  split <;> rfl
 ·rw [e2]
  obtain ⟨F, σ, r1, r2, r3, hi, r4, r5, hs⟩ := hr
  have hext : Ext w F { w with drawn := w.drawn + 1 } F := ⟨⟨rfl, rfl, rfl, Nat.le_refl _, fun _ _ => rfl⟩, fun _ h => h, fun _ h => .inl h, hi.flt⟩
  exact ⟨F, σ, r1.step hext.below, r2, r3, hi.ext hext, r4, r5, fun t => (hs t).ext hext hi.flt⟩
 ·exfalso
  by_cases hlt : j < l.length <;> simp [hlt] at hL
theorem qR (wob : List AObj) (E : List Nat) (T : List Nat) (ho : ordOK l = true) (hE : chainB (ancs l) E = true) (_hwob : killT T ob = wob) (hn : Nat.ble C.base.n0 wob.length = true) (hw : wkP wob.length wob ob)
  (h : RGo C id l E wob 0 l ⟨tm, ob⟩ (fun s' => go C r s' Q)) : go C (.code (.region id l.toArray true) :: r) ⟨tm, ob⟩ Q := qR_ wob E ho hE (Nat.le_of_ble_eq_true hn) (Wk.mk' hw) h
theorem qR0 (E : List Nat) (ho : ordOK l = true) (hE : chainB (ancs l) E = true) (hw : wkP (List.replicate C.base.n0 AObj.dead).length (List.replicate C.base.n0 AObj.dead) ob)
  (h : RGo C id l E (List.replicate C.base.n0 AObj.dead) 0 l ⟨tm, ob⟩ (fun s' => go C r s' Q)) : go C (.code (.region id l.toArray true) :: r) ⟨tm, ob⟩ Q := by
 have hn : C.base.n0 ≤ (List.replicate C.base.n0 AObj.dead).length := by simp
 intro a w hr
 obtain ⟨s', h1, h2⟩ := h
 refine qR_ _ E ho hE hn (Wk.mk' hw) ⟨s', h1, h2⟩ a w hr
theorem qRT (E T : List Nat) (ho : ordOK l = true) (hE : chainB (ancs l) E = true) (hn : Nat.ble C.base.n0 (killT T ob).length = true) (hw : wkP (killT T ob).length (killT T ob) ob)
  (h : RGo C id l E (killT T ob) 0 l ⟨tm, ob⟩ (fun s' => go C r s' Q)) : go C (.code (.region id l.toArray true) :: r) ⟨tm, ob⟩ Q := qR _ E T ho hE rfl hn hw h
theorem rgN (h : K ⟨tm, ob⟩) : RGo C id l E wob i [] ⟨tm, ob⟩ K := ⟨_, .nil _ _, h⟩
def rgFB (l : List Oper) (E : List Nat) (i n : Nat) : Bool := (List.range n).all fun j => fixedB (ancs l) E (i + j) && !E.contains (i + j)
def rgWB (E : List Nat) (i n : Nat) : Bool := (List.range n).all fun j => !E.contains (i + j)
theorem rgF (n : Nat) (hc : rgFB l E i n = true) (hn : Nat.ble n ops.length = true) (h : SGo C l.toArray true (ops.take n) ⟨tm, ob⟩ (fun s1 => RGo C id l E wob (i + n) (ops.drop n) ⟨s1.tm, ob⟩ K)) : RGo C id l E wob i ops ⟨tm, ob⟩ K := by
 obtain ⟨s1, h1, s', h2, h3⟩ := h
 have hlen : (ops.take n).length = n := by rw [List.length_take]; have := Nat.le_of_ble_eq_true hn; omega
 have e : s1 = ⟨s1.tm, ob⟩ := by have := h1.obEq; cases s1; simp at this; rw [this]
 refine ⟨s', ?_, h3⟩
 rw [← List.take_append_drop n ops]
 rw [← e] at h2
 refine RD.of_fix h1 (fun j hj => ?_) (by rw [hlen]; exact h2)
 have := List.all_eq_true.1 hc j (by rw [List.mem_range]; omega)
 rw [Bool.and_eq_true] at this
 exact ⟨by simpa using this.2, fixedB_ok this.1⟩
theorem rgW (n : Nat) (hc : rgWB E i n = true) (hn : Nat.ble n ops.length = true) (hnd : dstND (ops.take n) = true) (hb : TmB wob.length tm) (h : SGo C l.toArray true (ops.take n) ⟨tm, wob⟩ (fun s1 => TmB wob.length s1.tm ∧ RGo C id l E wob (i + n) (ops.drop n) ⟨s1.tm, ob⟩ K)) : RGo C id l E wob i ops ⟨tm, ob⟩ K := by
 obtain ⟨s1, h1, hb1, s', h2, h3⟩ := h
 have hlen : (ops.take n).length = n := by rw [List.length_take]; have := Nat.le_of_ble_eq_true hn; omega
 refine ⟨s', ?_, h3⟩
 rw [← List.take_append_drop n ops]
 refine RD.of_weak h1 hnd (fun t => hb1.lk t) (fun t => hb.lk t) (fun j hj => ?_) (by rw [hlen]; exact h2)
 have := List.all_eq_true.1 hc j (by rw [List.mem_range]; omega)
 simpa using this
theorem rgX {o : Oper} {rest : List Oper} {x : X} {ob' : List AObj} (hne : E.contains i = true) (hg : guardX l.toArray tm o = some true) (hd : dstOK C o = true) (hv : EOp C ⟨tm, ob⟩ o x ob') (hw : wkP wob.length wob ob') (h : RGo C id l E wob (i + 1) rest ((⟨tm, ob'⟩ : St).put o.dst x) K) : RGo C id l E wob i (o :: rest) ⟨tm, ob⟩ K :=
 let ⟨s', h1, h2⟩ := h; ⟨s', .eff (guardX_ok hg) hd hne hv (Wk.mk' hw) h1, h2⟩
end
theorem Dats.look {E : Env} {tm tm' : List (Nat × X)} {ob : List AObj} {args : List Operand} {ds : List D} (h : Dats ⟨tm, ob⟩ E args ds) (he : ∀ z ∈ args, (⟨tm', ob⟩ : St).ev E z = (⟨tm, ob⟩ : St).ev E z) : Dats ⟨tm', ob⟩ E args ds := by
 induction h with
 | nil => exact .nil
 | cons h _ ih => exact .cons (by rw [he _ (by simp)]; exact h) (ih fun z hz => he z (by simp [hz]))
section
variable {C : Cx} {tm : List (Nat × X)} {ob : List AObj} {id : Nat} {l : List Oper} {E : List Nat} {wob : List AObj} {i : Nat} {rest : List Oper} {K : St → Prop} {o : Oper} {d : Nat} {p : Prop} {x : X}
theorem fw_same {y x : X} {p : Prop} (h : fw y = some (p, x)) : y = x := (fw_eq h).symm
theorem rgStore {t ty : TypeId} {y z : Operand} {j off : Nat} {c : VC} {e : TE} (hne : E.contains i = true) (ho : o.op = .store t y z) (hg : guardX l.toArray tm o = some true) (hdst : o.dst = none) (hy : (⟨tm, ob⟩ : St).ev C.E y = .ptr j off) (hz : fw ((⟨tm, ob⟩ : St).ev C.E z) = some (p, x)) (hh : x.held = true) (hob : ob[j]? = some (.var ty c))
  (he : findT C.E.T t = some e) (hsz : Nat.beq x.cells.length e.size = true) (hle : Nat.ble (off + x.cells.length) c.cells.length = true) (hw : wkP wob.length wob (ob.set j (.var ty (storeC c off x)))) (h : RGo C id l E wob (i + 1) rest ⟨tm, ob.set j (.var ty (storeC c off x))⟩ K) : RGo C id l E wob i (o :: rest) ⟨tm, ob⟩ K := by
 refine rgX (x := .und) (ob' := ob.set j (.var ty (storeC c off x))) hne hg (by simp only [dstOK, hdst]) (fun tm' hev => ?_) hw (by rw [hdst]; exact h)
 rw [hdst]
 have e1 := hev y (by simp [ho, Op.operands])
 have e2 := hev z (by simp [ho, Op.operands])
 exact s_store (s := ⟨tm', ob⟩) ho hdst (e1.trans hy) (e2.trans (fw_same hz)) hh hob he hsz hle
theorem rgAlloc {t : TypeId} {e : TE} (hne : E.contains i = true) (ho : o.op = .alloc t) (hg : guardX l.toArray tm o = some true) (hdst : o.dst = some d) (hd : Nat.blt d C.N = true) (he : findT C.E.T t = some e) (h1z : oneAll e.zero.cells.toList = true)
  (hw : wkP wob.length wob (ob ++ [.var t (.cs (e.zero.cells.toList.map ofConst))])) (h : RGo C id l E wob (i + 1) rest ⟨(d, .ptr ob.length 0) :: tm, ob ++ [.var t (.cs (e.zero.cells.toList.map ofConst))]⟩ K) : RGo C id l E wob i (o :: rest) ⟨tm, ob⟩ K := by
 have hdk : dstOK C o = true := by simp only [dstOK, hdst]; exact hd
 refine rgX (x := .ptr ob.length 0) (ob' := ob ++ [.var t (.cs (e.zero.cells.toList.map ofConst))]) hne hg hdk (fun tm' hev => ?_) hw (by rw [hdst]; exact h)
 exact s_alloc (s := ⟨tm', ob⟩) ho he h1z hdk
theorem rgBox {t : TypeId} {y : Operand} (hne : E.contains i = true) (ho : o.op = .box t y) (hg : guardX l.toArray tm o = some true) (hdst : o.dst = some d) (hd : Nat.blt d C.N = true) (hx : fw ((⟨tm, ob⟩ : St).ev C.E y) = some (p, x)) (hh : x.held = true)
  (hw : wkP wob.length wob (ob ++ [.var t (.w x)])) (h : RGo C id l E wob (i + 1) rest ⟨(d, .ptr ob.length 0) :: tm, ob ++ [.var t (.w x)]⟩ K) : RGo C id l E wob i (o :: rest) ⟨tm, ob⟩ K := by
 have hdk : dstOK C o = true := by simp only [dstOK, hdst]; exact hd
 refine rgX (x := .ptr ob.length 0) (ob' := ob ++ [.var t (.w x)]) hne hg hdk (fun tm' hev => ?_) hw (by rw [hdst]; exact h)
 exact s_box (s := ⟨tm', ob⟩) ho ((hev y (by simp [ho, Op.operands])).trans (fw_same hx)) hh hdk
theorem rgStoreP {t te : TypeId} {y z : Operand} {k j off size : Nat} {xs : List D} {e : D} {tt : TE} (d0 : D) (hne : E.contains i = true) (ho : o.op = .store t y z) (hg : guardX l.toArray tm o = some true) (hdst : o.dst = none) (hy : (⟨tm, ob⟩ : St).ev C.E y = .pel k j off size) (hz : toD ((⟨tm, ob⟩ : St).ev C.E z) = some e)
  (hob : ob[k]? = some (.row te size xs)) (hd : xs[j]? = some d0) (he : findT C.E.T t = some tt) (hsz : Nat.beq e.cells.length tt.size = true) (hle : Nat.ble (off + e.cells.length) d0.cells.length = true) (hw : wkP wob.length wob (ob.set k (.row te size (xs.set j (subD d0 off e)))))
  (h : RGo C id l E wob (i + 1) rest ⟨tm, ob.set k (.row te size (xs.set j (subD d0 off e)))⟩ K) : RGo C id l E wob i (o :: rest) ⟨tm, ob⟩ K := by
 refine rgX (x := .und) (ob' := ob.set k (.row te size (xs.set j (subD d0 off e)))) hne hg (by simp only [dstOK, hdst]) (fun tm' hev => ?_) hw (by rw [hdst]; exact h)
 rw [hdst]
 have e1 := hev y (by simp [ho, Op.operands])
 have e2 := hev z (by simp [ho, Op.operands])
 exact s_storeP (s := ⟨tm', ob⟩) ho hdst (e1.trans hy) ((congrArg toD e2).trans hz) hob hd he hsz hle
theorem sop2_look {tm2 tm' : List (Nat × X)} {ob' : List AObj} (h : sop2 C o tm ob = some (p, tm', ob')) (he : ∀ z ∈ o.op.operands.toList, (⟨tm2, ob⟩ : St).ev C.E z = (⟨tm, ob⟩ : St).ev C.E z) :
  ∃ d x, o.dst = some d ∧ tm' = (d, x) :: tm ∧ sop2 C o tm2 ob = some (p, (d, x) :: tm2, ob') := by
 unfold sop2 at h ⊢
 split at h
 ·rename_i t y z ho
  have e1 := he y (by simp [ho, Op.operands])
  have e2 := he z (by simp [ho, Op.operands])
  simp only [ho] at *
  split at h
  ·rename_i d te ky n kz m hdst hte hy hz
   rw [hdst, hte, e1, e2, hy, hz]
   try simp only
   split at h
   ·rename_i zd hzd
    cases hb : Nat.blt d C.N && (oneAll te.zero.cells.toList && Nat.beq te.zero.cells.size te.size) with
    | false => rw [hb] at h; cases h
    | true =>
     rw [hb] at h
     simp only [cond_true, Option.some.injEq, Prod.mk.injEq] at h
     obtain ⟨rfl, rfl, rfl⟩ := h
     exact ⟨_, _, rfl, rfl, rfl⟩
   ·cases h
  ·cases h
 ·rename_i c ho
  obtain ⟨ce, args, tys⟩ := c
  obtain ⟨args⟩ := args
  obtain ⟨tys⟩ := tys
  simp only [ho] at *
  split at h
  ·split at h
   ·rename_i d y z t t' hdst
    have e1 := he y (by simp [Op.operands, Call.operands])
    have e2 := he z (by simp [Op.operands, Call.operands])
    rw [hdst]
    try simp only
    split at h
    ·rename_i te ys hte hz
     rw [hte, e1, e2, hz]
     try simp only
     split at h
     ·rename_i oi xs hown
      cases hb : Nat.blt d C.N && (Nat.beq t t' && (Nat.beq te.zero.cells.size te.size && Nat.blt 0 te.size)) with
      | false => rw [hb] at h; cases h
      | true =>
       rw [hb] at h
       simp only [cond_true, Option.some.injEq, Prod.mk.injEq] at h
       obtain ⟨rfl, rfl, rfl⟩ := h
       exact ⟨_, _, rfl, rfl, rfl⟩
     ·cases h
    ·cases h
   ·cases h
  ·cases h
 ·cases h
theorem rgS {tm' : List (Nat × X)} {ob' : List AObj} (hne : E.contains i = true) (hg : guardX l.toArray tm o = some true) (hd : dstOK C o = true) (hs : sop2 C o tm ob = some (p, tm', ob')) (hp : p) (hw : wkP wob.length wob ob') (h : RGo C id l E wob (i + 1) rest ⟨tm', ob'⟩ K) : RGo C id l E wob i (o :: rest) ⟨tm, ob⟩ K := by
 obtain ⟨d, x, hdst, rfl, -⟩ := sop2_look (tm2 := tm) hs fun _ _ => rfl
 refine rgX (x := x) (ob' := ob') hne hg hd (fun tm2 hev => ?_) hw (by rw [hdst]; exact h)
 obtain ⟨d', x', hdst', e, h2⟩ := sop2_look (tm2 := tm2) hs hev
 rw [hdst] at hdst'
 cases hdst'
 cases e
 rw [hdst]
 exact sop2_ok h2 hp
end
end Go.Abs
namespace Go.Abs
open Go Go.RowKit
theorem WInv.ren2 {E : Env} {B : Base} {F : Nat → Prop} {σ : Sg} {ob ob' : List AObj} {w : World} (hi : WInv E B F σ ob w) (ks : List Nat) (hn : nodupB ks = true) (hob : renObs ks ob ks = some ob') : WInv E ⟨B.O, 0, []⟩ F (ks.map fun k => σ.getD k (0, 0, 0)) ob' w := by
 obtain ⟨r1, r2, r3, hi1⟩ := hi.ren ks hn hob
 refine ⟨hi1.flt, hi1.glob, hi1.len, fun o x p hx hp => ?_, hi1.inj, fun i p h => absurd h (Nat.not_lt_zero _)⟩
 refine (hi1.obs o x p hx hp).own fun hl => ?_
 obtain ⟨k, y, g1, g2, g3⟩ := r3 o x hx
 rw [(r1 o k g1).2] at hp
 exact ((hi.obs k y p g2 hp).notO (by rw [g3]; exact hl)).1
def ResD (C : Cx) (fn : Func) (s : St) (rx : X) : Prop := (∃ q d, fn.results = #[q] ∧ resX C s q = some d ∧ rx = .d d) ∨ ∃ q q' d d', fn.results = #[q, q'] ∧ resX C s q = some d ∧ resX C s q' = some d' ∧ rx = .tup [d, d']
theorem ResD.run {C : Cx} {fn : Func} {s : St} {rx : X} {F : Nat → Prop} {σ σ' : Sg} {w : World} {a : Act} (h : ResD C fn s rx) (hi : WInv C.E C.base F σ s.ob w) (hs : ∀ t, RdX w F σ (lk s.tm t) (a.tmps.getD t undef)) :
  ∃ v, (results fn a.tmps).run C.E.P w = .ok v w ∧ RdX w F σ' rx v := by
 rcases h with ⟨q, d, hr, h, rfl⟩ | ⟨q, q', d, d', hr, h, h', rfl⟩
 ·obtain ⟨v, h1, h2⟩ := resX_run hi hs h
  exact ⟨v, by rw [results_eq, hr]; simp [h1], h2⟩
 ·obtain ⟨v, h1, h2⟩ := resX_run hi hs h
  obtain ⟨v', h1', h2'⟩ := resX_run hi hs h'
  refine ⟨.tuple #[v, v'], by rw [results_eq, hr]; simp [h1, h1'], [v, v'], rfl, rfl, fun i x u hx hu => ?_⟩
  match i with
  | 0 => simp at hx hu; subst hx hu; exact h2
  | 1 => simp at hx hu; subst hx hu; exact h2'
  | i + 2 => simp at hx
def EndSD (C : Cx) (fn : Func) (rx : X) (ob' : List AObj) : Exit → St → Prop
 | .ret, s | .normal, s => ResD C fn s rx ∧ ∃ ks, nodupB ks = true ∧ ((List.range C.base.n0).all fun i => ks[i]? == some i) = true ∧ renObs ks s.ob ks = some ob'
 | _, _ => False
theorem EvS.enterD {E : Env} {f : FuncId} {fn : Func} {c : Code} {xs : List X} {ob ob' : List AObj} {rx : X} {N : Nat} (hf : E.P.funcs[f]? = some fn) (hN : fn.ntmps = N) (hb : fn.body = some c) (hle : Nat.ble xs.length N = true)
  (h : ∀ (w0 : World) (F0 O : Nat → Prop) (σ0 : Sg), go ⟨E, w0, F0, N, ⟨O, ob.length, σ0⟩⟩ [.code c] ⟨(List.range xs.length).zip xs, ob⟩ (EndSD ⟨E, w0, F0, N, ⟨O, ob.length, σ0⟩⟩ fn rx ob')) : EvS E f xs ob rx ob' := by
 intro w F σ vs hi hl hr
 refine calls_of_wp hf hb ?_
 have hgo := h w F (Held w ob σ) σ
 have hlook : ∀ t, RdX w F σ (lk ((List.range xs.length).zip xs) t) ((vs.toArray ++ Array.replicate (fn.ntmps - vs.toArray.size) undef).getD t undef) := by
  intro t
  have key : ∀ (k : Nat) (l : List X), (∀ (i : Nat) d, l[i]? = some d → xs[k + i]? = some d) → RdX w F σ (lk ((List.range' k l.length).zip l) t) ((vs.toArray ++ Array.replicate (fn.ntmps - vs.toArray.size) undef).getD t undef) := by
   intro k l
   induction l generalizing k with
   | nil => intro _; trivial
   | cons d l ih =>
    intro hk
    simp only [List.length_cons, List.range'_succ, List.zip_cons_cons, lk]
    cases hbq : Nat.beq k t with
    | true =>
     obtain rfl := Nat.eq_of_beq_eq_true hbq
     have hd : xs[k]? = some d := by simpa using hk 0 d rfl
     have hlt : k < vs.length := by rw [hl]; exact (List.getElem?_eq_some_iff.1 hd).1
     have e : (vs.toArray ++ Array.replicate (fn.ntmps - vs.toArray.size) undef).getD k undef = vs[k] := by
      simp [Array.getElem?_append, hlt]
     rw [e]
     exact hr k d _ hd (List.getElem?_eq_getElem hlt)
    | false =>
     refine ih (k + 1) fun i d' hi => ?_
     have := hk (i + 1) d' (by simpa using hi)
     rw [← this]
     congr 1
     omega
  have := key 0 xs fun i d hd => by simpa using hd
  rwa [← List.range_eq_range'] at this
 have hle' : xs.length ≤ N := Nat.le_of_ble_eq_true hle
 have hrel : Cx.Rel ⟨E, w, F, N, ⟨Held w ob σ, ob.length, σ⟩⟩ ⟨(List.range xs.length).zip xs, ob⟩ { tmps := vs.toArray ++ Array.replicate (fn.ntmps - vs.toArray.size) undef, defers := [] } w := by
  refine ⟨F, σ, Kept.refl (fun _ h => h.1), fun _ h => h, fun _ h => .inl h, ⟨hi.flt, hi.glob, hi.len, fun k x p hx hp => (hi.obs k x p hx hp).own fun hl ho => ho.2 ⟨k, x, p, hx, hl, hp, rfl⟩, hi.inj, fun i p _ hp => hp⟩, rfl, ?_, hlook⟩
  simp [hN, hl]
  omega
 refine wp_mono (hgo _ w hrel) ?_
 rintro e a' w' ⟨s', hrel', hq⟩
 have fin : (ResD ⟨E, w, F, N, ⟨Held w ob σ, ob.length, σ⟩⟩ fn s' rx ∧ ∃ ks, nodupB ks = true ∧ ((List.range ob.length).all fun i => ks[i]? == some i) = true ∧ renObs ks s'.ob ks = some ob') → a'.defers = [] ∧ ∃ v, (results fn a'.tmps).run E.P w' = .ok v w' ∧
   ∃ v_1 F' σ', Ending.returned v = .returned v_1 ∧ Kept (Held w ob σ) w w' ∧ (∀ b, F b → F' b) ∧ (∀ b, F' b → F b ∨ ¬ Held w ob σ b) ∧ (∀ (i : Nat) p, i < ob.length → σ[i]? = some p → σ'[i]? = some p) ∧ WInv E ⟨Held w ob σ, 0, []⟩ F' σ' ob' w' ∧ RdX w' F' σ' rx v_1 := by
  rintro ⟨hres, ks, hn, hk0, hob'⟩
  obtain ⟨F', σ', h1, h2, h3, hi', h4, h5, hs⟩ := hrel'
  obtain ⟨v, v1, v2⟩ := hres.run (σ' := ks.map fun k => σ'.getD k (0, 0, 0)) hi' hs
  refine ⟨h4, v, v1, v, F', _, rfl, h1, h2, h3, fun i p hlt hp => ?_, hi'.ren2 ks hn hob', v2⟩
  have hk := List.all_eq_true.1 hk0 i (List.mem_range.2 hlt)
  have hk' : ks[i]? = some i := by simpa using hk
  rw [((hi'.ren ks hn hob').1 i i hk').2]
  exact hi'.pre i p hlt hp
 cases e with
 | normal => exact fin hq
 | ret => exact fin hq
 | _ => exact hq.elim
section
variable {C : Cx} {r : List It} {fn : Func} {tm : List (Nat × X)} {ob ob' : List AObj}
theorem retD1 (ks : List Nat) {q : ResultVar} {d d' : D} (hn : nodupB ks = true) (hk0 : ((List.range C.base.n0).all fun i => ks[i]? == some i) = true) (hob : renObs ks ob ks = some ob') (hr : fn.results = #[q]) (h : resX C ⟨tm, ob⟩ q = some d) (he : d = d') :
  go C (.code .ret :: r) ⟨tm, ob⟩ (EndSD C fn (.d d') ob') := go_ret_ ⟨.inl ⟨q, d, hr, h, by rw [he]⟩, ks, hn, hk0, hob⟩
theorem retD2 (ks : List Nat) {q q' : ResultVar} {d d' : D} {l : List D} (hn : nodupB ks = true) (hk0 : ((List.range C.base.n0).all fun i => ks[i]? == some i) = true) (hob : renObs ks ob ks = some ob') (hr : fn.results = #[q, q']) (h : resX C ⟨tm, ob⟩ q = some d) (h' : resX C ⟨tm, ob⟩ q' = some d') (he : [d, d'] = l) :
  go C (.code .ret :: r) ⟨tm, ob⟩ (EndSD C fn (.tup l) ob') := go_ret_ ⟨.inr ⟨q, q', d, d', hr, h, h', by rw [he]⟩, ks, hn, hk0, hob⟩
end
section
variable {C : Cx} {tm : List (Nat × X)} {ob : List AObj} {id : Nat} {l : List Oper} {E : List Nat} {wob : List AObj} {i : Nat} {rest : List Oper} {K : St → Prop} {o : Oper} {d : Nat}
theorem rgCallS (sel : List Nat) {y : Operand} {args : List Operand} {tys : Array TypeId} {f : FuncId} {cs xs : List X} {ob1 ob1' ob2 : List AObj} {rx x2 : X} (hne : E.contains i = true) (ho : o.op = .call { callee := .value y, args := args.toArray, argTypes := tys }) (hg : guardX l.toArray tm o = some true) (hdst : o.dst = some d)
  (hd : Nat.blt d C.N = true) (hf : FnX ((⟨tm, ob⟩ : St).ev C.E y) f cs) (hb : HasBody C.E f) (h0 : EvS C.E f xs ob1 rx ob1') (hn : nodupB sel = true) (hob : renObs sel ob sel = some ob1) (hx : renL sel (args.map (fun z => nrm ((⟨tm, ob⟩ : St).ev C.E z)) ++ cs) = some xs)
  (hob2 : backL (bk sel ob.length) sel ob1' ob = ob2) (hx2 : bkX (bk sel ob.length) rx = x2) (hw : wkP wob.length wob ob2) (h : RGo C id l E wob (i + 1) rest ⟨(d, x2) :: tm, ob2⟩ K) : RGo C id l E wob i (o :: rest) ⟨tm, ob⟩ K := by
 subst hob2 hx2
 have hdk : dstOK C o = true := by simp only [dstOK, hdst]; exact hd
 refine rgX (x := bkX (bk sel ob.length) rx) (ob' := backL (bk sel ob.length) sel ob1' ob) hne hg hdk (fun tm' hev => ?_) hw (by rw [hdst]; exact h)
 have hm : ∀ z, z = y ∨ z ∈ args → (⟨tm', ob⟩ : St).ev C.E z = (⟨tm, ob⟩ : St).ev C.E z := by
  intro z hz
  refine hev z ?_
  rcases hz with rfl | hz <;> simp [ho, Op.operands, Call.operands, *]
 refine s_callS (s := ⟨tm', ob⟩) ho (by rw [hm y (.inl rfl)]; exact hf) hb hn hob ?_ h0 hdk
 rw [← hx]
 congr 2
 exact List.map_congr_left fun z hz => by rw [hm z (.inr hz)]
end
end Go.Abs
namespace Go.Abs
open Go Go.RowKit
def rowK (k : Nat) : List D → X
 | [] => .nilS
 | _ :: _ => .own k
theorem frzX_below {k : Nat} {xs : List D} {x : X} (h : x.below k = true) : frzX k xs x = x := by
  cases x with
  | own i =>
    have : ¬ i = k := by have : i < k := by simpa [X.below] using h
                         omega
    simp only [frzX]
    rw [show Nat.beq i k = false by rw [← Bool.not_eq_true]; exact fun e => this (Nat.eq_of_beq_eq_true e)]
    rfl
  | pel i j off z =>
    have : ¬ i = k := by have : i < k := by simpa [X.below] using h
                         omega
    simp only [frzX]
    rw [show Nat.beq i k = false by rw [← Bool.not_eq_true]; exact fun e => this (Nat.eq_of_beq_eq_true e)]
    rfl
  | sub i j off z =>
    have : ¬ i = k := by have : i < k := by simpa [X.below] using h
                         omega
    simp only [frzX]
    rw [show Nat.beq i k = false by rw [← Bool.not_eq_true]; exact fun e => this (Nat.eq_of_beq_eq_true e)]
    rfl
  | st cs =>
    simp only [frzX]
    congr 1
    have : ∀ c ∈ cs, frzP k xs c = c := fun c hc => by
      have h1 := List.all_eq_true.1 h c hc
      cases c with
      | own i =>
        have : ¬ i = k := by have : i < k := by simpa using h1
                             omega
        simp only [frzP]
        rw [show Nat.beq i k = false by rw [← Bool.not_eq_true]; exact fun e => this (Nat.eq_of_beq_eq_true e)]
        rfl
      | _ => rfl
    rw [List.map_congr_left this]
    simp
  | _ => rfl
theorem frzO_below {k : Nat} {xs : List D} {x : AObj} (h : x.below k = true) : frzO k xs x = x := by
 cases x with
 | var t c =>
  simp only [frzO]
  congr 1
  cases c with
  | w y =>
   simp only [frzC]
   congr 1
   cases y with
   | d d => rfl
   | _ => exact frzX_below (List.all_eq_true.1 h _ (by simp [VC.cells, X.cells]))
  | cs l =>
   simp only [frzC]
   congr 1
   have : ∀ y ∈ l, frzX k xs y = y := fun y hy => frzX_below (List.all_eq_true.1 h y hy)
   rw [List.map_congr_left this]
   simp
 | _ => rfl
theorem Le.rowD {C : Cx} {t k : Nat} {te : TypeId} {size : Nat} {ys : List D} {tm : List (Nat × X)} {ob : List AObj} (hk : ob.length = k) (h0 : C.base.n0 ≤ k) (hT : ∀ u, (lk tm u).below k = true) (hO : ∀ x ∈ ob, x.below k = true) :
  Le C ⟨(t, rowK k ys) :: tm, ob ++ rowO te size ys⟩ ⟨(t, .d (.sl ys)) :: tm, ob⟩ := by
 intro a w hr
 cases ys with
 | nil =>
  obtain ⟨F, σ, h1, h2, h3, hi, h4, h5, hs⟩ := hr
  refine ⟨F, σ, h1, h2, h3, by simpa [rowO] using hi, h4, h5, fun u => ?_⟩
  have := hs u
  simp only [lk] at this ⊢
  cases hb : Nat.beq t u with
  | true =>
   rw [hb] at this
   have hv : a.tmps.getD u undef = .slice none 0 0 := this
   rw [hv]
   exact Rd.slnil
  | false => rw [hb] at this; exact this
 | cons y ys =>
  simp only [rowK, rowO] at hr
  have hob : (ob ++ [AObj.row te size (y :: ys)])[k]? = some (.row te size (y :: ys)) := by rw [← hk]; simp
  have hf : frz k ⟨(t, .own k) :: tm, ob ++ [AObj.row te size (y :: ys)]⟩ = some ⟨frzT k (y :: ys) ((t, .own k) :: tm), ((ob ++ [AObj.row te size (y :: ys)]).map (frzO k (y :: ys))).set k .dead⟩ := by
   unfold frz
   simp only [hob]
  obtain ⟨F, σ, h1, h2, h3, hi, h4, h5, hs⟩ := frz_le k hf a w hr
  have hwk : Wk ob (((ob ++ [AObj.row te size (y :: ys)]).map (frzO k (y :: ys))).set k .dead) := by
   refine ⟨by simp, fun i x hx _ => ?_⟩
   have hlt : i < k := by rw [← hk]; exact (List.getElem?_eq_some_iff.1 hx).1
   have hm := List.mem_of_getElem? hx
   refine ⟨?_, by rw [hk]; exact hO x hm⟩
   rw [List.getElem?_set_ne (by omega), List.getElem?_map, List.getElem?_append_left (by omega), hx, Option.map_some, frzO_below (hO x hm)]
  refine ⟨F, σ.take ob.length, h1, h2, h3, hi.wk hwk (by omega), h4, h5, fun u => ?_⟩
  have := hs u
  rw [lk_frz] at this
  simp only [lk] at this ⊢
  cases hb : Nat.beq t u with
  | true =>
   rw [hb] at this
   simp only [cond_true, frzX] at this
   rw [show Nat.beq k k = true by simp] at this
   exact this
  | false =>
   rw [hb] at this
   simp only [cond_false] at this ⊢
   rw [frzX_below (hT u)] at this
   rw [hk]
   exact this.take (hT u)
section
variable {C : Cx} {r : List It} {Q : Exit → St → Prop} {tm : List (Nat × X)} {ob : List AObj}
end
end Go.Abs
namespace Go.Abs
open Go Go.RowKit Go.ChangeShapes Go.WideShapes
end Go.Abs
namespace Go.Abs
open Go
section
variable {C : Cx} {all : Array Oper} {pu : Bool} {K : St → Prop} {rest : List Oper} {o : Oper} {tm tm' : List (Nat × X)} {ob ob' : List AObj} {r : List It} {s : St} {Q : Exit → St → Prop}
theorem zS {p : Prop} (hv : stepY C all pu o tm ob = some (p, tm', ob')) (h : SGo C all pu rest ⟨tm', ob'⟩ K)
  (hp : p := by first | exact True.intro | rfl | assumption | omega | (simp only [inR]; omega) | ((show _ ≤ (9223372036854775807 : Nat)); (try simp only [ByteArray.size_append]); omega) | exact tmod_ok (by omega) (by omega) | exact tdiv_ok (by omega) (by omega) | exact ⟨rfl, by decide, by decide⟩) :
  SGo C all pu (o :: rest) ⟨tm, ob⟩ K := qS hv hp h
theorem zT {c : Operand} {x y : Code} {b : Bool} (hc : s.ev C.E c = .d (.imm (.bool b))) (ht : go C (.code x :: r) s Q) (hb : b = true := by first | rfl | assumption) : go C (.code (.cond c x y) :: r) s Q := qT hc hb ht
theorem zU {c : Operand} {x y : Code} {b : Bool} (hc : s.ev C.E c = .d (.imm (.bool b))) (hf : go C (.code y :: r) s Q) (hb : b = false := by first | rfl | assumption) : go C (.code (.cond c x y) :: r) s Q := qU hc hb hf
theorem zX {j t : Nat} {pol b : Bool} {q : Oper} (hg : o.guard = some (j, pol)) (hj : all[j]? = some q) (hq : q.dst = some t) (hb : lk tm t = .d (.imm (.bool b)))
  (h : SGo C all pu (o :: rest) ⟨(t, .d (.imm (.bool true))) :: tm, ob⟩ K) (he : b = true := by assumption) : SGo C all pu (o :: rest) ⟨tm, ob⟩ K := qX hg hj hq hb he h
theorem zW {j t : Nat} {pol b : Bool} {q : Oper} (hg : o.guard = some (j, pol)) (hj : all[j]? = some q) (hq : q.dst = some t) (hb : lk tm t = .d (.imm (.bool b)))
  (h : SGo C all pu (o :: rest) ⟨(t, .d (.imm (.bool false))) :: tm, ob⟩ K) (he : b = false := by assumption) : SGo C all pu (o :: rest) ⟨tm, ob⟩ K := qX hg hj hq hb he h
end
theorem zD {d : D} : d = d := rfl
theorem zL {l : List D} : l = l := rfl
theorem zle {C : Cx} {tm tm' : List (Nat × X)} {ob ob' : List AObj} (n : Nat) (hn : Nat.ble C.base.n0 n = true := by exact rfl) (hob : ob' = ob.take n := by exact rfl)
  (ht : TmLe tm n tm' := by repeat (first | exact trivial | refine ⟨⟨rfl, rfl⟩, ?_⟩)) (ho : ObLe n ob' := by repeat (first | exact trivial | refine ⟨rfl, ?_⟩)) : Le C ⟨tm, ob⟩ ⟨tm', ob'⟩ := Le.of' n hn hob ht ho
theorem zren {C : Cx} {tm tm' : List (Nat × X)} {ob ob' : List AObj} (ks : List Nat) (hn : nodupB ks = true := by exact rfl) (hk0 : ((List.range C.base.n0).all fun i => ks[i]? == some i) = true := by exact rfl)
  (hob : renObs ks ob ks = some ob' := by exact rfl) (ht : TmRen tm ks tm' := by repeat (first | exact trivial | refine ⟨rfl, ?_⟩)) : Le C ⟨tm, ob⟩ ⟨tm', ob'⟩ := Le.ren ks hn hk0 hob ht
end Go.Abs
namespace Go.Abs
open Go Go.RowKit
theorem RdX.isBelow {w : World} {F : Nat → Prop} {σ : Sg} {x : X} {v : Value} (h : RdX w F σ x v) : x.below σ.length = true := by
 have key : ∀ (o : Nat) (p : Nat × Nat × Nat), σ[o]? = some p → Nat.blt o σ.length = true := fun o p h => by
  have := (List.getElem?_eq_some_iff.1 h).1
  simpa using this
 have caps : ∀ (cs : List Cap) (us : List Value), cs.length = us.length → (∀ (i : Nat) c u, cs[i]? = some c → us[i]? = some u → CapRd w F σ c u) → ∀ c ∈ cs, c.x.below σ.length = true := by
  intro cs us hl hr c hc
  obtain ⟨i, hi, he⟩ := List.mem_iff_getElem.1 hc
  have h1 := hr i c us[i] (by rw [← he]; exact List.getElem?_eq_getElem hi) (List.getElem?_eq_getElem (by omega))
  cases c with
  | d x => rfl
  | ptr o off => obtain ⟨b, c, n, h2, -⟩ := h1; exact key _ _ h2
  | own o => obtain ⟨b, c, n, h2, -⟩ := h1; exact key _ _ h2
 cases x with
 | ptr o off => obtain ⟨b, c, n, h1, -⟩ := h; exact key _ _ h1
 | own o => obtain ⟨b, c, n, h1, -⟩ := h; exact key _ _ h1
 | mp o => obtain ⟨b, c, n, h1, -⟩ := h; exact key _ _ h1
 | pel o i off size => obtain ⟨b, c, n, h1, -⟩ := h; exact key _ _ h1
 | sub o i off size => obtain ⟨b, c, n, h1, -⟩ := h; exact key _ _ h1
 | clo f cs =>
  obtain ⟨us, -, hl, hr⟩ := h
  refine List.all_eq_true.2 fun c hc => ?_
  have := caps cs us hl hr c hc
  cases c with
  | d x => rfl
  | ptr o off => exact this
  | own o => exact this
 | bnd f cs =>
  obtain ⟨us, -, hl, hr⟩ := h
  refine List.all_eq_true.2 fun c hc => ?_
  have := caps cs us hl hr c hc
  cases c with
  | d x => rfl
  | ptr o off => exact this
  | own o => exact this
 | st cs =>
  obtain ⟨us, -, hl, -, hr⟩ := h
  refine List.all_eq_true.2 fun c hc => ?_
  have := caps cs us hl hr c hc
  cases c with
  | d x => rfl
  | ptr o off => exact this
  | own o => exact this
 | _ => rfl
theorem Cx.Rel.tmBelow {C : Cx} {s : St} {a : Act} {w : World} (h : C.Rel s a w) (t : Nat) : (lk s.tm t).below s.ob.length = true := by
 obtain ⟨F, σ, -, -, -, hi, -, -, hs⟩ := h
 rw [← hi.len]
 exact (hs t).isBelow
theorem ObLe.all {n : Nat} : ∀ {l : List AObj}, ObLe n l → ∀ x ∈ l, x.below n = true
 | a :: r, h, x, hx => by
  rcases List.mem_cons.1 hx with rfl | hx
  ·exact h.1
  ·exact ObLe.all h.2 x hx
theorem EOp.data {C : Cx} {tm : List (Nat × X)} {ob ob1 : List AObj} {o : Oper} {d : Nat} {te : TypeId} {size : Nat} {xs : List D} (hdst : o.dst = some d) (h0 : C.base.n0 ≤ ob1.length) (hlen : ob1.length = ob.length) (hO : ∀ x ∈ ob1, x.below ob1.length = true) (hx : xs ≠ [])
  (h : EOp C ⟨tm, ob⟩ o (.own ob1.length) (ob1 ++ [.row te size xs])) : EOp C ⟨tm, ob⟩ o (.d (.sl xs)) ob1 := by
 intro tm' hev w a K Q hrel hK
 refine h tm' hev w a K Q hrel fun a' w' hr' => hK a' w' ?_
 rw [hdst] at hr' ⊢
 cases xs with
 | nil => exact absurd rfl hx
 | cons y ys => exact Le.rowD (k := ob1.length) (ys := y :: ys) rfl h0 (fun u => by rw [hlen]; exact hrel.tmBelow u) hO a' w' hr'
def dimT (n : Nat) : List (Nat × X) → List (Nat × X)
 | [] => []
 | (t, x) :: r => (t, bif x.below n then x else .top) :: dimT n r
theorem lk_dim (n : Nat) : ∀ (tm : List (Nat × X)) (t : Nat), lk (dimT n tm) t = lk tm t ∨ lk (dimT n tm) t = .top
 | [], t => .inl rfl
 | (k, x) :: r, t => by
  simp only [dimT, lk]
  cases Nat.beq k t with
  | false => exact lk_dim n r t
  | true => cases x.below n <;> simp
theorem lk_dim_below (n : Nat) : ∀ (tm : List (Nat × X)) (t : Nat), (lk (dimT n tm) t).below n = true
 | [], t => rfl
 | (k, x) :: r, t => by
  simp only [dimT, lk]
  cases Nat.beq k t with
  | false => exact lk_dim_below n r t
  | true =>
   cases h : x.below n with
   | true => exact h
   | false => rfl
theorem VOp.dim {C : Cx} {tm : List (Nat × X)} {ob : List AObj} {o : Oper} {x : X} {n : Nat} (h : VOp C ⟨dimT n tm, ob⟩ o x) : VOp C ⟨tm, ob⟩ o x := by
 intro F σ w a K Q hi hr hK
 refine h F σ w a K Q hi (fun y hy => ?_) hK
 have := hr y hy
 cases y with
 | tmp t =>
  rcases lk_dim n tm t with e | e
  ·show RdX w F σ (lk (dimT n tm) t) _
   rw [e]; exact this
  ·show RdX w F σ (lk (dimT n tm) t) _
   rw [e]; trivial
 | _ => exact this
inductive RDw (C : Cx) (l : List Oper) (E : List Nat) (wob : List AObj) : Nat → List Oper → St → St → Prop
 | nil (i : Nat) (s : St) : RDw C l E wob i [] s s
 | same {i : Nat} {ops : List Oper} {s s1 s' : St} (hs : StEq s s1) (h : RDw C l E wob i ops s1 s') : RDw C l E wob i ops s s'
 | fix {i : Nat} {o : Oper} {rest : List Oper} {s s' : St} {x : X} (hg : GuardIs l.toArray s o true) (hd : dstOK C o = true) (hne : E.contains i = false) (hf : FixedP l E i) (hv : VOp C s o x) (h : RDw C l E wob (i + 1) rest (s.put o.dst x) s') : RDw C l E wob i (o :: rest) s s'
 | skip {i : Nat} {o : Oper} {rest : List Oper} {s s' : St} (hg : GuardIs l.toArray s o false) (hd : dstOK C o = true) (hne : E.contains i = false) (h : RDw C l E wob (i + 1) rest (s.put o.dst .und) s') : RDw C l E wob i (o :: rest) s s'
 | weak {i : Nat} {o : Oper} {rest : List Oper} {s s' : St} {x : X} (hg : GuardIs l.toArray s o true) (hd : dstOK C o = true) (hne : E.contains i = false) (hv : ∀ ob', Wk wob ob' → VOp C ⟨s.tm, ob'⟩ o x) (h : RDw C l E wob (i + 1) rest (s.put o.dst x) s') : RDw C l E wob i (o :: rest) s s'
 | eff {i : Nat} {o : Oper} {rest : List Oper} {s s' : St} {x : X} {ob' : List AObj} (hg : GuardIs l.toArray s o true) (hd : dstOK C o = true) (hne : E.contains i = true) (hv : EOp C s o x ob') (hw : Wk wob ob') (h : RDw C l E wob (i + 1) rest ((⟨s.tm, ob'⟩ : St).put o.dst x) s') : RDw C l E wob i (o :: rest) s s'
theorem RDw.dataE {C : Cx} {l : List Oper} {E : List Nat} {wob : List AObj} {i : Nat} {ops : List Oper} {s s' : St} (h : RDw C l E wob i ops s s') (hw0 : Wk wob s.ob) :
  ∃ (xs : List (Oper × Option X)) (obT : Nat → List AObj), xs.map (·.1) = ops ∧ obT 0 = s.ob ∧ obT ops.length = s'.ob ∧ (∀ t, lk (stps s xs).tm t = lk s'.tm t) ∧ (∀ j, j ≤ ops.length → Wk wob (obT j)) ∧
   ∀ (j : Nat) o x, xs[j]? = some (o, x) → dstOK C o = true ∧ GuardIs l.toArray (stps s (xs.take j)) o x.isSome ∧
    (E.contains (i + j) = true → ∃ y, x = some y ∧ EOp C ⟨(stps s (xs.take j)).tm, obT j⟩ o y (obT (j + 1))) ∧
    (E.contains (i + j) = false → obT (j + 1) = obT j ∧ ∀ y, x = some y → (FixedP l E (i + j) ∧ VOp C ⟨(stps s (xs.take j)).tm, obT j⟩ o y) ∨ ∀ ob', Wk wob ob' → VOp C ⟨(stps s (xs.take j)).tm, ob'⟩ o y) := by
 induction h with
 | nil i s => exact ⟨[], fun _ => s.ob, rfl, rfl, rfl, fun _ => rfl, fun _ _ => hw0, fun j o x h => by simp at h⟩
 | @same i ops s s1 s' hs hh ih =>
  obtain ⟨xs, obT, h1, h2, h3, h4, h5, h6⟩ := ih (by rw [hs.2]; exact hw0)
  have hst : ∀ ys t, lk (stps s ys).tm t = lk (stps s1 ys).tm t := fun ys => stps_tm ys s s1 fun t => (hs.1 t).symm
  refine ⟨xs, obT, h1, h2.trans hs.2, h3, fun t => (hst xs t).trans (h4 t), h5, fun j o x hj => ?_⟩
  obtain ⟨a1, a2, a3, a4⟩ := h6 j o x hj
  refine ⟨a1, a2.look (hst _), fun he => ?_, fun he => ⟨(a4 he).1, fun y hy => ?_⟩⟩
  ·obtain ⟨y, hy, hv⟩ := a3 he
   exact ⟨y, hy, hv.look (hst _)⟩
  ·rcases (a4 he).2 y hy with ⟨b1, b2⟩ | b1
   ·exact .inl ⟨b1, b2.look (hst _)⟩
   ·exact .inr fun ob' hw' => (b1 ob' hw').look (hst _)
 | @fix i o rest s s' x hg hd hne hf hv hh ih =>
  obtain ⟨xs, obT, h1, h2, h3, h4, h5, h6⟩ := ih (by rw [St.put_ob]; exact hw0)
  rw [St.put_ob] at h2
  refine ⟨(o, some x) :: xs, fun j => match j with | 0 => s.ob | j + 1 => obT j, by simp [h1], rfl, h3, h4, fun j hj => ?_, fun j o' x' hj => ?_⟩
  ·cases j with
   | zero => exact hw0
   | succ j => exact h5 j (by simpa using hj)
  ·cases j with
   | zero =>
    simp at hj
    obtain ⟨rfl, rfl⟩ := hj
    refine ⟨hd, hg, fun he => ?_, fun _ => ⟨h2, fun y hy => ?_⟩⟩
    ·rw [Nat.add_zero, hne] at he; cases he
    ·cases hy; exact .inl ⟨hf, hv⟩
   | succ j =>
    have := h6 j o' x' (by simpa using hj)
    rw [show i + 1 + j = i + (j + 1) by omega] at this
    exact this
 | @skip i o rest s s' hg hd hne hh ih =>
  obtain ⟨xs, obT, h1, h2, h3, h4, h5, h6⟩ := ih (by rw [St.put_ob]; exact hw0)
  rw [St.put_ob] at h2
  refine ⟨(o, none) :: xs, fun j => match j with | 0 => s.ob | j + 1 => obT j, by simp [h1], rfl, h3, h4, fun j hj => ?_, fun j o' x' hj => ?_⟩
  ·cases j with
   | zero => exact hw0
   | succ j => exact h5 j (by simpa using hj)
  ·cases j with
   | zero =>
    simp at hj
    obtain ⟨rfl, rfl⟩ := hj
    refine ⟨hd, hg, fun he => ?_, fun _ => ⟨h2, fun y hy => ?_⟩⟩
    ·rw [Nat.add_zero, hne] at he; cases he
    ·cases hy
   | succ j =>
    have := h6 j o' x' (by simpa using hj)
    rw [show i + 1 + j = i + (j + 1) by omega] at this
    exact this
 | @weak i o rest s s' x hg hd hne hv hh ih =>
  obtain ⟨xs, obT, h1, h2, h3, h4, h5, h6⟩ := ih (by rw [St.put_ob]; exact hw0)
  rw [St.put_ob] at h2
  refine ⟨(o, some x) :: xs, fun j => match j with | 0 => s.ob | j + 1 => obT j, by simp [h1], rfl, h3, h4, fun j hj => ?_, fun j o' x' hj => ?_⟩
  ·cases j with
   | zero => exact hw0
   | succ j => exact h5 j (by simpa using hj)
  ·cases j with
   | zero =>
    simp at hj
    obtain ⟨rfl, rfl⟩ := hj
    refine ⟨hd, hg, fun he => ?_, fun _ => ⟨h2, fun y hy => ?_⟩⟩
    ·rw [Nat.add_zero, hne] at he; cases he
    ·cases hy; exact .inr hv
   | succ j =>
    have := h6 j o' x' (by simpa using hj)
    rw [show i + 1 + j = i + (j + 1) by omega] at this
    exact this
 | @eff i o rest s s' x ob' hg hd hne hv hw hh ih =>
  obtain ⟨xs, obT, h1, h2, h3, h4, h5, h6⟩ := ih (by rw [St.put_ob]; exact hw)
  rw [St.put_ob] at h2
  have hst : ∀ ys t, lk (stps (s.put o.dst x) ys).tm t = lk (stps ((⟨s.tm, ob'⟩ : St).put o.dst x) ys).tm t := fun ys => stps_tm ys _ _ fun t => by cases o.dst <;> rfl
  refine ⟨(o, some x) :: xs, fun j => match j with | 0 => s.ob | j + 1 => obT j, by simp [h1], rfl, h3, fun t => (hst xs t).trans (h4 t), fun j hj => ?_, fun j o' x' hj => ?_⟩
  ·cases j with
   | zero => exact hw0
   | succ j => exact h5 j (by simpa using hj)
  ·cases j with
   | zero =>
    simp at hj
    obtain ⟨rfl, rfl⟩ := hj
    refine ⟨hd, hg, fun he => ⟨x, rfl, ?_⟩, fun he => ?_⟩
    ·show EOp C ⟨s.tm, s.ob⟩ o x (obT 0)
     rw [h2]; exact hv
    ·rw [Nat.add_zero, hne] at he; cases he
   | succ j =>
    obtain ⟨a1, a2, a3, a4⟩ := h6 j o' x' (by simpa using hj)
    rw [show i + 1 + j = i + (j + 1) by omega] at a3 a4
    refine ⟨a1, a2.look (hst _), fun he => ?_, fun he => ⟨(a4 he).1, fun y hy => ?_⟩⟩
    ·obtain ⟨y, hy, hv'⟩ := a3 he
     exact ⟨y, hy, hv'.look (hst _)⟩
    ·rcases (a4 he).2 y hy with ⟨b1, b2⟩ | b1
     ·exact .inl ⟨b1, b2.look (hst _)⟩
     ·exact .inr fun ob2 hw2 => (b1 ob2 hw2).look (hst _)
def RGw (C : Cx) (_id : Nat) (l : List Oper) (E : List Nat) (wob : List AObj) (i : Nat) (ops : List Oper) (s : St) (K : St → Prop) : Prop := ∃ s', RDw C l E wob i ops s s' ∧ K s'
theorem RDw.ofFixE_ {C : Cx} {l : List Oper} {E : List Nat} {wob : List AObj} {rest : List Oper} {s' : St} {pu : Bool} {ops : List Oper} {s s1 : St} (h : SD C l.toArray pu ops s s1) : pu = true → ∀ {i : Nat}, (∀ j, j < ops.length → E.contains (i + j) = false ∧ FixedP l E (i + j)) → RDw C l E wob (i + ops.length) rest s1 s' → RDw C l E wob i (ops ++ rest) s s' := by
 induction h with
 | nil s => exact fun _ _ _ hr => hr
 | @vop o r s s1 x hg hd hv hh ih =>
  intro hpu i hf hr
  refine .fix hg hd (hf 0 (by simp)).1 (hf 0 (by simp)).2 hv (ih hpu (i := i + 1) (fun j hj => ?_) ?_)
  ·rw [show i + 1 + j = i + (j + 1) by omega]; exact hf (j + 1) (by simpa using hj)
  ·rw [show i + 1 + r.length = i + (o :: r).length by simp; omega]; exact hr
 | @skip o r s s1 hg hd hh ih =>
  intro hpu i hf hr
  refine .skip hg hd (hf 0 (by simp)).1 (ih hpu (i := i + 1) (fun j hj => ?_) ?_)
  ·rw [show i + 1 + j = i + (j + 1) by omega]; exact hf (j + 1) (by simpa using hj)
  ·rw [show i + 1 + r.length = i + (o :: r).length by simp; omega]; exact hr
 | eff hp => intro hpu; rw [hpu] at hp; cases hp
 | ghost hp => intro hpu; rw [hpu] at hp; cases hp
 | same hs hh ih => exact fun hpu _ hf hr => .same hs (ih hpu hf hr)
theorem RDw.ofFixE {C : Cx} {l : List Oper} {E : List Nat} {wob : List AObj} {ops rest : List Oper} {s s1 s' : St} (h : SD C l.toArray true ops s s1) {i : Nat} (hf : ∀ j, j < ops.length → E.contains (i + j) = false ∧ FixedP l E (i + j)) (hr : RDw C l E wob (i + ops.length) rest s1 s') : RDw C l E wob i (ops ++ rest) s s' :=
 RDw.ofFixE_ h rfl hf hr
section
variable {C : Cx} {r : List It} {Q : Exit → St → Prop} {tm : List (Nat × X)} {ob : List AObj} {id : Nat} {l : List Oper} {E : List Nat} {wob : List AObj} {i : Nat} {ops : List Oper} {K : St → Prop}
theorem qEr_ (wob : List AObj) (E : List Nat) (ho : ordOK l = true) (hE : chainB (ancs l) E = true) (hw : Wk wob ob)
  (h : RGw C id l E wob 0 l ⟨tm, ob⟩ (fun s' => go C r s' Q)) : go C (.code (.region id l.toArray true) :: r) ⟨tm, ob⟩ Q := by
 intro a w hr
 obtain ⟨s', h1, h2⟩ := h
 obtain ⟨xs, obT, e1, e2, e3, e4, e5, e6⟩ := h1.dataE hw
 have hlen : xs.length = l.length := by rw [← e1]; simp
 have hget : ∀ i, i < l.length → ∃ o x, xs[i]? = some (o, x) := fun i hi => by
  have : i < xs.length := by omega
  exact ⟨xs[i].1, xs[i].2, List.getElem?_eq_getElem this⟩
 have hfin : ∀ a w, C.Rel ⟨(stps ⟨tm, ob⟩ xs).tm, obT l.length⟩ a w → C.Rel s' a w := by
  intro a w hr
  rw [e3] at hr
  exact StEq.rel (s := ⟨(stps ⟨tm, ob⟩ xs).tm, s'.ob⟩) (s' := s') ⟨fun t => (e4 t).symm, rfl⟩ hr
 refine wp_region_any C.E.hM ?_
 refine Dr.all (s := ⟨tm, ob⟩) (xs := xs) (obT := obT) (eff := fun i => E.contains i) e1 (ordOK_spec ho) (fun i hi he => ?_) (fun i j hij hj h3 h4 => ?_) (fun i o x hi => ⟨(e6 i o x hi).1, (e6 i o x hi).2.1⟩) (fun i o x he hi y hy => ?_) (fun i o x he hi => ?_) (fun a w hr => ⟨s', hfin a w hr, h2⟩) _ _ _ _ ?_ ⟨by simp, fun j o' ed ho' hL => ?_, tm, 0, Nat.zero_le _, fun i hi => by omega, fun i _ hi _ => ?_, ?_, fun t _ => rfl, fun j o' x t hj hL => ?_⟩
 ·obtain ⟨o, x, hx⟩ := hget i hi
  exact ((e6 i o x hx).2.2.2 (by rw [Nat.zero_add]; exact he)).1
 ·exact (fixedB_ok (List.all_eq_true.1 hE j (by simpa using h4)) i h3).1 hij
 ·rcases ((e6 i o x hi).2.2.2 (by rw [Nat.zero_add]; exact he)).2 y hy with ⟨h3, h4⟩ | h3
  ·rw [Nat.zero_add] at h3
   exact .inl ⟨fun e _ he' => h3 e he', h4⟩
  ·exact .inr fun k hk => h3 _ (e5 k hk)
 ·exact (e6 i o x hi).2.2.1 (by rw [Nat.zero_add]; exact he)
 ·refine Nat.le_trans (List.length_filter_le _ _) ?_
  simp
 ·exfalso
  by_cases hlt : j < l.length <;> simp [hlt] at hL
 ·rw [Array.getD_eq_getD_getElem?, Array.getElem?_replicate]
  split <;> rfl
 ·rw [e2]
  obtain ⟨F, σ, r1, r2, r3, hi, r4, r5, hs⟩ := hr
  have hext : Ext w F { w with drawn := w.drawn + 1 } F := ⟨⟨rfl, rfl, rfl, Nat.le_refl _, fun _ _ => rfl⟩, fun _ h => h, fun _ h => .inl h, hi.flt⟩
  exact ⟨F, σ, r1.step hext.below, r2, r3, hi.ext hext, r4, r5, fun t => (hs t).ext hext hi.flt⟩
 ·exfalso
  by_cases hlt : j < l.length <;> simp [hlt] at hL
theorem qErT (E T : List Nat) (ho : ordOK l = true) (hE : chainB (ancs l) E = true) (hw : wkP (killT T ob).length (killT T ob) ob) (h : RGw C id l E (killT T ob) 0 l ⟨tm, ob⟩ (fun s' => go C r s' Q)) : go C (.code (.region id l.toArray true) :: r) ⟨tm, ob⟩ Q := qEr_ _ E ho hE (Wk.mk' hw) h
theorem reN (h : K ⟨tm, ob⟩) : RGw C id l E wob i [] ⟨tm, ob⟩ K := ⟨_, .nil _ _, h⟩
theorem reF (n : Nat) (hc : rgFB l E i n = true) (hn : Nat.ble n ops.length = true) (h : SGo C l.toArray true (ops.take n) ⟨tm, ob⟩ (fun s1 => RGw C id l E wob (i + n) (ops.drop n) ⟨s1.tm, ob⟩ K)) : RGw C id l E wob i ops ⟨tm, ob⟩ K := by
 obtain ⟨s1, h1, s', h2, h3⟩ := h
 have hlen : (ops.take n).length = n := by rw [List.length_take]; have := Nat.le_of_ble_eq_true hn; omega
 have e : s1 = ⟨s1.tm, ob⟩ := by have := h1.obEq; cases s1; simp at this; rw [this]
 refine ⟨s', ?_, h3⟩
 rw [← List.take_append_drop n ops]
 rw [← e] at h2
 refine RDw.ofFixE h1 (fun j hj => ?_) (by rw [hlen]; exact h2)
 have := List.all_eq_true.1 hc j (by rw [List.mem_range]; omega)
 rw [Bool.and_eq_true] at this
 exact ⟨by simpa using this.2, fixedB_ok this.1⟩
theorem reX {o : Oper} {rest : List Oper} {x : X} {ob' : List AObj} (hne : E.contains i = true) (hg : guardX l.toArray tm o = some true) (hd : dstOK C o = true) (hv : EOp C ⟨tm, ob⟩ o x ob') (hw : wkP wob.length wob ob') (h : RGw C id l E wob (i + 1) rest ((⟨tm, ob'⟩ : St).put o.dst x) K) : RGw C id l E wob i (o :: rest) ⟨tm, ob⟩ K :=
 let ⟨s', h1, h2⟩ := h; ⟨s', .eff (guardX_ok hg) hd hne hv (Wk.mk' hw) h1, h2⟩
theorem reV {o : Oper} {rest : List Oper} {x : X} {d : Nat} {p : Prop} (hne : E.contains i = false) (hg : guardX l.toArray tm o = some true) (hdst : o.dst = some d) (hd : Nat.blt d C.N = true) (hn : Nat.ble C.base.n0 wob.length = true)
  (hv : vop C ⟨dimT wob.length tm, wob⟩ o = some (p, x)) (hp : p) (h : RGw C id l E wob (i + 1) rest ⟨(d, x) :: tm, ob⟩ K) : RGw C id l E wob i (o :: rest) ⟨tm, ob⟩ K := by
 obtain ⟨s', h1, h2⟩ := h
 refine ⟨s', .weak (guardX_ok hg) (by simp only [dstOK, hdst]; exact hd) hne (fun ob' hw' => ((vop_ok hv hp).wk hw' (Nat.le_of_ble_eq_true hn) (lk_dim_below _ tm)).dim) ?_, h2⟩
 rw [show (⟨tm, ob⟩ : St).put o.dst x = ⟨(d, x) :: tm, ob⟩ by rw [hdst]; rfl]
 exact h1
end
section
variable {C : Cx} {tm : List (Nat × X)} {ob : List AObj} {id : Nat} {l : List Oper} {E : List Nat} {wob : List AObj} {i : Nat} {rest : List Oper} {K : St → Prop} {o : Oper} {d : Nat} {p : Prop} {x : X}
end
end Go.Abs
namespace Go.Abs
open Go Go.RowKit
structure Kp (C : Cx) (ob : List AObj) (σ : Sg) (w : World) (F : Nat → Prop) (w' : World) (F' : Nat → Prop) : Prop where
 kept : Kept C.O C.w0 w'
 more : ∀ b, F b → F' b
 new : ∀ b, F' b → F b ∨ ¬ C.O b
 same : ∀ b, F b → w'.heap[b]? = w.heap[b]?
 inv : WInv C.E C.base F' σ ob w'
theorem Kp.of_ext {C : Cx} {ob : List AObj} {σ : Sg} {w w' : World} {F F' : Nat → Prop} (h1 : Kept C.O C.w0 w) (hi : WInv C.E C.base F σ ob w) (he : Ext w F w' F') : Kp C ob σ w F w' F' :=
 ⟨h1.step he.below, he.more, fun b hb => (he.new b hb).imp id h1.new, he.keep hi.flt, hi.ext he⟩
def POp (C : Cx) (s : St) (o : Oper) (x : X) : Prop :=
 ∀ (F : Nat → Prop) (σ : Sg) (w : World) (a : Act) (K : Act → World → Prop) (Q : Exit → Act → World → Prop), Kept C.O C.w0 w → WInv C.E C.base F σ s.ob w →
  (∀ y ∈ o.op.operands.toList, RdX w F σ (s.ev C.E y) (a.eval y)) →
  (∀ v w' F', Kp C s.ob σ w F w' F' → RdX w' F' σ x v → K (a.put o.dst v) w') → o.wp C.E.P a w K Q
theorem VOp.pop {C : Cx} {s : St} {o : Oper} {x : X} (h : VOp C s o x) : POp C s o x :=
 fun F σ w a K Q h1 hi hr hK => h F σ w a K Q hi hr fun v w' F' he hv => hK v w' F' (Kp.of_ext h1 hi he) hv
theorem StEq.pop {C : Cx} {s s' : St} (h : StEq s s') {o : Oper} {x : X} (hv : POp C s o x) : POp C s' o x := by
 intro F σ w a K Q h1 hi ho hK
 refine hv F σ w a K Q h1 (by rw [← h.2]; exact hi) (fun y hy => ?_) (fun v w' F' hk hx => hK v w' F' (by rw [h.2]; exact hk) hx)
 rw [← h.ev]
 exact ho y hy
section
variable {C : Cx} {s : St} {o : Oper}
end
section
variable {C : Cx} {s : St} {o : Oper}
end
inductive SP (C : Cx) (all : Array Oper) : List Oper → St → St → Prop
 | nil (s : St) : SP C all [] s s
 | seg {pre rest : List Oper} {s s1 s' : St} (h : SD C all true pre s s1) (hr : SP C all rest s1 s') : SP C all (pre ++ rest) s s'
 | pop {o : Oper} {rest : List Oper} {s s' : St} {x : X} (hg : o.guard = none) (hd : dstOK C o = true) (hv : POp C s o x) (hr : SP C all rest (s.put o.dst x) s') : SP C all (o :: rest) s s'
theorem SP.data {C : Cx} {all : Array Oper} {ops : List Oper} {s s' : St} (h : SP C all ops s s') :
  ∃ xs : List (Oper × Option X), xs.map (·.1) = ops ∧ StEq (stps s xs) s' ∧ ∀ (i : Nat) o x, xs[i]? = some (o, x) → dstOK C o = true ∧ GuardIs all (stps s (xs.take i)) o x.isSome ∧ ∀ y, x = some y → POp C (stps s (xs.take i)) o y := by
 induction h with
 | nil s => exact ⟨[], rfl, StEq.refl _, fun i o x h => by simp at h⟩
 | @seg pre rest s s1 s' h hr ih =>
  obtain ⟨xs1, e1, q1, v1⟩ := h.data
  obtain ⟨xs2, e2, q2, v2⟩ := ih
  refine ⟨xs1 ++ xs2, by simp [e1, e2], by rw [stps_append]; exact (q1.stps xs2).trans q2, fun i o x hi => ?_⟩
  rcases Nat.lt_or_ge i xs1.length with hlt | hge
  ·rw [List.getElem?_append_left hlt] at hi
   rw [List.take_append_of_le_length (by omega)]
   obtain ⟨a1, a2, a3⟩ := v1 i o x hi
   exact ⟨a1, a2, fun y hy => (a3 y hy).pop⟩
  ·obtain ⟨m, rfl⟩ : ∃ m, i = xs1.length + m := ⟨i - xs1.length, by omega⟩
   rw [List.getElem?_append_right (by omega), Nat.add_sub_cancel_left] at hi
   rw [List.take_length_add_append, stps_append]
   obtain ⟨a1, a2, a3⟩ := v2 m o x hi
   have hss := (q1.stps (xs2.take m)).symm
   exact ⟨a1, hss.guard a2, fun y hy => hss.pop (a3 y hy)⟩
 | @pop o rest s s' x hg hd hv hr ih =>
  obtain ⟨xs, h1, h2, h3⟩ := ih
  refine ⟨(o, some x) :: xs, by simp [h1], h2, fun i o' x' hi => ?_⟩
  cases i with
  | zero =>
   simp at hi
   obtain ⟨rfl, rfl⟩ := hi
   exact ⟨hd, by unfold GuardIs; rw [hg]; rfl, fun y hy => by cases hy; exact hv⟩
  | succ i => exact h3 i o' x' (by simpa using hi)
def PGo (C : Cx) (all : Array Oper) (_id _i : Nat) (ops : List Oper) (s : St) (K : St → Prop) : Prop := ∃ s', SP C all ops s s' ∧ K s'
section
variable {C : Cx} {r : List It} {s : St} {Q : Exit → St → Prop} {all : Array Oper} {K : St → Prop} {id i : Nat}
end
section
variable {C : Cx} {s : St} {o : Oper}
end
section
variable {C : Cx} {K : St → Prop} {all : Array Oper} {rest : List Oper} {tm : List (Nat × X)} {ob : List AObj} {d : Nat} {o : Oper}
end
section
variable {C : Cx} {r : List It} {Q : Exit → St → Prop} {tm : List (Nat × X)} {ob : List AObj}
theorem go_nilD {c : Code} (t : Nat) (h : lk tm t = .nilS) (hg : go C (.code c :: r) ⟨(t, .d (.sl [])) :: tm, ob⟩ Q) : go C (.code c :: r) ⟨tm, ob⟩ Q := by
 refine go_weaken (fun a w hr => ?_) hg
 obtain ⟨F, σ, r1, r2, r3, hi, r4, r5, hs⟩ := hr
 refine ⟨F, σ, r1, r2, r3, hi, r4, r5, fun u => ?_⟩
 show RdX w F σ (bif Nat.beq t u then _ else lk tm u) _
 cases hb : Nat.beq t u with
 | true =>
  have hu := hs u
  obtain rfl := Nat.eq_of_beq_eq_true hb
  rw [h] at hu
  rw [show a.tmps.getD t undef = .slice none 0 0 from hu]
  exact Rd.slnil
 | false => exact hs u
end
section
variable {C : Cx} {K : St → Prop} {all : Array Oper} {rest : List Oper} {tm : List (Nat × X)} {ob : List AObj} {d : Nat} {pu : Bool} {o : Oper}
end
end Go.Abs
namespace Go.Abs
open Go Go.RowKit
def capsOf : X → Option (List Cap)
 | .d d => some (d.cells.map Cap.d)
 | .nilS => some [.d (.sl [])]
 | .own o => some [.own o]
 | .ptr o off => some [.ptr o off]
 | .st cs => some cs
 | _ => none
theorem capsOf_ok {w : World} {F : Nat → Prop} {σ : Sg} {x : X} {v : Value} {ds : List Cap} (h : capsOf x = some ds) (hv : RdX w F σ x v) :
  v.cells.size = ds.length ∧ (∀ (i : Nat) c u, ds[i]? = some c → v.cells.toList[i]? = some u → CapRd w F σ c u) ∧ ∀ u ∈ v.cells.toList, u.oneCell' = true := by
 have one : v.oneCell' = true → ∀ c, CapRd w F σ c v → v.cells.size = [c].length ∧ (∀ (i : Nat) c' u, [c][i]? = some c' → v.cells.toList[i]? = some u → CapRd w F σ c' u) ∧ ∀ u ∈ v.cells.toList, u.oneCell' = true := by
  intro h1 c hc
  have hvc : v.cells = #[v] := by cases v <;> simp_all [Value.oneCell', Value.cells]
  rw [hvc]
  refine ⟨rfl, fun i c' u hi hu => ?_, by simpa using h1⟩
  cases i with
  | zero => simp at hi hu; subst hi hu; exact hc
  | succ i => simp at hi
 cases x with
 | d d =>
  simp only [capsOf] at h
  cases h
  obtain ⟨a1, a2, a3⟩ := RdX.cells_ (x := .d d) hv rfl
  refine ⟨by simpa [X.cells] using a1, fun i c u hi hu => ?_, a2⟩
  rw [List.getElem?_map, Option.map_eq_some_iff] at hi
  obtain ⟨e, he, rfl⟩ := hi
  exact a3 i (.d e) u (by simp [X.cells, he]) hu
 | nilS =>
  simp only [capsOf] at h
  cases h
  refine one (by rw [show v = _ from hv]; rfl) _ ?_
  rw [show v = .slice none 0 0 from hv]
  exact Rd.slnil
 | own o =>
  simp only [capsOf] at h
  cases h
  refine one ?_ _ hv
  obtain ⟨b, c, n, -, rfl⟩ := hv
  rfl
 | ptr o off =>
  simp only [capsOf] at h
  cases h
  refine one ?_ _ hv
  obtain ⟨b, c, n, -, rfl⟩ := hv
  rfl
 | st cs =>
  simp only [capsOf] at h
  cases h
  obtain ⟨us, rfl, hl, h1, hr⟩ := hv
  exact ⟨by simpa [Value.cells] using hl.symm, fun i c u hi hu => hr i c u hi (by simpa [Value.cells] using hu), fun u hu => h1 u (by simpa [Value.cells] using hu)⟩
 | _ => simp [capsOf] at h
structure CellsP (w : World) (F : Nat → Prop) (σ : Sg) (vs : List Value) (cs : List Cap) : Prop where
 len : cs.length = vs.length
 one : ∀ v ∈ vs, v.oneCell' = true
 rd : ∀ (i : Nat) c v, cs[i]? = some c → vs[i]? = some v → CapRd w F σ c v
def setAllC : List Cap → Nat → List Cap → List Cap
 | cs, _, [] => cs
 | cs, k, d :: r => setAllC (cs.set k d) (k + 1) r
theorem setAllC_spec : ∀ (r cs : List Cap) (k : Nat), k + r.length ≤ cs.length → setAllC cs k r = cs.take k ++ r ++ cs.drop (k + r.length)
 | [], cs, k, _ => by simp [setAllC]
 | d :: r, cs, k, h => by
  simp only [setAllC]
  simp only [List.length_cons] at h
  rw [setAllC_spec r (cs.set k d) (k + 1) (by simp; omega)]
  have e1 : (cs.set k d).take (k + 1) = cs.take k ++ [d] := by
   rw [List.take_succ_eq_append_getElem (by simp; omega), List.take_set_of_le (Nat.le_refl _)]
   simp
  have e2 : (cs.set k d).drop (k + 1 + r.length) = cs.drop (k + (d :: r).length) := by
   rw [List.drop_set_of_lt (by omega)]
   simp only [List.length_cons]
   congr 1
   omega
  rw [e1, e2]
  simp
theorem CellsP.set_ {w : World} {F : Nat → Prop} {σ : Sg} {vs : List Value} {cs ds : List Cap} {v : Value} {off : Nat} (h : CellsP w F σ vs cs) (a1 : v.cells.size = ds.length)
  (a2 : ∀ (i : Nat) c u, ds[i]? = some c → v.cells.toList[i]? = some u → CapRd w F σ c u) (a3 : ∀ u ∈ v.cells.toList, u.oneCell' = true) (hle : off + ds.length ≤ cs.length) :
  CellsP w F σ (vs.take off ++ v.cells.toList ++ vs.drop (off + v.cells.toList.length)) (setAllC cs off ds) := by
 have hl : v.cells.toList.length = ds.length := by simpa using a1
 rw [setAllC_spec _ _ _ hle]
 have hlen := h.len
 have h1 : (cs.take off).length = off := by rw [List.length_take]; omega
 have h2 : (vs.take off).length = off := by rw [List.length_take]; omega
 refine ⟨?_, fun u hu => ?_, fun i c u hc hu => ?_⟩
 ·simp only [List.length_append, List.length_take, List.length_drop, hl, hlen]
 ·rw [List.mem_append, List.mem_append] at hu
  rcases hu with (hu | hu) | hu
  ·exact h.one u (List.mem_of_mem_take hu)
  ·exact a3 u hu
  ·exact h.one u (List.mem_of_mem_drop hu)
 ·rcases Nat.lt_or_ge i off with hlt | hge
  ·rw [List.append_assoc, List.getElem?_append_left (by omega), List.getElem?_take, if_pos hlt] at hu hc
   exact h.rd i c u hc hu
  ·rw [List.append_assoc, List.getElem?_append_right (by omega)] at hu hc
   rw [h2] at hu
   rw [h1] at hc
   rcases Nat.lt_or_ge (i - off) ds.length with hlt | hge2
   ·rw [List.getElem?_append_left (by omega)] at hu hc
    exact a2 _ c u hc hu
   ·rw [List.getElem?_append_right (by omega), List.getElem?_drop] at hu hc
    rw [hl] at hu
    exact h.rd _ c u hc hu
section
variable {C : Cx} {s : St} {o : Oper} {x : X}
theorem s_boxP {t : TypeId} {y : Operand} {cs : List Cap} (ho : o.op = .box t y) (hx : s.ev C.E y = .st cs) (hd : dstOK C o = true) : SOp C s o (s.add o.dst (.var t (.cs (cs.map Cap.x))) (.ptr s.ob.length 0)) := by
 rintro w a K Q ⟨F, σ, h1, h2, h3, hi, h4, h5, hs⟩ hK
 have hv := ev_rd (E := C.E) hi hs y
 rw [hx] at hv
 have hrun : (execOp a.eval o).run C.E.P w = .ok (.value (.pointer (some ⟨w.heap.size, 0, none⟩))) (w.alloc (.cells (a.eval y).cells t)) := by
  simp [execOp, ho, Instr.box, newVar, newRow]
 unfold Oper.wp
 rw [hrun]
 have he := ext_alloc (F := F) (.cells (a.eval y).cells t) hi.flt
 have hv' : RdX (w.alloc (.cells (a.eval y).cells t)) F (σ ++ [(w.heap.size, 0, 0)]) (.st cs) (a.eval y) := (hv.ext he hi.flt).mono (fun _ h => h) (fun _ _ => rfl) σ_app
 obtain ⟨c1, c2, c3⟩ := capsOf_ok (x := .st cs) rfl hv'
 refine hK _ _ (rel_add h1 h2 h3 hi h4 h5 hs hd (x := .var t (.cs (cs.map Cap.x))) (c := 0) (n := 0) ⟨(a.eval y).cells.toList, by simpa using heap_push, by simpa [VC.cells] using c1.symm, c3, fun i x v hx hv => ?_, h1.new (Nat.le_refl _), fun hf => ?_⟩ ⟨w.heap.size, 0, 0, ?_, rfl⟩)
 ·simp only [VC.cells, List.getElem?_map, Option.map_eq_some_iff] at hx
  obtain ⟨c, hc, rfl⟩ := hx
  exact Cap.x_rd (c2 i c v hc hv)
 ·exact absurd (hi.flt _ hf) (Nat.lt_irrefl _)
 ·rw [← hi.len]; simp
end
section
variable {C : Cx} {K : St → Prop} {all : Array Oper} {rest : List Oper} {tm : List (Nat × X)} {ob : List AObj} {d : Nat} {pu : Bool} {o : Oper}
end
section
variable {C : Cx} {id : Nat} {l : List Oper} {E : List Nat} {wob : List AObj} {i : Nat} {rest : List Oper} {o : Oper} {tm : List (Nat × X)} {ob : List AObj} {K : St → Prop} {d : Nat}
theorem rgBoxP {t : TypeId} {y : Operand} {cs : List Cap} {m : List X} (hne : E.contains i = true) (ho : o.op = .box t y) (hg : guardX l.toArray tm o = some true) (hdst : o.dst = some d) (hd : Nat.blt d C.N = true) (hx : (⟨tm, ob⟩ : St).ev C.E y = .st cs) (hm : cs.map Cap.x = m)
  (hw : wkP wob.length wob (ob ++ [.var t (.cs m)])) (h : RGo C id l E wob (i + 1) rest ⟨(d, .ptr ob.length 0) :: tm, ob ++ [.var t (.cs m)]⟩ K) : RGo C id l E wob i (o :: rest) ⟨tm, ob⟩ K := by
 subst hm
 have hdk : dstOK C o = true := by simp only [dstOK, hdst]; exact hd
 refine rgX (x := .ptr ob.length 0) (ob' := ob ++ [.var t (.cs (cs.map Cap.x))]) hne hg hdk (fun tm' hev => ?_) hw (by rw [hdst]; exact h)
 exact s_boxP (s := ⟨tm', ob⟩) ho ((hev y (by simp [ho, Op.operands])).trans hx) hdk
end
end Go.Abs
namespace Go.Abs
open Go Go.RowKit
section
variable {C : Cx} {tm : List (Nat × X)} {ob : List AObj} {id : Nat} {l : List Oper} {E : List Nat} {wob : List AObj} {i : Nat} {rest : List Oper} {K : St → Prop} {o : Oper} {d : Nat}
theorem reCallS (sel : List Nat) {y : Operand} {args : List Operand} {tys : Array TypeId} {f : FuncId} {cs xs : List X} {ob1 ob1' ob2 : List AObj} {rx x2 : X} (hne : E.contains i = true) (ho : o.op = .call { callee := .value y, args := args.toArray, argTypes := tys }) (hg : guardX l.toArray tm o = some true) (hdst : o.dst = some d)
  (hd : Nat.blt d C.N = true) (hf : FnX ((⟨tm, ob⟩ : St).ev C.E y) f cs) (hb : HasBody C.E f) (h0 : EvS C.E f xs ob1 rx ob1') (hn : nodupB sel = true) (hob : renObs sel ob sel = some ob1) (hx : renL sel (args.map (fun z => nrm ((⟨tm, ob⟩ : St).ev C.E z)) ++ cs) = some xs)
  (hob2 : backL (bk sel ob.length) sel ob1' ob = ob2) (hx2 : bkX (bk sel ob.length) rx = x2) (hw : wkP wob.length wob ob2) (h : RGw C id l E wob (i + 1) rest ⟨(d, x2) :: tm, ob2⟩ K) : RGw C id l E wob i (o :: rest) ⟨tm, ob⟩ K := by
 subst hob2 hx2
 have hdk : dstOK C o = true := by simp only [dstOK, hdst]; exact hd
 refine reX (x := bkX (bk sel ob.length) rx) (ob' := backL (bk sel ob.length) sel ob1' ob) hne hg hdk (fun tm' hev => ?_) hw (by rw [hdst]; exact h)
 have hm : ∀ z, z = y ∨ z ∈ args → (⟨tm', ob⟩ : St).ev C.E z = (⟨tm, ob⟩ : St).ev C.E z := by
  intro z hz
  refine hev z ?_
  rcases hz with rfl | hz <;> simp [ho, Op.operands, Call.operands, *]
 refine s_callS (s := ⟨tm', ob⟩) ho (by rw [hm y (.inl rfl)]; exact hf) hb hn hob ?_ h0 hdk
 rw [← hx]
 congr 2
 exact List.map_congr_left fun z hz => by rw [hm z (.inr hz)]
end
end Go.Abs
namespace Go.Abs
open Go Go.RowKit
section
variable {C : Cx} {s : St} {o : Oper}
end
section
variable {C : Cx} {K : St → Prop} {all : Array Oper} {pu : Bool} {rest : List Oper} {tm : List (Nat × X)} {ob : List AObj} {d : Nat} {o : Oper}
end
end Go.Abs
namespace Go.Abs
open Go Go.RowKit
section
variable {C : Cx} {s : St} {o : Oper} {p : Prop} {x : X}
end
section
variable {C : Cx} {all : Array Oper} {pu : Bool} {rest : List Oper} {tm : List (Nat × X)} {ob : List AObj} {K : St → Prop} {o : Oper} {d : Nat} {p : Prop} {x : X}
end
end Go.Abs
namespace Go.Abs
open Go Go.RowKit
section
variable {C : Cx} {s : St} {o : Oper} {x : X} {p : Prop}
end
section
variable {C : Cx} {all : Array Oper} {pu : Bool} {rest : List Oper} {tm : List (Nat × X)} {ob : List AObj} {K : St → Prop} {o : Oper} {d : Nat} {p : Prop} {x : X}
end
end Go.Abs
namespace Go.Abs
open Go Go.RowKit
section
variable {C : Cx} {K : St → Prop} {all : Array Oper} {rest : List Oper} {tm : List (Nat × X)} {ob : List AObj} {d : Nat} {pu : Bool} {o : Oper}
end
end Go.Abs
namespace Go.Abs
open Go
theorem yz {P R : Prop} (h : R) (f : R → P := by
  first
  | exact fun h => zS rfl h | exact qA | exact qB rfl | exact qD | exact qF | exact qE | exact qG | exact fun h => zT rfl h | exact fun h => zU rfl h | exact qL rfl rfl | exact qH rfl | exact qM rfl rfl rfl | exact qC (by kernel_rfl) | exact qO rfl rfl rfl) : P := f h
section
variable {C : Cx} {all : Array Oper} {pu : Bool} {K : St → Prop} {rest : List Oper} {o : Oper} {tm : List (Nat × X)} {ob : List AObj} {d : Nat}
theorem yp {y : Operand} {args : List Operand} {tys : Array TypeId} {f : FuncId} {ds : List D} {rx : X} (hb : HasBody C.E f) (h0 : Ev C.E f ds rx) (h : SGo C all pu rest ⟨(d, rx) :: tm, ob⟩ K)
  (ho : o.op = .call { callee := .value y, args := args.toArray, argTypes := tys } := by exact rfl) (hg : guardX all tm o = some true := by exact rfl) (hdst : o.dst = some d := by exact rfl) (hd : Nat.blt d C.N = true := by exact rfl)
  (hf : (⟨tm, ob⟩ : St).ev C.E y = .d (.imm (.func (.func f) #[] #[])) := by exact rfl) (hds : datsX C.E ⟨tm, ob⟩ args = some ds := by exact rfl) : SGo C all pu (o :: rest) ⟨tm, ob⟩ K := qP ho hg hdst hd hf hds hb h0 h
theorem yi {t : TypeId} {y z : Operand} {xs : List D} {k : IntKind} {i : Int} {te : TE} (x : D) (hx : xs[i.toNat]? = some x) (h : SGo C all pu rest ⟨(d, .at_ x 0) :: tm, ob⟩ K) (ho : o.op = .indexAddr t y z := by exact rfl) (hg : guardX all tm o = some true := by exact rfl) (hdst : o.dst = some d := by exact rfl)
  (hd : Nat.blt d C.N = true := by exact rfl) (hy : (⟨tm, ob⟩ : St).ev C.E y = .d (.sl xs) := by exact rfl) (hz : (⟨tm, ob⟩ : St).ev C.E z = .d (.imm (.int k i)) := by exact rfl) (hte : elemT C.E t = some te := by exact rfl) (hsz : Nat.beq x.cells.length te.size = true := by exact rfl)
  (h0 : 0 ≤ i := by first | omega | decide) : SGo C all pu (o :: rest) ⟨tm, ob⟩ K := qI x ho (guardX_ok hg) hdst hd hy hz hte hsz h0 hx h
theorem yc (sel : List Nat) {y : Operand} {args : List Operand} {tys : Array TypeId} {f : FuncId} {cs xs : List X} {ob1 ob1' ob2 : List AObj} {rx x2 : X} (hb : HasBody C.E f) (h0 : EvS C.E f xs ob1 rx ob1') (h : SGo C all false rest ⟨(d, x2) :: tm, ob2⟩ K)
  (ho : o.op = .call { callee := .value y, args := args.toArray, argTypes := tys } := by exact rfl) (hg : guardX all tm o = some true := by exact rfl) (hdst : o.dst = some d := by exact rfl) (hd : Nat.blt d C.N = true := by exact rfl)
  (hf : FnX ((⟨tm, ob⟩ : St).ev C.E y) f cs := by exact FnX.plain _) (hn : nodupB sel = true := by exact rfl) (hob : renObs sel ob sel = some ob1 := by exact rfl) (hx : renL sel (args.map (fun z => nrm ((⟨tm, ob⟩ : St).ev C.E z)) ++ cs) = some xs := by exact rfl)
  (hob2 : backL (bk sel ob.length) sel ob1' ob = ob2 := by exact rfl) (hx2 : bkX (bk sel ob.length) rx = x2 := by exact rfl) : SGo C all false (o :: rest) ⟨tm, ob⟩ K := go_callS sel ho hg hdst hd hf hb h0 hn hob hx hob2 hx2 h
theorem yv {k : Nat} {tm : List (Nat × X)} {P : Prop} (h : P) (hb : TmB k tm := by repeat (first | exact trivial | refine ⟨rfl, ?_⟩)) : TmB k tm ∧ P := ⟨hb, h⟩
end
section
variable {C : Cx} {l : List Oper} {E : List Nat} {wob : List AObj} {ops : List Oper} {tm : List (Nat × X)} {ob : List AObj} {K : St → Prop} {r : List It} {Q : Exit → St → Prop}
theorem yq (id : Nat) (E : List Nat) (h : RGo C id l E (List.replicate C.base.n0 AObj.dead) 0 l ⟨tm, ob⟩ (fun s' => go C r s' Q)) (ho : ordOK l = true := by kernel_rfl) (hE : chainB (ancs l) E = true := by kernel_rfl)
  (hw : wkP (List.replicate C.base.n0 AObj.dead).length (List.replicate C.base.n0 AObj.dead) ob := by repeat (first | exact trivial | refine ⟨⟨rfl, rfl⟩, ?_⟩ | refine ⟨trivial, ?_⟩)) : go C (.code (.region id l.toArray true) :: r) ⟨tm, ob⟩ Q := qR0 E ho hE hw h
theorem yf (id i n : Nat) (h : SGo C l.toArray true (ops.take n) ⟨tm, ob⟩ (fun s1 => RGo C id l E wob (i + n) (ops.drop n) ⟨s1.tm, ob⟩ K)) (hc : rgFB l E i n = true := by kernel_rfl) (hn : Nat.ble n ops.length = true := by exact rfl) : RGo C id l E wob i ops ⟨tm, ob⟩ K := rgF n hc hn h
end
theorem yy {P R1 R2 : Prop} (h1 : R1) (h2 : R2) (f : R1 → R2 → P := by exact qY rfl rfl rfl rfl) : P := f h1 h2
theorem yx {P R : Prop} (h : R) (f : R → P := by first | exact fun h => zX rfl rfl rfl rfl h | exact fun h => zW rfl rfl rfl rfl h) : P := f h
theorem yw {P R : Prop} (h : R) (f : R → P := by
  first
  | exact rgStore rfl rfl rfl rfl rfl rfl rfl rfl rfl rfl rfl (by repeat (first | exact trivial | refine ⟨⟨rfl, rfl⟩, ?_⟩ | refine ⟨trivial, ?_⟩))
  | exact rgAlloc rfl rfl rfl rfl rfl rfl rfl (by repeat (first | exact trivial | refine ⟨⟨rfl, rfl⟩, ?_⟩ | refine ⟨trivial, ?_⟩))
  | exact rgBox rfl rfl rfl rfl rfl rfl rfl (by repeat (first | exact trivial | refine ⟨⟨rfl, rfl⟩, ?_⟩ | refine ⟨trivial, ?_⟩))
  | exact rgBoxP rfl rfl rfl rfl rfl rfl rfl (by repeat (first | exact trivial | refine ⟨⟨rfl, rfl⟩, ?_⟩ | refine ⟨trivial, ?_⟩))
  | exact rgStoreP _ rfl rfl rfl rfl rfl rfl rfl (by assumption) rfl rfl rfl (by repeat (first | exact trivial | refine ⟨⟨rfl, rfl⟩, ?_⟩ | refine ⟨trivial, ?_⟩))
  | exact fun h => rgS rfl rfl rfl rfl (by first | exact True.intro | rfl | assumption | omega | (simp only [inR]; omega) | ((show _ ≤ (9223372036854775807 : Nat)); (try simp only [ByteArray.size_append]); omega) | exact tmod_ok (by omega) (by omega) | exact tdiv_ok (by omega) (by omega) | exact ⟨rfl, by decide, by decide⟩) (by repeat (first | exact trivial | refine ⟨⟨rfl, rfl⟩, ?_⟩ | refine ⟨trivial, ?_⟩)) h) : P := f h
theorem yF (p : Prop) [Decidable p] (h : ¬p) : decide p = false := decide_eq_false h
theorem yT (p : Prop) [Decidable p] (h : p) : decide p = true := decide_eq_true h
section
variable {C : Cx} {all : Array Oper} {pu : Bool} {K : St → Prop} {rest : List Oper} {o : Oper} {tm : List (Nat × X)} {ob ob' : List AObj} {d : Nat} {r : List It} {fn : Func}
theorem yl {t te : TypeId} {y : Operand} {i k off size : Nat} {xs : List D} {e : D} {x : X} {p : Prop} (he : xs[i]? = some e) (h : SGo C all pu rest ⟨(d, x) :: tm, ob⟩ K) (ho : o.op = .load t y := by exact rfl) (hg : guardX all tm o = some true := by exact rfl) (hdst : o.dst = some d := by exact rfl) (hd : Nat.blt d C.N = true := by exact rfl)
  (hy : (⟨tm, ob⟩ : St).ev C.E y = .pel k i off size := by exact rfl) (hob : ob[k]? = some (.row te size xs) := by exact rfl) (hl : loadX C.E ob t (.at_ e off) = some (p, x) := by exact rfl) : SGo C all pu (o :: rest) ⟨tm, ob⟩ K := qW e ho hg hdst hd hy hob he hl h
theorem yr (ks : List Nat) {q : ResultVar} {d d' : D} (he : d = d') (hn : nodupB ks = true := by exact rfl) (hk0 : ((List.range C.base.n0).all fun i => ks[i]? == some i) = true := by exact rfl) (hob : renObs ks ob ks = some ob' := by exact rfl) (hr : fn.results = #[q] := by exact rfl) (h : resX C ⟨tm, ob⟩ q = some d := by exact rfl) :
  go C (.code .ret :: r) ⟨tm, ob⟩ (EndSD C fn (.d d') ob') := retD1 ks hn hk0 hob hr h he
theorem yt (ks : List Nat) {q q' : ResultVar} {d d' : D} {l : List D} (he : [d, d'] = l) (hn : nodupB ks = true := by exact rfl) (hk0 : ((List.range C.base.n0).all fun i => ks[i]? == some i) = true := by exact rfl) (hob : renObs ks ob ks = some ob' := by exact rfl) (hr : fn.results = #[q, q'] := by exact rfl) (h : resX C ⟨tm, ob⟩ q = some d := by exact rfl) (h' : resX C ⟨tm, ob⟩ q' = some d' := by exact rfl) :
  go C (.code .ret :: r) ⟨tm, ob⟩ (EndSD C fn (.tup l) ob') := retD2 ks hn hk0 hob hr h h' he
theorem yo (ks : List Nat) (hn : nodupB ks = true := by exact rfl) (hk0 : ((List.range C.base.n0).all fun i => ks[i]? == some i) = true := by exact rfl) (hob : renObs ks ob ks = some ob' := by exact rfl) (hr : fn.results = #[] := by exact rfl) : go C [] ⟨tm, ob⟩ (EndS C fn (.tup []) ob') := endS0 ks hn hk0 hob hr
end
section
variable {E : Env} {f : FuncId} {fn : Func} {c : Code} {rx : X} {N : Nat} {d0 d1 d2 : D}
theorem ye1 (hf : E.P.funcs[f]? = some fn) (hN : fn.ntmps = N) (h : ∀ (w0 : World) (F0 O : Nat → Prop), go ⟨E, w0, F0, N, ⟨O, 0, []⟩⟩ [.code c] ⟨[(0, .d d0)], []⟩ (EndIs ⟨E, w0, F0, N, ⟨O, 0, []⟩⟩ fn rx)) (hb : fn.body = some c := by exact rfl) (hle : Nat.ble 1 N = true := by exact rfl) : Ev E f [d0] rx := enter1 hf hN hb hle h
theorem ye2 (hf : E.P.funcs[f]? = some fn) (hN : fn.ntmps = N) (h : ∀ (w0 : World) (F0 O : Nat → Prop), go ⟨E, w0, F0, N, ⟨O, 0, []⟩⟩ [.code c] ⟨[(0, .d d0), (1, .d d1)], []⟩ (EndIs ⟨E, w0, F0, N, ⟨O, 0, []⟩⟩ fn rx)) (hb : fn.body = some c := by exact rfl) (hle : Nat.ble 2 N = true := by exact rfl) : Ev E f [d0, d1] rx := enter2 hf hN hb hle h
theorem ye3 (hf : E.P.funcs[f]? = some fn) (hN : fn.ntmps = N) (h : ∀ (w0 : World) (F0 O : Nat → Prop), go ⟨E, w0, F0, N, ⟨O, 0, []⟩⟩ [.code c] ⟨[(0, .d d0), (1, .d d1), (2, .d d2)], []⟩ (EndIs ⟨E, w0, F0, N, ⟨O, 0, []⟩⟩ fn rx)) (hb : fn.body = some c := by exact rfl) (hle : Nat.ble 3 N = true := by exact rfl) : Ev E f [d0, d1, d2] rx := enter3 hf hN hb hle h
variable {xs : List X} {ob ob' : List AObj} {tm : List (Nat × X)} {n : Nat}
theorem yn (hf : E.P.funcs[f]? = some fn) (hN : fn.ntmps = N) (h : ∀ (w0 : World) (F0 O : Nat → Prop) (σ0 : Sg), go ⟨E, w0, F0, N, ⟨O, n, σ0⟩⟩ [.code c] ⟨tm, ob⟩ (EndS ⟨E, w0, F0, N, ⟨O, n, σ0⟩⟩ fn rx ob')) (hb : fn.body = some c := by exact rfl) (hle : Nat.ble xs.length N = true := by exact rfl)
  (hn : ob.length = n := by (dsimp only [List.range, List.range.loop, List.zip, List.zipWith, List.length] <;> exact rfl)) (ht : (List.range xs.length).zip xs = tm := by (dsimp only [List.range, List.range.loop, List.zip, List.zipWith, List.length] <;> exact rfl)) : EvS E f xs ob rx ob' := by
 subst hn ht
 exact EvS.enter hf hN hb hle h
theorem yd (hf : E.P.funcs[f]? = some fn) (hN : fn.ntmps = N) (h : ∀ (w0 : World) (F0 O : Nat → Prop) (σ0 : Sg), go ⟨E, w0, F0, N, ⟨O, n, σ0⟩⟩ [.code c] ⟨tm, ob⟩ (EndSD ⟨E, w0, F0, N, ⟨O, n, σ0⟩⟩ fn rx ob')) (hb : fn.body = some c := by exact rfl) (hle : Nat.ble xs.length N = true := by exact rfl)
  (hn : ob.length = n := by (dsimp only [List.range, List.range.loop, List.zip, List.zipWith, List.length] <;> exact rfl)) (ht : (List.range xs.length).zip xs = tm := by (dsimp only [List.range, List.range.loop, List.zip, List.zipWith, List.length] <;> exact rfl)) : EvS E f xs ob rx ob' := by
 subst hn ht
 exact EvS.enterD hf hN hb hle h
end
section
variable {C : Cx} {l : List Oper} {wob : List AObj} {E : List Nat} {ops : List Oper} {tm : List (Nat × X)} {ob : List AObj} {K : St → Prop} {r : List It} {Q : Exit → St → Prop}
theorem yu (id : Nat) (E T : List Nat) (h : RGo C id l E (killT T ob) 0 l ⟨tm, ob⟩ (fun s' => go C r s' Q)) (ho : ordOK l = true := by kernel_rfl) (hE : chainB (ancs l) E = true := by kernel_rfl) (hn : Nat.ble C.base.n0 (killT T ob).length = true := by exact rfl) (hw : wkP (killT T ob).length (killT T ob) ob := by repeat (first | exact trivial | refine ⟨⟨rfl, rfl⟩, ?_⟩ | refine ⟨trivial, ?_⟩)) : go C (.code (.region id l.toArray true) :: r) ⟨tm, ob⟩ Q := qRT E T ho hE hn hw h
theorem yk (id i n : Nat) (h : SGo C l.toArray true (ops.take n) ⟨tm, wob⟩ (fun s1 => TmB wob.length s1.tm ∧ RGo C id l E wob (i + n) (ops.drop n) ⟨s1.tm, ob⟩ K)) (hc : rgWB E i n = true := by kernel_rfl) (hn : Nat.ble n ops.length = true := by exact rfl) (hnd : dstND (ops.take n) = true := by kernel_rfl) (hb : TmB wob.length tm := by repeat (first | exact trivial | refine ⟨rfl, ?_⟩)) : RGo C id l E wob i ops ⟨tm, ob⟩ K := rgW n hc hn hnd hb h
end
end Go.Abs
namespace Go.Abs
open Go Go.RowKit
section
variable {C : Cx} {s : St} {o : Oper}
end
section
variable {C : Cx} {s : St} {o : Oper}
end
section
variable {C : Cx} {all : Array Oper} {pu : Bool} {K : St → Prop} {rest : List Oper} {tm : List (Nat × X)} {ob : List AObj} {d : Nat} {o : Oper}
end
end Go.Abs
namespace Go.Abs
open Go Go.RowKit
section
variable {C : Cx} {s : St} {o : Oper}
end
section
variable {C : Cx} {all : Array Oper} {pu : Bool} {K : St → Prop} {rest : List Oper} {tm : List (Nat × X)} {ob : List AObj} {d : Nat} {o : Oper}
end
end Go.Abs
namespace Go.Abs
open Go Go.RowKit
theorem Le.dead {C : Cx} {tm : List (Nat × X)} {ob : List AObj} : Le C ⟨tm, ob⟩ ⟨tm, ob ++ [.dead]⟩ := by
 rintro a w ⟨F, σ, h1, h2, h3, hi, h4, h5, hs⟩
 have hget : ∀ (o : Nat) (x : AObj) (p : Nat × Nat × Nat), (ob ++ [AObj.dead])[o]? = some x → (σ ++ [(0, 0, 0)])[o]? = some p → x.live = true → ob[o]? = some x ∧ σ[o]? = some p := by
  intro o x p hx hp hl
  have hlt : o < ob.length := by
   rcases Nat.lt_or_ge o ob.length with h | h
   ·exact h
   ·rw [List.getElem?_append_right h] at hx
    rcases Nat.eq_zero_or_pos (o - ob.length) with e | e
    ·rw [e] at hx; cases hx; simp [AObj.live] at hl
    ·rw [List.getElem?_eq_none (by simp; omega)] at hx; cases hx
  rw [List.getElem?_append_left hlt] at hx
  rw [List.getElem?_append_left (by rw [hi.len]; exact hlt)] at hp
  exact ⟨hx, hp⟩
 refine ⟨F, σ ++ [(0, 0, 0)], h1, h2, h3, ⟨hi.flt, hi.glob, by simp [hi.len], fun o x p hx hp => ?_, fun o o' x x' p p' hne hx hl hx' hl' hp hp' => ?_, fun i p hp hq => σ_app _ _ (hi.pre i p hp hq)⟩, h4, h5, fun t => (hs t).mono (fun _ h => h) (fun _ _ => rfl) σ_app⟩
 ·cases hl : x.live with
  | false =>
   cases x with
   | dead => trivial
   | _ => simp [AObj.live] at hl
  | true =>
   obtain ⟨g1, g2⟩ := hget o x p hx hp hl
   exact (hi.obs o x p g1 g2).mono (fun _ h => h) (fun _ _ => rfl) σ_app (fun _ => rfl) (fun _ h => h)
 ·obtain ⟨g1, g2⟩ := hget o x p hx hp hl
  obtain ⟨g3, g4⟩ := hget o' x' p' hx' hp' hl'
  exact hi.inj o o' x x' p p' hne g1 hl g3 hl' g2 g4
section
variable {C : Cx} {r : List It} {Q : Exit → St → Prop} {tm : List (Nat × X)} {ob : List AObj} {c : Code}
theorem go_dead (h : go C (.code c :: r) ⟨tm, ob ++ [.dead]⟩ Q) : go C (.code c :: r) ⟨tm, ob⟩ Q := go_weaken Le.dead h
end
end Go.Abs
namespace Go.Abs
open Go Go.RowKit
section
variable {C : Cx} {s : St} {o : Oper}
end
section
variable {C : Cx} {K : St → Prop} {all : Array Oper} {pu : Bool} {rest : List Oper} {tm : List (Nat × X)} {ob : List AObj} {d : Nat} {o : Oper}
end
end Go.Abs
namespace Go.Abs
open Go Go.RowKit
section
variable {C : Cx} {s : St} {o : Oper}
end
section
variable {C : Cx} {all : Array Oper} {pu : Bool} {K : St → Prop} {rest : List Oper} {tm : List (Nat × X)} {ob : List AObj} {d : Nat} {o : Oper}
end
end Go.Abs
namespace Go.Abs
open Go Go.RowKit
def Dn (eff : Nat → Bool) (L : Array Bool) : Nat → Bool := fun i => eff i && L.getD i false
structure DnOK (ops : List Oper) (eff : Nat → Bool) (i : Nat) (D : Nat → Bool) : Prop where
 sub : ∀ j, D j = true → eff j = true
 pre : ∀ j, eff j = true → Ahead ops j i → D j = true
 post : ∀ j, eff j = true → Ahead ops i j → D j = false
structure Dr2 (C : Cx) (s : St) (xs : List (Oper × Option X)) (ops : List Oper) (obT : (Nat → Bool) → List AObj) (eff : Nat → Bool) (L : Array Bool) (a : Act) (w : World) : Prop where
 size : L.size = ops.length
 down : DownL ops L
 rel : ∃ tm, C.Rel ⟨tm, obT (Dn eff L)⟩ a w ∧
  (∀ t, (∀ (j : Nat) o, ops[j]? = some o → L.getD j false = true → o.dst ≠ some t) → lk tm t = lk s.tm t) ∧
  (∀ (j : Nat) o x t, xs[j]? = some (o, x) → L.getD j false = true → o.dst = some t → lk tm t = x.getD .und)
theorem Dr2.all {C : Cx} {s : St} {xs : List (Oper × Option X)} {ops : List Oper} {obT : (Nat → Bool) → List AObj} {eff : Nat → Bool} (hx : xs.map (·.1) = ops) (ho : OrdOK ops)
  (hdk : ∀ (i : Nat) o x, xs[i]? = some (o, x) → dstOK C o = true ∧ GuardIs ops.toArray (stps s (xs.take i)) o x.isSome)
  (hv : ∀ (i : Nat) o x, eff i = false → xs[i]? = some (o, x) → ∀ y, x = some y → ∀ D, DnOK ops eff i D → VOp C ⟨(stps s (xs.take i)).tm, obT D⟩ o y)
  (hve : ∀ (i : Nat) o x, eff i = true → xs[i]? = some (o, x) → ∃ y, x = some y ∧ ∀ D, DnOK ops eff i D → D i = false → ∀ tm', (∀ z ∈ o.op.operands.toList, (⟨tm', obT D⟩ : St).ev C.E z = (⟨(stps s (xs.take i)).tm, obT D⟩ : St).ev C.E z) →
   (∀ t, lk tm' t = lk s.tm t ∨ ∃ j p z, j ≠ i ∧ ¬ Ahead ops i j ∧ xs[j]? = some (p, z) ∧ lk tm' t = z.getD .und) → SOp C ⟨tm', obT D⟩ o ((⟨tm', obT (fun j => D j || j == i)⟩ : St).put o.dst y))
  {Q : Exit → Act → World → Prop} (hq : ∀ a w, C.Rel ⟨(stps s xs).tm, obT (fun j => eff j && decide (j < ops.length))⟩ a w → Q .normal a w) :
  ∀ (fuel : Nat) (L : Array Bool) (a : Act) (w : World), unl ops.length L ≤ fuel → Dr2 C s xs ops obT eff L a w → wpAny C.E.P .any ops.toArray Q fuel L a w := by
 have hxo : ∀ (i : Nat) o, ops[i]? = some o → ∃ x, xs[i]? = some (o, x) := by
  intro i o hi
  rw [← hx, List.getElem?_map] at hi
  cases hxi : xs[i]? with
  | none => rw [hxi] at hi; cases hi
  | some p => rw [hxi] at hi; simp at hi; exact ⟨p.2, by rw [← hi]⟩
 have hox : ∀ (i : Nat) o x, xs[i]? = some (o, x) → ops[i]? = some o := by
  intro i o x hi
  rw [← hx, List.getElem?_map, hi]; rfl
 have hdst : ∀ (j : Nat) (p : Oper) d, ops.toArray[j]? = some p → p.dst = some d → d < C.N := by
  intro j p d hj hd
  rw [List.getElem?_toArray] at hj
  obtain ⟨x, hx'⟩ := hxo j p hj
  exact dstOK_lt (hdk j p x hx').1 d hd
 -- what a slot that the operation looks at holds
 have hlook : ∀ (i : Nat) (o : Oper) (x : Option X) (L : Array Bool) (tm : List (Nat × X)), xs[i]? = some (o, x) → L.getD i false = false → DownL ops L →
   (∀ e ∈ o.after, Region.binds .any e = true → L.getD e.on false = true) →
   (∀ t, (∀ (j : Nat) o, ops[j]? = some o → L.getD j false = true → o.dst ≠ some t) → lk tm t = lk s.tm t) →
   (∀ (j : Nat) o x t, xs[j]? = some (o, x) → L.getD j false = true → o.dst = some t → lk tm t = x.getD .und) →
   ∀ t ∈ o.looksAt ops.toArray, lk tm t = lk (stps s (xs.take i)).tm t := by
  intro i o x L tm hi hL hdown hready h1 h2 t ht
  by_cases hw : ∃ (j : Nat) (p : Oper), ops[j]? = some p ∧ p.dst = some t
  ·obtain ⟨j, p, hj, hp⟩ := hw
   obtain ⟨y, hy⟩ := hxo j p hj
   have huniq : ∀ (k : Nat) (q : Oper), k ≠ j → ops[k]? = some q → q.dst ≠ some t := fun k q hk hq => ho.uniq k j q p t hk hq hj hp
   by_cases hij : i = j
   ·subst hij
    have e : lk (stps s (xs.take i)).tm t = lk s.tm t := by
     refine lk_stps_other _ _ _ fun q hq => ?_
     obtain ⟨k, hk⟩ := List.getElem?_of_mem hq
     rw [List.getElem?_take] at hk
     split at hk
     ·exact huniq k q.1 (by omega) (hox k q.1 q.2 hk)
     ·cases hk
    rw [e]
    refine h1 t fun k q hk hkl => ?_
    by_cases hki : k = i
    ·subst hki; rw [hL] at hkl; cases hkl
    ·exact huniq k q hki hk
   ·obtain ⟨ha, hb⟩ := ho.looks i j o p t hij (hox i o x hi) hj hp ht
    by_cases hlt : j < i
    ·obtain ⟨e, he, hbd, hej⟩ := ha hlt
     have hjl : L.getD j false = true := by rw [← hej]; exact hready e he hbd
     have e1 : lk (stps s (xs.take i)).tm t = y.getD .und := by
      refine lk_stps_one _ _ t j p y (by rw [List.getElem?_take, if_pos hlt]; exact hy) hp fun k q hk hq => ?_
      rw [List.getElem?_take] at hq
      split at hq
      ·exact huniq k q.1 hk (hox k q.1 q.2 hq)
      ·cases hq
     rw [e1]
     exact h2 j p y t hy hjl hp
    ·obtain ⟨e, he, hbd, hei⟩ := hb hlt
     have hjl : L.getD j false = false := by
      cases hjl : L.getD j false with
      | false => rfl
      | true =>
       have := hdown j p e hj hjl he hbd
       rw [hei, hL] at this
       cases this
     have e1 : lk (stps s (xs.take i)).tm t = lk s.tm t := by
      refine lk_stps_other _ _ _ fun q hq => ?_
      obtain ⟨k, hk⟩ := List.getElem?_of_mem hq
      rw [List.getElem?_take] at hk
      split at hk
      ·exact huniq k q.1 (by omega) (hox k q.1 q.2 hk)
      ·cases hk
     rw [e1]
     refine h1 t fun k q hk hkl => ?_
     by_cases hkj : k = j
     ·subst hkj; rw [hjl] at hkl; cases hkl
     ·exact huniq k q hkj hk
  ·have hno : ∀ (k : Nat) (q : Oper), ops[k]? = some q → q.dst ≠ some t := fun k q hk hq => hw ⟨k, q, hk, hq⟩
   have e1 : lk (stps s (xs.take i)).tm t = lk s.tm t := by
    refine lk_stps_other _ _ _ fun q hq => ?_
    obtain ⟨k, hk⟩ := List.getElem?_of_mem hq
    rw [List.getElem?_take] at hk
    split at hk
    ·exact hno k q.1 (hox k q.1 q.2 hk)
    ·cases hk
   rw [e1]
   exact h1 t fun k q hk _ => hno k q hk
 -- the end
 have hfin : ∀ (L : Array Bool) (a : Act) (w : World), (∀ i, i < ops.length → L.getD i false = true) → Dr2 C s xs ops obT eff L a w → Q .normal a w := by
  intro L a w hall hO
  obtain ⟨tm, hr, h1, h2⟩ := hO.rel
  have hk : Dn eff L = fun j => eff j && decide (j < ops.length) := by
   funext j
   unfold Dn
   by_cases hj : j < ops.length
   ·rw [hall j hj, decide_eq_true hj]
   ·rw [decide_eq_false hj]
    have : L.getD j false = false := by
     rw [Array.getD_eq_getD_getElem?, Array.getElem?_eq_none (by rw [hO.size]; omega)]; rfl
    rw [this]
  rw [hk] at hr
  refine hq a w (StEq.rel (s := ⟨tm, obT _⟩) (s' := ⟨(stps s xs).tm, obT _⟩) ⟨fun t => ?_, rfl⟩ hr)
  show lk (stps s xs).tm t = lk tm t
  by_cases hw : ∃ (j : Nat) (p : Oper), ops[j]? = some p ∧ p.dst = some t
  ·obtain ⟨j, p, hj, hp⟩ := hw
   obtain ⟨y, hy⟩ := hxo j p hj
   rw [lk_stps_one s xs t j p y hy hp fun k q hk hq => ho.uniq k j q.1 p t hk (hox k q.1 q.2 hq) hj hp]
   exact (h2 j p y t hy (hall j (List.getElem?_eq_some_iff.1 hj).1) hp).symm
  ·have hno : ∀ (k : Nat) (q : Oper), ops[k]? = some q → q.dst ≠ some t := fun k q hk hq => hw ⟨k, q, hk, hq⟩
   rw [lk_stps_other s xs t fun q hq => by
    obtain ⟨k, hk⟩ := List.getElem?_of_mem hq
    exact hno k q.1 (hox k q.1 q.2 hk)]
   exact (h1 t fun k q hk _ => hno k q hk).symm
 -- whoever is ready
 have hready : ∀ (L : Array Bool) i, i ∈ Region.ready .any ops.toArray L → L.size = ops.length → ∃ o, ops[i]? = some o ∧ L.getD i false = false ∧ ∀ e ∈ o.after, Region.binds .any e = true → L.getD e.on false = true := by
  intro L i hi hs
  unfold Region.ready at hi
  rw [List.mem_filter, List.mem_range] at hi
  obtain ⟨hlt, h⟩ := hi
  rw [List.size_toArray] at hlt
  rw [Bool.and_eq_true] at h
  obtain ⟨h1, h2⟩ := h
  have ho' : ops[i]? = some ops[i] := List.getElem?_eq_getElem hlt
  refine ⟨ops[i], ho', ?_, ?_⟩
  ·rw [← getD_tf (by omega)]; simpa using h1
  ·intro e he hbd
   rw [List.getElem?_toArray, ho'] at h2
   simp only [Option.map_some, Option.getD_some] at h2
   obtain ⟨k, hk, rfl⟩ := Array.getElem_of_mem he
   have := Array.all_eq_true.1 h2 k hk
   rw [hbd] at this
   simpa using this
 have hsome : ∀ (L : Array Bool) (a : Act) (w : World), Dr2 C s xs ops obT eff L a w → Region.ready .any ops.toArray L = [] → ∀ i, i < ops.length → L.getD i false = true := by
  intro L a w hO hr i
  induction i using Nat.strongRecOn with
  | _ i ih =>
   intro hi
   cases hL : L.getD i false with
   | true => rfl
   | false =>
    have ho' : ops[i]? = some ops[i] := List.getElem?_eq_getElem hi
    have hm : i ∈ Region.ready .any ops.toArray L := by
     unfold Region.ready
     rw [List.mem_filter, List.mem_range, List.size_toArray]
     refine ⟨hi, ?_⟩
     rw [getD_tf (by rw [hO.size]; exact hi), hL, List.getElem?_toArray, ho']
     simp only [Bool.not_false, Bool.true_and, Option.map_some, Option.getD_some]
     refine Array.all_eq_true.2 fun k hk => ?_
     cases hbd : Region.binds .any (ops[i]).after[k] with
     | false => simp
     | true =>
      have hb := ho.back i _ _ ho' (Array.getElem_mem hk) hbd
      rw [ih _ hb (by omega)]
      simp
    rw [hr] at hm
    cases hm
 intro fuel
 induction fuel with
 | zero =>
  intro L a w hu hO
  have hall : ∀ i, i < ops.length → L.getD i false = true := fun i hi => by
   rw [← getD_tf (by rw [hO.size]; exact hi)]
   exact unl_zero (by omega) i hi
  refine ⟨?_, hfin L a w hall hO⟩
  refine List.eq_nil_iff_forall_not_mem.2 fun i hi => ?_
  obtain ⟨o, h1, h2, _⟩ := hready L i hi hO.size
  rw [hall i (List.getElem?_eq_some_iff.1 h1).1] at h2
  cases h2
 | succ fuel ih =>
  intro L a w hu hO
  refine ⟨fun hr => hfin L a w (hsome L a w hO hr) hO, fun i hi => ?_⟩
  obtain ⟨o, hoi, hL, hed⟩ := hready L i hi hO.size
  have hlt : i < ops.length := (List.getElem?_eq_some_iff.1 hoi).1
  obtain ⟨x, hxi⟩ := hxo i o hoi
  obtain ⟨hd, hg⟩ := hdk i o x hxi
  obtain ⟨tm, hr, h1, h2⟩ := hO.rel
  have hl := hlook i o x L tm hxi hL hO.down hed h1 h2
  have hset : ∀ j, (L.setIfInBounds i true).getD j false = (L.getD j false || j == i) := fun j => getD_set_true (by rw [hO.size]; exact hlt)
  have hu' : unl ops.length (L.setIfInBounds i true) ≤ fuel := by
   have := unl_set (L := L) hO.size hlt (by rw [getD_tf (by rw [hO.size]; exact hlt)]; exact hL)
   omega
  have hdown' : DownL ops (L.setIfInBounds i true) := by
   intro j p e hj hjl hee hbd
   rw [hset] at hjl ⊢
   rw [Bool.or_eq_true] at hjl ⊢
   rcases hjl with hjl | hjl
   ·exact .inl (hO.down j p e hj hjl hee hbd)
   ·obtain rfl : j = i := by simpa using hjl
    rw [hoi] at hj
    cases hj
    exact .inl (hed e hee hbd)
  have hwant : Region.wanted o (yielded ops.toArray a.tmps) = x.isSome := by
   obtain ⟨F, σ, _, _, _, _, _, r5, hs⟩ := hr
   refine hg.wanted (N := C.N) hdst r5 (w := w) (F := F) (σ := σ) fun j pol t hgj ht => ?_
   rw [← hl t (by
    unfold Oper.looksAt
    refine List.mem_append.2 (.inr ?_)
    rw [hgj]
    show t ∈ ((ops.toArray[j]?).bind (·.dst)).toList
    rw [ht]
    simp)]
   exact hs t
  have hops : ∀ (ob : List AObj) (z : Operand), z ∈ o.op.operands.toList → (⟨tm, ob⟩ : St).ev C.E z = (stps s (xs.take i)).ev C.E z := by
   intro ob z hz
   cases z with
   | tmp t =>
    refine hl t ?_
    unfold Oper.looksAt
    refine List.mem_append.2 (.inl ?_)
    rw [List.mem_filterMap]
    exact ⟨_, hz, rfl⟩
   | _ => rfl
  have hone : ∀ (y : Option X) (ob : List AObj) (t : Nat), o.dst ≠ some t → lk ((⟨tm, ob⟩ : St).put o.dst (y.getD .und)).tm t = lk tm t := by
   intro y ob t ht
   cases hdd : o.dst with
   | none => rfl
   | some d =>
    simp only [St.put, lk]
    cases hb : Nat.beq d t with
    | true => exact absurd (by rw [hdd, Nat.eq_of_beq_eq_true hb]) ht
    | false => rfl
  have hnew : ∀ (ob : List AObj), (∀ t, (∀ (j : Nat) o, ops[j]? = some o → (L.setIfInBounds i true).getD j false = true → o.dst ≠ some t) → lk ((⟨tm, ob⟩ : St).put o.dst (x.getD .und)).tm t = lk s.tm t) ∧
    (∀ (j : Nat) o' x' t, xs[j]? = some (o', x') → (L.setIfInBounds i true).getD j false = true → o'.dst = some t → lk ((⟨tm, ob⟩ : St).put o.dst (x.getD .und)).tm t = x'.getD .und) := by
   intro ob
   refine ⟨fun t ht => ?_, fun j p y t hj hjl hp => ?_⟩
   ·rw [hone x ob t (ht i o hoi (by rw [hset]; simp))]
    exact h1 t fun j q hj hjl => ht j q hj (by rw [hset, hjl]; rfl)
   ·rw [hset, Bool.or_eq_true] at hjl
    by_cases hji : j = i
    ·subst hji
     rw [hxi] at hj
     cases hj
     rw [hp]
     exact lk_put_same _ _ _
    ·have hjl' : L.getD j false = true := by
      rcases hjl with h | h
      ·exact h
      ·exact absurd (by simpa using h) hji
     rw [hone x ob t (ho.uniq i j o p t (fun e => hji e.symm) hoi (hox j p y hj) hp)]
     exact h2 j p y t hj hjl' hp
  have hputob : ∀ (ob : List AObj) (y : X), (⟨tm, ob⟩ : St).put o.dst y = ⟨((⟨tm, ob⟩ : St).put o.dst y).tm, ob⟩ := by
   intro ob y
   cases o.dst <;> rfl
  have hD : DnOK ops eff i (Dn eff L) := by
   refine ⟨fun j hj => ?_, fun j hj ha => ?_, fun j hj ha => ?_⟩
   ·unfold Dn at hj
    rw [Bool.and_eq_true] at hj
    exact hj.1
   ·unfold Dn
    rw [hj, ha.ready hO.down hoi hed]; rfl
   ·unfold Dn
    rw [hj]
    cases hjl : L.getD j false with
    | false => rfl
    | true => rw [ha.down hO.down hjl] at hL; cases hL
  have hDset : Dn eff (L.setIfInBounds i true) = bif eff i then (fun j => Dn eff L j || j == i) else Dn eff L := by
   cases he : eff i with
   | true =>
    funext j
    show (eff j && (L.setIfInBounds i true).getD j false) = ((eff j && L.getD j false) || j == i)
    rw [hset]
    cases hji : j == i with
    | false => rw [Bool.or_false, Bool.or_false]
    | true => obtain rfl := eq_of_beq hji; rw [he]; simp
   | false =>
    funext j
    show (eff j && (L.setIfInBounds i true).getD j false) = (eff j && L.getD j false)
    rw [hset]
    cases hji : j == i with
    | false => rw [Bool.or_false]
    | true => obtain rfl := eq_of_beq hji; rw [he]; rfl
  unfold wpOp
  rw [List.getElem?_toArray, hoi]
  simp only
  cases he : eff i with
  | true =>
   rw [he, cond_true] at hDset
   obtain ⟨y, hy, heop⟩ := hve i o x he hxi
   rw [hy] at hwant hnew
   rw [if_pos (by rw [hwant]; rfl)]
   have hDi : Dn eff L i = false := by unfold Dn; rw [hL, Bool.and_false]
   have hslots : ∀ t, lk tm t = lk s.tm t ∨ ∃ j p z, j ≠ i ∧ ¬ Ahead ops i j ∧ xs[j]? = some (p, z) ∧ lk tm t = z.getD .und := by
    intro t
    by_cases hw : ∃ (j : Nat) (p : Oper), ops[j]? = some p ∧ L.getD j false = true ∧ p.dst = some t
    ·obtain ⟨j, p, hj, hjl, hp⟩ := hw
     obtain ⟨z, hz⟩ := hxo j p hj
     exact .inr ⟨j, p, z, (fun e => by rw [e, hL] at hjl; cases hjl), (fun ha => by have := ha.down hO.down hjl; rw [hL] at this; cases this), hz, h2 j p z t hz hjl hp⟩
    ·exact .inl (h1 t fun j p hj hjl hp => hw ⟨j, p, hj, hjl, hp⟩)
   have hsop := heop _ hD hDi tm (fun z hz => (hops _ z hz).trans (by cases z <;> rfl)) hslots
   refine .inl (hsop w a _ Q hr fun a' w' hr' => ih _ _ _ hu' ⟨by simp [hO.size], hdown', ?_⟩)
   rw [hputob] at hr'
   rw [hDset]
   exact ⟨_, hr', (hnew _).1, (hnew _).2⟩
  | false =>
   rw [he, cond_false] at hDset
   have hnext : ∀ a' w', C.Rel ((⟨tm, obT (Dn eff L)⟩ : St).put o.dst (x.getD .und)) a' w' → wpAny C.E.P .any ops.toArray Q fuel (L.setIfInBounds i true) a' w' := by
    intro a' w' hr'
    refine ih _ _ _ hu' ⟨by simp [hO.size], hdown', ?_⟩
    rw [hputob] at hr'
    rw [hDset]
    exact ⟨_, hr', (hnew _).1, (hnew _).2⟩
   cases hx' : x with
   | none =>
    rw [hx'] at hwant hnext
    rw [if_neg (by rw [hwant]; simp)]
    refine hnext _ _ ?_
    obtain ⟨F, σ, r1, r2, r3, hi', r4, r5, hs⟩ := hr
    exact rel_put r1 r2 r3 hi' r4 r5 hs hd (Ext.refl hi'.flt) fun _ => rfl
   | some y =>
    rw [hx'] at hwant hnext
    rw [if_pos (by rw [hwant]; rfl)]
    have hvop' : VOp C ⟨tm, obT (Dn eff L)⟩ o y := by
     intro F σ w a K Q hi ho hK
     exact hv i o x he hxi y hx' _ hD F σ w a K Q hi (fun z hz => by
      have := ho z hz
      rw [hops _ z hz] at this
      exact this) hK
    refine .inl (hvop'.sop hd w a _ Q hr fun a' w' hr' => hnext a' w' hr')
def Cap.refs : Cap → List Nat
 | .d _ => []
 | .ptr o _ => [o]
 | .own o => [o]
def X.refs : X → List Nat
 | .ptr o _ => [o]
 | .own o => [o]
 | .mp o => [o]
 | .pel o _ _ _ => [o]
 | .sub o _ _ _ => [o]
 | .clo _ cs => cs.flatMap Cap.refs
 | .bnd _ cs => cs.flatMap Cap.refs
 | .st cs => cs.flatMap Cap.refs
 | _ => []
def AObj.refs : AObj → List Nat
 | .var _ c => c.cells.flatMap X.refs
 | _ => []
theorem capRd_agree {w : World} {F : Nat → Prop} {σ σ' : Sg} {c : Cap} {v : Value} (h : CapRd w F σ c v) (hσ : ∀ o ∈ c.refs, ∀ p, σ[o]? = some p → σ'[o]? = some p) : CapRd w F σ' c v := by
 cases c with
 | d x => exact h
 | ptr o off => obtain ⟨b, c, k, h1, h2⟩ := h; exact ⟨b, c, k, hσ o (by simp [Cap.refs]) _ h1, h2⟩
 | own o => obtain ⟨b, c, k, h1, h2⟩ := h; exact ⟨b, c, k, hσ o (by simp [Cap.refs]) _ h1, h2⟩
theorem RdX.agree {w : World} {F : Nat → Prop} {σ σ' : Sg} {x : X} {v : Value} (h : RdX w F σ x v) (hσ : ∀ o ∈ x.refs, ∀ p, σ[o]? = some p → σ'[o]? = some p) : RdX w F σ' x v := by
 cases x with
 | ptr o off => obtain ⟨b, c, n, h1, h2⟩ := h; exact ⟨b, c, n, hσ o (by simp [X.refs]) _ h1, h2⟩
 | own o => obtain ⟨b, c, n, h1, h2⟩ := h; exact ⟨b, c, n, hσ o (by simp [X.refs]) _ h1, h2⟩
 | pel o i off size => obtain ⟨b, c, n, h1, h2⟩ := h; exact ⟨b, c, n, hσ o (by simp [X.refs]) _ h1, h2⟩
 | sub o lo m size => obtain ⟨b, c, n, h1, h2⟩ := h; exact ⟨b, c, n, hσ o (by simp [X.refs]) _ h1, h2⟩
 | mp o => obtain ⟨b, c, n, h1, h2⟩ := h; exact ⟨b, c, n, hσ o (by simp [X.refs]) _ h1, h2⟩
 | clo f cs =>
  obtain ⟨us, e, hl, hr⟩ := h
  exact ⟨us, e, hl, fun i c u h1 h2 => capRd_agree (hr i c u h1 h2) fun o ho => hσ o (List.mem_flatMap.2 ⟨c, List.mem_of_getElem? h1, ho⟩)⟩
 | bnd f cs =>
  obtain ⟨us, e, hl, hr⟩ := h
  exact ⟨us, e, hl, fun i c u h1 h2 => capRd_agree (hr i c u h1 h2) fun o ho => hσ o (List.mem_flatMap.2 ⟨c, List.mem_of_getElem? h1, ho⟩)⟩
 | st cs =>
  obtain ⟨us, e, hl, h1', hr⟩ := h
  exact ⟨us, e, hl, h1', fun i c u h1 h2 => capRd_agree (hr i c u h1 h2) fun o ho => hσ o (List.mem_flatMap.2 ⟨c, List.mem_of_getElem? h1, ho⟩)⟩
 | _ => exact h
theorem ObOK.agree {w : World} {F : Nat → Prop} {σ σ' : Sg} {B : Nat → Prop} {x : AObj} {p : Nat × Nat × Nat} (h : ObOK w F σ B x p) (hσ : ∀ o ∈ x.refs, ∀ p, σ[o]? = some p → σ'[o]? = some p) : ObOK w F σ' B x p := by
 obtain ⟨b, c, k⟩ := p
 cases x with
 | var ty cs =>
  obtain ⟨vs, h1, h2, h3, h4, h5⟩ := h
  exact ⟨vs, h1, h2, h3, fun i x v a e => (h4 i x v a e).agree fun o ho => hσ o (List.mem_flatMap.2 ⟨x, List.mem_of_getElem? a, ho⟩), h5⟩
 | _ => exact h
theorem capRefs_below {n : Nat} {cs : List Cap} (h : (cs.all fun c => match c with | .ptr o _ => Nat.blt o n | .own o => Nat.blt o n | .d _ => true) = true) : ∀ o ∈ cs.flatMap Cap.refs, o < n := by
 intro o ho
 obtain ⟨c, hc, ho⟩ := List.mem_flatMap.1 ho
 have := List.all_eq_true.1 h c hc
 cases c with
 | d x => simp [Cap.refs] at ho
 | ptr q off => simp [Cap.refs] at ho; subst ho; simpa using this
 | own q => simp [Cap.refs] at ho; subst ho; simpa using this
theorem X.refs_below {n : Nat} {x : X} (h : x.below n = true) : ∀ o ∈ x.refs, o < n := by
 cases x with
 | ptr o off => intro q hq; simp [X.refs] at hq; subst hq; simpa [X.below] using h
 | own o => intro q hq; simp [X.refs] at hq; subst hq; simpa [X.below] using h
 | mp o => intro q hq; simp [X.refs] at hq; subst hq; simpa [X.below] using h
 | pel o i off size => intro q hq; simp [X.refs] at hq; subst hq; simpa [X.below] using h
 | sub o lo m size => intro q hq; simp [X.refs] at hq; subst hq; simpa [X.below] using h
 | clo f cs => exact capRefs_below h
 | bnd f cs => exact capRefs_below h
 | st cs => exact capRefs_below h
 | _ => intro q hq; simp [X.refs] at hq
theorem AObj.refs_below {n : Nat} {x : AObj} (h : x.below n = true) : ∀ o ∈ x.refs, o < n := by
 cases x with
 | var t c =>
  intro q hq
  obtain ⟨y, hy, hq⟩ := List.mem_flatMap.1 hq
  exact X.refs_below (List.all_eq_true.1 h y hy) q hq
 | _ => intro q hq; simp [AObj.refs] at hq
inductive NewX : (Nat → X) → Prop
 | own : NewX .own
 | ptr (off : Nat) : NewX (.ptr · off)
theorem NewX.rd {R : Nat → X} (h : NewX R) {w : World} {F : Nat → Prop} {σ σ' : Sg} {n j : Nat} {v : Value} (hv : RdX w F σ (R n) v) (hσ : ∀ p, σ[n]? = some p → σ'[j]? = some p) : RdX w F σ' (R j) v := by
 cases h with
 | own => obtain ⟨b, c, k, h1, h2⟩ := hv; exact ⟨b, c, k, hσ _ h1, h2⟩
 | ptr off => obtain ⟨b, c, k, h1, h2⟩ := hv; exact ⟨b, c, k, hσ _ h1, h2⟩
theorem rel_fill {C : Cx} {tm tm' : List (Nat × X)} {ob : List AObj} {j : Nat} {y : AObj} {R : Nat → X} {a : Act} {w : World} (hR : NewX R) (hj : ob[j]? = some .dead) (hjn : C.base.n0 ≤ j)
  (hob : ∀ x ∈ ob, ∀ o ∈ x.refs, o < ob.length ∧ o ≠ j) (hy : ∀ o ∈ y.refs, o < ob.length ∧ o ≠ j)
  (ht : ∀ t, (lk tm' t = lk tm t ∧ ∀ o ∈ (lk tm t).refs, o < ob.length ∧ o ≠ j) ∨ (lk tm t = R ob.length ∧ lk tm' t = R j))
  (h : C.Rel ⟨tm, ob ++ [y]⟩ a w) : C.Rel ⟨tm', ob.set j y⟩ a w := by
 obtain ⟨F, σ, h1, h2, h3, hi, h4, h5, hs⟩ := h
 have hlen : σ.length = ob.length + 1 := by have := hi.len; simpa using this
 have hjl : j < ob.length := (List.getElem?_eq_some_iff.1 hj).1
 obtain ⟨p, hp⟩ : ∃ p, σ[ob.length]? = some p := ⟨_, List.getElem?_eq_getElem (by omega)⟩
 have hag : ∀ o, o < ob.length → o ≠ j → ∀ q, σ[o]? = some q → ((σ.take ob.length).set j p)[o]? = some q := by
  intro o ho hne q hq
  rw [List.getElem?_set_ne (fun e => hne e.symm), List.getElem?_take, if_pos ho]
  exact hq
 have hgj : ((σ.take ob.length).set j p)[j]? = some p := by
  rw [List.getElem?_set_self (by rw [List.length_take]; omega)]
 have hyl : (ob ++ [y])[ob.length]? = some y := by simp
 have hold : ∀ o x, (ob.set j y)[o]? = some x → (o = j ∧ x = y) ∨ (o ≠ j ∧ ob[o]? = some x) := by
  intro o x hx
  by_cases e : o = j
  ·subst e
   rw [List.getElem?_set_self hjl] at hx
   exact .inl ⟨rfl, (Option.some.inj hx).symm⟩
  ·rw [List.getElem?_set_ne (fun e' => e e'.symm)] at hx
   exact .inr ⟨e, hx⟩
 have happ : ∀ {o x}, ob[o]? = some x → (ob ++ [y])[o]? = some x := fun {o x} hx => by
  rw [List.getElem?_append_left (List.getElem?_eq_some_iff.1 hx).1]; exact hx
 have hback : ∀ o q, o ≠ j → ((σ.take ob.length).set j p)[o]? = some q → σ[o]? = some q := by
  intro o q hne hq
  rw [List.getElem?_set_ne (fun e => hne e.symm), List.getElem?_take] at hq
  split at hq
  ·exact hq
  ·cases hq
 refine ⟨F, (σ.take ob.length).set j p, h1, h2, h3, ⟨hi.flt, hi.glob, by simp [List.length_take, hlen], fun o x q hx hq => ?_, fun o o' x x' q q' hne hx hl hx' hl' hq hq' => ?_, fun i q hin hq => ?_⟩, h4, h5, fun t => ?_⟩
 ·rcases hold o x hx with ⟨rfl, rfl⟩ | ⟨hne, hx1⟩
  ·rw [hgj] at hq
   cases hq
   exact (hi.obs _ _ _ hyl hp).agree fun o ho q hq => hag o (hy o ho).1 (hy o ho).2 q hq
  ·exact (hi.obs o x q (happ hx1) (hback o q hne hq)).agree fun r hr q hq => hag r (hob x (List.mem_of_getElem? hx1) r hr).1 (hob x (List.mem_of_getElem? hx1) r hr).2 q hq
 ·rcases hold o x hx with ⟨rfl, rfl⟩ | ⟨hn1, hx1⟩
  ·rcases hold o' x' hx' with ⟨rfl, rfl⟩ | ⟨hn2, hx2⟩
   ·exact absurd rfl hne
   ·rw [hgj] at hq
    cases hq
    have := (List.getElem?_eq_some_iff.1 hx2).1
    exact hi.inj ob.length o' _ _ _ _ (by omega) hyl hl (happ hx2) hl' hp (hback o' q' hn2 hq')
  ·rcases hold o' x' hx' with ⟨rfl, rfl⟩ | ⟨hn2, hx2⟩
   ·rw [hgj] at hq'
    cases hq'
    have := (List.getElem?_eq_some_iff.1 hx1).1
    exact hi.inj o ob.length _ _ _ _ (by omega) (happ hx1) hl hyl hl' (hback o q hn1 hq) hp
   ·exact hi.inj o o' _ _ _ _ hne (happ hx1) hl (happ hx2) hl' (hback o q hn1 hq) (hback o' q' hn2 hq')
 ·refine hag i (by omega) (by omega) q ?_
  exact hi.pre i q hin hq
 ·rcases ht t with ⟨e1, e2⟩ | ⟨e1, e2⟩
  ·show RdX w F _ (lk tm' t) _
   rw [e1]
   exact (hs t).agree fun o ho q hq => hag o (e2 o ho).1 (e2 o ho).2 q hq
  ·show RdX w F _ (lk tm' t) _
   have := hs t
   rw [show lk (⟨tm, ob ++ [y]⟩ : St).tm t = R ob.length from e1] at this
   rw [e2]
   exact hR.rd this fun q hq => by rw [hp] at hq; cases hq; exact hgj
def NOp (C : Cx) (tm : List (Nat × X)) (ob : List AObj) (o : Oper) (d : Nat) (R : Nat → X) (y : AObj) : Prop :=
 o.dst = some d ∧ ∀ tm' ob', Wk ob ob' → (∀ z ∈ o.op.operands.toList, (⟨tm', ob'⟩ : St).ev C.E z = (⟨tm, ob⟩ : St).ev C.E z) → SOp C ⟨tm', ob'⟩ o ⟨(d, R ob'.length) :: tm', ob' ++ [y]⟩
def putT (tm : List (Nat × X)) (o : Oper) (x : X) : List (Nat × X) := match o.dst with | some d => (d, x) :: tm | none => tm
inductive RM (C : Cx) (l : List Oper) (E : List Nat) (ob : List AObj) : Nat → Nat → List Oper → List (Nat × X) → List AObj → List (Nat × X) → Prop
 | nil (i k : Nat) (tm : List (Nat × X)) : RM C l E ob i k [] tm [] tm
 | skip {i k : Nat} {o : Oper} {rest : List Oper} {tm tm' : List (Nat × X)} {ys : List AObj} (hg : GuardIs l.toArray ⟨tm, ob⟩ o false) (hd : dstOK C o = true) (hne : E.contains i = false) (h : RM C l E ob (i + 1) k rest (putT tm o .und) ys tm') : RM C l E ob i k (o :: rest) tm ys tm'
 | val {i k : Nat} {o : Oper} {rest : List Oper} {tm tm' : List (Nat × X)} {ys : List AObj} {x : X} (hg : GuardIs l.toArray ⟨tm, ob⟩ o true) (hd : dstOK C o = true) (hne : E.contains i = false) (hv : ∀ ob', Wk ob ob' → VOp C ⟨tm, ob'⟩ o x)
   (hr : ∀ r ∈ x.refs, r < ob.length ∨ ∃ e, E[r - ob.length]? = some e ∧ Ahead l e i) (h : RM C l E ob (i + 1) k rest (putT tm o x) ys tm') : RM C l E ob i k (o :: rest) tm ys tm'
 | eff {i k d : Nat} {o : Oper} {rest : List Oper} {tm tm' : List (Nat × X)} {ys : List AObj} {R : Nat → X} {y : AObj} (hg : GuardIs l.toArray ⟨tm, ob⟩ o true) (hd : dstOK C o = true) (he : E[k]? = some i) (hR : NewX R) (hv : NOp C tm ob o d R y) (hy : ∀ r ∈ y.refs, r < ob.length)
   (h : RM C l E ob (i + 1) (k + 1) rest ((d, R (ob.length + k)) :: tm) ys tm') : RM C l E ob i k (o :: rest) tm (y :: ys) tm'
theorem put_putT (tm : List (Nat × X)) (ob : List AObj) (o : Oper) (x : X) : (⟨tm, ob⟩ : St).put o.dst x = ⟨putT tm o x, ob⟩ := by
 unfold putT
 cases o.dst <;> rfl
theorem RM.data {C : Cx} {l : List Oper} {E : List Nat} {ob : List AObj} {i k : Nat} {ops : List Oper} {tm tm' : List (Nat × X)} {ys : List AObj} (h : RM C l E ob i k ops tm ys tm') :
    ∃ xs : List (Oper × Option X), xs.map (·.1) = ops ∧ stps ⟨tm, ob⟩ xs = ⟨tm', ob⟩ ∧ (∀ (q : Nat) y, ys[q]? = some y → ∃ j, j < ops.length ∧ E[k + q]? = some (i + j)) ∧
      ∀ (j : Nat) o x, xs[j]? = some (o, x) → dstOK C o = true ∧ GuardIs l.toArray (stps ⟨tm, ob⟩ (xs.take j)) o x.isSome ∧
        ((E.contains (i + j) = false ∧ ∀ y, x = some y → (∀ ob', Wk ob ob' → VOp C ⟨(stps ⟨tm, ob⟩ (xs.take j)).tm, ob'⟩ o y) ∧ ∀ r ∈ y.refs, r < ob.length ∨ ∃ e, E[r - ob.length]? = some e ∧ Ahead l e (i + j)) ∨
         ∃ q d R y, E[k + q]? = some (i + j) ∧ ys[q]? = some y ∧ x = some (R (ob.length + (k + q))) ∧ NewX R ∧ NOp C (stps ⟨tm, ob⟩ (xs.take j)).tm ob o d R y ∧ ∀ r ∈ y.refs, r < ob.length) := by
  induction h with
  | nil i k tm => exact ⟨[], rfl, rfl, fun q y h => by simp at h, fun j o x h => by simp at h⟩
  | @skip i k o rest tm tm' ys hg hd hne hh ih =>
    obtain ⟨xs, h1, h2, h3, h4⟩ := ih
    have hs : ∀ zs, stps ⟨tm, ob⟩ ((o, none) :: zs) = stps ⟨putT tm o .und, ob⟩ zs := fun zs => by
      show stps ((⟨tm, ob⟩ : St).put o.dst .und) zs = _
      rw [put_putT]
    refine ⟨(o, none) :: xs, by simp [h1], (hs xs).trans h2, fun q y hq => ?_, fun j o' x' hj => ?_⟩
    · obtain ⟨j, j1, j2⟩ := h3 q y hq
      exact ⟨j + 1, by simpa using j1, by rw [j2, show i + 1 + j = i + (j + 1) by omega]⟩
    · cases j with
      | zero =>
        simp at hj
        obtain ⟨rfl, rfl⟩ := hj
        exact ⟨hd, hg, .inl ⟨hne, fun y hy => by cases hy⟩⟩
      | succ j =>
        have := h4 j o' x' (by simpa using hj)
        rw [show i + 1 + j = i + (j + 1) by omega, ← hs] at this
        exact this
  | @val i k o rest tm tm' ys x hg hd hne hv hr hh ih =>
    obtain ⟨xs, h1, h2, h3, h4⟩ := ih
    have hs : ∀ zs, stps ⟨tm, ob⟩ ((o, some x) :: zs) = stps ⟨putT tm o x, ob⟩ zs := fun zs => by
      show stps ((⟨tm, ob⟩ : St).put o.dst x) zs = _
      rw [put_putT]
    refine ⟨(o, some x) :: xs, by simp [h1], (hs xs).trans h2, fun q y hq => ?_, fun j o' x' hj => ?_⟩
    · obtain ⟨j, j1, j2⟩ := h3 q y hq
      exact ⟨j + 1, by simpa using j1, by rw [j2, show i + 1 + j = i + (j + 1) by omega]⟩
    · cases j with
      | zero =>
        simp at hj
        obtain ⟨rfl, rfl⟩ := hj
        exact ⟨hd, hg, .inl ⟨hne, fun y hy => by cases hy; exact ⟨hv, hr⟩⟩⟩
      | succ j =>
        have := h4 j o' x' (by simpa using hj)
        rw [show i + 1 + j = i + (j + 1) by omega, ← hs] at this
        exact this
  | @eff i k d o rest tm tm' ys R y hg hd he hR hv hy hh ih =>
    obtain ⟨xs, h1, h2, h3, h4⟩ := ih
    have hs : ∀ zs, stps ⟨tm, ob⟩ ((o, some (R (ob.length + k))) :: zs) = stps ⟨(d, R (ob.length + k)) :: tm, ob⟩ zs := fun zs => by
      show stps ((⟨tm, ob⟩ : St).put o.dst (R (ob.length + k))) zs = _
      rw [hv.1]; rfl
    refine ⟨(o, some (R (ob.length + k))) :: xs, by simp [h1], (hs xs).trans h2, fun q z hq => ?_, fun j o' x' hj => ?_⟩
    · cases q with
      | zero => exact ⟨0, by simp, by simpa using he⟩
      | succ q =>
        obtain ⟨j, j1, j2⟩ := h3 q z (by simpa using hq)
        exact ⟨j + 1, by simpa using j1, by rw [show k + (q + 1) = k + 1 + q by omega, j2, show i + 1 + j = i + (j + 1) by omega]⟩
    · cases j with
      | zero =>
        simp at hj
        obtain ⟨rfl, rfl⟩ := hj
        exact ⟨hd, hg, .inr ⟨0, d, R, y, by simpa using he, rfl, rfl, hR, hv, hy⟩⟩
      | succ j =>
        obtain ⟨a1, a2, a3⟩ := h4 j o' x' (by simpa using hj)
        rw [show i + 1 + j = i + (j + 1) by omega, ← hs] at a3
        rw [← hs] at a2
        refine ⟨a1, a2, ?_⟩
        rcases a3 with a3 | ⟨q, d', R', y', b1, b2, b3, b4, b5, b6⟩
        · exact .inl a3
        · refine .inr ⟨q + 1, d', R', y', by rw [show k + (q + 1) = k + 1 + q by omega]; exact b1, by simpa using b2, by rw [b3, show k + 1 + q = k + (q + 1) by omega], b4, b5, b6⟩
def zipD (D : Nat → Bool) : List Nat → List AObj → List AObj
 | e :: E, y :: ys => (bif D e then y else .dead) :: zipD D E ys
 | _, _ => []
theorem zipD_get (D : Nat → Bool) : ∀ {E : List Nat} {ys : List AObj} {q e : Nat} {y : AObj}, E[q]? = some e → ys[q]? = some y → (zipD D E ys)[q]? = some (bif D e then y else .dead)
 | a :: E, b :: ys, 0, e, y, h1, h2 => by simp at h1 h2; subst h1 h2; rfl
 | a :: E, b :: ys, q + 1, e, y, h1, h2 => by
  simp only [zipD, List.getElem?_cons_succ]
  exact zipD_get D (by simpa using h1) (by simpa using h2)
theorem zipD_len (D : Nat → Bool) : ∀ {E : List Nat} {ys : List AObj}, E.length = ys.length → (zipD D E ys).length = ys.length
 | [], [], _ => rfl
 | a :: E, b :: ys, h => by simp only [zipD, List.length_cons]; rw [zipD_len D (by simpa using h)]
theorem zipD_mem (D : Nat → Bool) : ∀ {E : List Nat} {ys : List AObj} {x : AObj}, x ∈ zipD D E ys → x = .dead ∨ x ∈ ys
 | a :: E, b :: ys, x, h => by
  simp only [zipD, List.mem_cons] at h
  rcases h with h | h
  ·cases hD : D a with
   | true => rw [hD] at h; exact .inr (by rw [h]; simp)
   | false => rw [hD] at h; exact .inl h
  ·rcases zipD_mem D h with h | h
   ·exact .inl h
   ·exact .inr (by simp [h])
 | [], ys, x, h => by simp [zipD] at h
 | a :: E, [], x, h => by simp [zipD] at h
theorem zipD_same {D D' : Nat → Bool} : ∀ {E : List Nat} {ys : List AObj}, (∀ e ∈ E, D e = D' e) → zipD D E ys = zipD D' E ys
 | [], ys, _ => rfl
 | a :: E, [], _ => rfl
 | a :: E, b :: ys, h => by simp only [zipD]; rw [h a (by simp), zipD_same (E := E) fun e he => h e (by simp [he])]
theorem zipD_set {D : Nat → Bool} {i : Nat} : ∀ {E : List Nat} {ys : List AObj} {q : Nat} {y : AObj}, nodupB E = true → E[q]? = some i → ys[q]? = some y → zipD (fun j => D j || j == i) E ys = (zipD D E ys).set q y
 | a :: E, b :: ys, 0, y, hn, h1, h2 => by
  simp at h1 h2; subst h1 h2
  simp only [zipD, List.set_cons_zero, beq_self_eq_true, Bool.or_true, cond_true]
  congr 1
  refine zipD_same fun e he => ?_
  have hne : e ≠ a := by
   rintro rfl
   obtain ⟨k, hk⟩ := List.getElem?_of_mem he
   have := nodupB_ne (i := 0) (j := k + 1) (a := e) hn (by simp) (by simpa using hk)
   omega
  rw [show (e == a) = false by simpa using hne, Bool.or_false]
 | a :: E, b :: ys, q + 1, y, hn, h1, h2 => by
  have hne : a ≠ i := by
   rintro rfl
   have := nodupB_ne (i := 0) (j := q + 1) (a := a) hn (by simp) h1
   omega
  simp only [zipD, List.set_cons_succ]
  rw [zipD_set (E := E) (q := q) (by simp only [nodupB, Bool.and_eq_true] at hn; exact hn.2) (by simpa using h1) (by simpa using h2), show (a == i) = false by simpa using hne, Bool.or_false]
theorem zipD_all {D : Nat → Bool} : ∀ {E : List Nat} {ys : List AObj}, E.length = ys.length → (∀ e ∈ E, D e = true) → zipD D E ys = ys
 | [], [], _, _ => rfl
 | a :: E, b :: ys, hl, h => by simp only [zipD]; rw [h a (by simp), cond_true, zipD_all (E := E) (by simpa using hl) fun e he => h e (by simp [he])]
theorem zipD_none {D : Nat → Bool} : ∀ {E : List Nat} {ys : List AObj}, E.length = ys.length → (∀ e ∈ E, D e = false) → zipD D E ys = List.replicate ys.length .dead
 | [], [], _, _ => rfl
 | a :: E, b :: ys, hl, h => by simp only [zipD]; rw [h a (by simp), cond_false, zipD_none (E := E) (by simpa using hl) fun e he => h e (by simp [he]), List.length_cons, List.replicate_succ]
theorem Le.deads {C : Cx} {tm : List (Nat × X)} : ∀ (n : Nat) (ob : List AObj), Le C ⟨tm, ob⟩ ⟨tm, ob ++ List.replicate n .dead⟩
 | 0, ob => by rw [List.replicate_zero, List.append_nil]; exact fun _ _ h => h
 | n + 1, ob => by
  intro a w h
  have := Le.deads n (ob ++ [.dead]) a w (Le.dead a w h)
  rwa [List.append_assoc, show [AObj.dead] ++ List.replicate n .dead = List.replicate (n + 1) .dead by rw [List.replicate_succ]; rfl] at this
theorem NewX.refs {R : Nat → X} (h : NewX R) (n : Nat) : (R n).refs = [n] := by cases h <;> rfl
theorem wk_app {ob zs : List AObj} (hO : ∀ x ∈ ob, x.below ob.length = true) : Wk ob (ob ++ zs) :=
 ⟨by simp, fun i x hx _ => ⟨by rw [List.getElem?_append_left (List.getElem?_eq_some_iff.1 hx).1]; exact hx, hO x (List.mem_of_getElem? hx)⟩⟩
theorem qRM_ {C : Cx} {r : List It} {Q : Exit → St → Prop} {tm tm' : List (Nat × X)} {ob ys : List AObj} {id : Nat} {l : List Oper} (E : List Nat) (ho : ordOK l = true) (hE : nodupB E = true) (hl : E.length = ys.length) (hT : ∀ t, (lk tm t).below ob.length = true) (hO : ∀ x ∈ ob, x.below ob.length = true) (hn : C.base.n0 ≤ ob.length)
  (h : RM C l E ob 0 0 l tm ys tm') (hk : go C r ⟨tm', ob ++ ys⟩ Q) : go C (.code (.region id l.toArray true) :: r) ⟨tm, ob⟩ Q := by
 intro a w hr0
 obtain ⟨xs, e1, e2, e3, e4⟩ := h.data
 have hr := Le.deads (C := C) (tm := tm) ys.length ob a w hr0
 have hxo : ∀ j, j < l.length → ∃ o x, xs[j]? = some (o, x) := fun j hj => by
  have : j < xs.length := by have h9 := congrArg List.length e1; rw [List.length_map] at h9; omega
  exact ⟨xs[j].1, xs[j].2, List.getElem?_eq_getElem this⟩
 have huniq : ∀ {p q e : Nat}, E[p]? = some e → E[q]? = some e → p = q := fun h1 h2 => nodupB_ne hE h1 h2
 have hys : ∀ y ∈ ys, ∀ r ∈ y.refs, r < ob.length := by
  intro y hy
  obtain ⟨q, hq⟩ := List.getElem?_of_mem hy
  obtain ⟨j, j1, j2⟩ := e3 q y hq
  obtain ⟨o, x, hx⟩ := hxo j j1
  rcases (e4 j o x hx).2.2 with ⟨b1, -⟩ | ⟨q', d, R, y', b1, b2, -, -, -, b6⟩
  ·exfalso
   have : E.contains (0 + j) = true := by rw [List.contains_iff_mem]; exact List.mem_of_getElem? j2
   rw [this] at b1
   cases b1
  ·have := huniq b1 j2
   have e : q' = q := by omega
   subst e
   rw [hq] at b2
   cases b2
   exact b6
 have hfin : ∀ a w, C.Rel ⟨(stps ⟨tm, ob⟩ xs).tm, ob ++ zipD (fun j => E.contains j && decide (j < l.length)) E ys⟩ a w → C.Rel ⟨tm', ob ++ ys⟩ a w := by
  intro a w hr2
  have hz : zipD (fun j => E.contains j && decide (j < l.length)) E ys = ys := zipD_all hl fun e he => by
   obtain ⟨q, hq⟩ := List.getElem?_of_mem he
   have hql := (List.getElem?_eq_some_iff.1 hq).1
   obtain ⟨j, j1, j2⟩ := e3 q ys[q] (List.getElem?_eq_getElem (by omega))
   rw [Nat.zero_add, Nat.zero_add, hq] at j2
   cases j2
   rw [decide_eq_true j1, Bool.and_true, List.contains_iff_mem]
   exact he
  rw [hz, e2] at hr2
  exact hr2
 refine wp_region_any C.E.hM ?_
 refine Dr2.all (s := ⟨tm, ob⟩) (xs := xs) (obT := fun D => ob ++ zipD D E ys) (eff := fun i => E.contains i) e1 (ordOK_spec ho) (fun i o x hi => ⟨(e4 i o x hi).1, (e4 i o x hi).2.1⟩) (fun i o x he hi y hy D hD => ?_) (fun i o x he hi => ?_) (fun a w hr2 => ⟨⟨tm', ob ++ ys⟩, hfin a w hr2, hk⟩) _ _ _ _ ?_
  ⟨by simp, fun j o' ed ho' hL => ?_, tm, ?_, fun t _ => rfl, fun j o' x t hj hL => ?_⟩
 ·rcases (e4 i o x hi).2.2 with ⟨-, b2⟩ | ⟨q', d, R, y', b1, -⟩
  ·exact (b2 y hy).1 _ (wk_app hO)
  ·exfalso
   rw [Nat.zero_add, Nat.zero_add] at b1
   have : E.contains i = true := by rw [List.contains_iff_mem]; exact List.mem_of_getElem? b1
   rw [this] at he
   cases he
 ·rcases (e4 i o x hi).2.2 with ⟨b1, -⟩ | ⟨q, d, R, y, b1, b2, b3, b4, b5, b6⟩
  ·rw [Nat.zero_add] at b1
   rw [b1] at he
   cases he
  ·rw [Nat.zero_add, Nat.zero_add] at b1
   rw [Nat.zero_add] at b3
   refine ⟨_, b3, fun D hD hDi tm2 hev hsl => ?_⟩
   have hql : q < ys.length := (List.getElem?_eq_some_iff.1 b2).1
   have hzl := zipD_len D hl
   have hfl : (ob ++ zipD D E ys).length = ob.length + ys.length := by rw [List.length_append, hzl]
   intro w2 a2 K2 Q2 hr3 hK
   refine b5.2 tm2 (ob ++ zipD D E ys) (wk_app hO) (fun z hz => hev z hz) w2 a2 K2 Q2 hr3 fun a' w' hr4 => hK a' w' ?_
   have hset : ob ++ zipD (fun j => D j || j == i) E ys = (ob ++ zipD D E ys).set (ob.length + q) y := by
    rw [zipD_set hE b1 b2, List.set_append, if_neg (by omega), Nat.add_sub_cancel_left]
   rw [b5.1]
   show C.Rel ⟨(d, R (ob.length + q)) :: tm2, ob ++ zipD (fun j => D j || j == i) E ys⟩ a' w'
   rw [hset]
   refine rel_fill b4 ?_ (by omega) (fun x hx o ho => ?_) (fun o ho => ?_) (fun t => ?_) hr4
   ·rw [List.getElem?_append_right (by omega), Nat.add_sub_cancel_left, zipD_get D b1 b2, hDi]; rfl
   ·rw [hfl]
    rcases List.mem_append.1 hx with hx | hx
    ·have := AObj.refs_below (hO x hx) o ho
     omega
    ·rcases zipD_mem D hx with rfl | hx
     ·simp [AObj.refs] at ho
     ·have := hys x hx o ho
      omega
   ·rw [hfl]
    have := b6 o ho
    omega
   ·cases hdt : Nat.beq d t with
    | true =>
     refine .inr ⟨?_, ?_⟩
     ·simp only [lk, hdt, cond_true]
     ·simp only [lk, hdt, cond_true]
    | false =>
     refine .inl ⟨by simp only [lk, hdt, cond_false], ?_⟩
     simp only [lk, hdt, cond_false]
     rw [hfl]
     intro o ho
     rcases hsl t with e | ⟨j, p, z, j1, j2, j3, e⟩
     ·rw [e] at ho
      have := X.refs_below (hT t) o ho
      omega
     ·rw [e] at ho
      cases z with
      | none => simp [X.refs] at ho
      | some v =>
       rw [Option.getD_some] at ho
       rcases (e4 j p (some v) j3).2.2 with ⟨-, c2⟩ | ⟨q', d', R', y', c1, c2, c3, c4, -, -⟩
       ·rcases (c2 v rfl).2 o ho with h1 | ⟨e', h1, h2⟩
        ·omega
        ·have hlt := (List.getElem?_eq_some_iff.1 h1).1
         refine ⟨by omega, fun eq => j2 ?_⟩
         subst eq
         rw [Nat.add_sub_cancel_left, b1] at h1
         cases h1
         rwa [Nat.zero_add] at h2
       ·rw [Nat.zero_add] at c3
        cases c3
        rw [c4.refs, List.mem_singleton] at ho
        have hlt := (List.getElem?_eq_some_iff.1 c2).1
        refine ⟨by omega, fun eq => j1 ?_⟩
        have : q' = q := by omega
        subst this
        rw [Nat.zero_add, Nat.zero_add, b1] at c1
        cases c1
        rfl
 ·refine Nat.le_trans (List.length_filter_le _ _) ?_
  simp
 ·exfalso
  by_cases hlt : j < l.length <;> simp [hlt] at hL
 ·have hz : zipD (Dn (fun i => E.contains i) (Array.replicate l.toArray.size false)) E ys = List.replicate ys.length .dead := zipD_none hl fun e he => by
   unfold Dn
   have : (Array.replicate l.toArray.size false).getD e false = false := by
    rw [Array.getD_eq_getD_getElem?, Array.getElem?_replicate]
    split <;> rfl
   rw [this, Bool.and_false]
  show C.Rel ⟨tm, ob ++ zipD (Dn (fun i => E.contains i) (Array.replicate l.toArray.size false)) E ys⟩ a { w with drawn := w.drawn + 1 }
  rw [hz]
  obtain ⟨F, σ, r1, r2, r3, hi, r4, r5, hs⟩ := hr
  have hext : Ext w F { w with drawn := w.drawn + 1 } F := ⟨⟨rfl, rfl, rfl, Nat.le_refl _, fun _ _ => rfl⟩, fun _ h => h, fun _ h => .inl h, hi.flt⟩
  exact ⟨F, σ, r1.step hext.below, r2, r3, hi.ext hext, r4, r5, fun t => (hs t).ext hext hi.flt⟩
 ·exfalso
  by_cases hlt : j < l.length <;> simp [hlt] at hL
def RMgo (C : Cx) (_id : Nat) (l : List Oper) (E : List Nat) (ob : List AObj) (i k : Nat) (ops : List Oper) (tm : List (Nat × X)) (K : List (Nat × X) → List AObj → Prop) : Prop := ∃ ys tm', RM C l E ob i k ops tm ys tm' ∧ K tm' ys
section
variable {C : Cx} {r : List It} {Q : Exit → St → Prop} {tm : List (Nat × X)} {ob : List AObj} {id : Nat} {l : List Oper} {E : List Nat} {i k d : Nat} {o : Oper} {rest : List Oper} {K : List (Nat × X) → List AObj → Prop} {p : Prop} {x : X}
theorem qRM (id : Nat) (E : List Nat) (h : RMgo C id l E ob 0 0 l tm fun tm' ys => E.length = ys.length ∧ go C r ⟨tm', ob ++ ys⟩ Q) (ho : ordOK l = true := by kernel_rfl) (hE : nodupB E = true := by exact rfl) (hn : Nat.ble C.base.n0 ob.length = true := by exact rfl)
  (hT : TmB ob.length tm := by repeat (first | exact trivial | refine ⟨rfl, ?_⟩)) (hO : ObLe ob.length ob := by repeat (first | exact trivial | refine ⟨rfl, ?_⟩)) : go C (.code (.region id l.toArray true) :: r) ⟨tm, ob⟩ Q := by
 obtain ⟨ys, tm', h1, h2, h3⟩ := h
 exact qRM_ E ho hE h2 (fun t => hT.lk t) (fun x hx => hO.all x hx) (Nat.le_of_ble_eq_true hn) h1 h3
theorem rmN (h : K tm []) : RMgo C id l E ob i k [] tm K := ⟨[], tm, .nil _ _ _, h⟩
theorem rmV (hv : vop C ⟨dimT ob.length tm, ob⟩ o = some (p, x)) (h : RMgo C id l E ob (i + 1) k rest ((d, x) :: tm) K) (hp : p) (hne : E.contains i = false := by exact rfl) (hg : guardX l.toArray tm o = some true := by exact rfl) (hdst : o.dst = some d := by exact rfl) (hd : Nat.blt d C.N = true := by exact rfl)
  (hn : Nat.ble C.base.n0 ob.length = true := by exact rfl) (hb : x.below ob.length = true := by exact rfl) : RMgo C id l E ob i k (o :: rest) tm K := by
 obtain ⟨ys, tm', h1, h2⟩ := h
 refine ⟨ys, tm', .val (guardX_ok hg) (by simp only [dstOK, hdst]; exact hd) hne (fun ob' hw' => ((vop_ok hv hp).wk hw' (Nat.le_of_ble_eq_true hn) (lk_dim_below _ tm)).dim) (fun r hr => .inl (X.refs_below hb r hr)) ?_, h2⟩
 rw [putT, hdst]
 exact h1
theorem rmM {y : Operand} (hm : o.op = .move y ∨ o.op = .assign y) (h : RMgo C id l E ob (i + 1) k rest ((d, x) :: tm) K) (hf : fw ((⟨tm, ob⟩ : St).ev C.E y) = some (True, x) := by exact rfl) (hne : E.contains i = false := by exact rfl) (hg : guardX l.toArray tm o = some true := by exact rfl) (hdst : o.dst = some d := by exact rfl) (hd : Nat.blt d C.N = true := by exact rfl)
  (hb : (x.refs.all fun r => Nat.blt r ob.length || (match E[r - ob.length]? with | some e => aheadB (ancs l) e i | none => false)) = true := by kernel_rfl) : RMgo C id l E ob i k (o :: rest) tm K := by
 obtain ⟨ys, tm', h1, h2⟩ := h
 refine ⟨ys, tm', .val (guardX_ok hg) (by simp only [dstOK, hdst]; exact hd) hne (fun ob' _ => v_move (s := ⟨tm, ob'⟩) hm (show fw ((⟨tm, ob'⟩ : St).ev C.E y) = some (True, x) by cases y <;> exact hf)) (fun r hr => ?_) ?_, h2⟩
 ·have := List.all_eq_true.1 hb r hr
  rw [Bool.or_eq_true] at this
  rcases this with this | this
  ·exact .inl (by simpa using this)
  ·split at this
   ·rename_i e he
    exact .inr ⟨e, he, ancs_spec this⟩
   ·cases this
 ·rw [putT, hdst]
  exact h1
theorem rmMk {t : TypeId} {y z : Operand} {te : TE} {ky kz : IntKind} {n : Nat} {d0 : D} (h : RMgo C id l E ob (i + 1) (k + 1) rest ((d, .own (ob.length + k)) :: tm) fun tm' ys => K tm' (.row te.t te.size (List.replicate n d0) :: ys)) (hb : te.bytes * n ≤ 281474976710656) (hmx : n ≤ 9223372036854775807)
  (he : E[k]? = some i := by exact rfl) (ho : o.op = .makeSlice t y z := by exact rfl) (hg : guardX l.toArray tm o = some true := by exact rfl) (hdst : o.dst = some d := by exact rfl) (hd : Nat.blt d C.N = true := by exact rfl) (hte : elemT C.E t = some te := by exact rfl) (hy : (⟨tm, ob⟩ : St).ev C.E y = .d (.imm (.int ky (n : Int))) := by exact rfl)
  (hz : (⟨tm, ob⟩ : St).ev C.E z = .d (.imm (.int kz (n : Int))) := by exact rfl) (hzd : zeroD te = some d0 := by exact rfl) (h1z : oneAll te.zero.cells.toList = true := by exact rfl) (hzs : te.zero.cells.size = te.size := by exact rfl) : RMgo C id l E ob i k (o :: rest) tm K := by
 obtain ⟨ys, tm', h1, h2⟩ := h
 have hdk : dstOK C o = true := by simp only [dstOK, hdst]; exact hd
 refine ⟨_ :: ys, tm', .eff (guardX_ok hg) hdk he .own ⟨hdst, fun tm2 ob2 hw hev => ?_⟩ (fun r hr => by simp [AObj.refs] at hr) h1, h2⟩
 have := s_make (C := C) (s := ⟨tm2, ob2⟩) ho hte ((hev y (by simp [ho, Op.operands])).trans hy) ((hev z (by simp [ho, Op.operands])).trans hz) hzd h1z hzs hb hmx hdk
 rw [hdst] at this
 exact this
end
end Go.Abs
namespace Go.Val
open Go Go.Abs
inductive V where
 | mk (k n d : Int) (s : ByteArray) (l : List V)
 deriving Inhabited
def V.k : V → Int | .mk k _ _ _ _ => k
def V.n : V → Int | .mk _ n _ _ _ => n
def V.d : V → Int | .mk _ _ d _ _ => d
def V.s : V → ByteArray | .mk _ _ _ s _ => s
def V.l : V → List V | .mk _ _ _ _ l => l
theorem V.eta (v : V) : V.mk v.k v.n v.d v.s v.l = v := by cases v; rfl
mutual
def kids : V → List D
 | .mk _ _ _ _ l => encL l
def encL : List V → List D
 | [] => []
 | v :: r => .agg [.int v.k, .int v.n, .int v.d, .str v.s, .sl (kids v)] :: encL r
end
def enc (v : V) : D := .agg [.int v.k, .int v.n, .int v.d, .str v.s, .sl (kids v)]
theorem encL_map (l : List V) : encL l = l.map enc := by
 induction l with
 | nil => simp [encL]
 | cons v r ih => simp [encL, ih, enc]
theorem kids_eq (v : V) : kids v = v.l.map enc := by
 cases v
 simp [kids, encL_map, V.l]
theorem kids_get {v : V} {i : Nat} {x : V} (h : v.l[i]? = some x) : (kids v)[i]? = some (enc x) := by
 rw [kids_eq, List.getElem?_map, h]; rfl
theorem encL_get {l : List V} {i : Nat} {x : V} (h : l[i]? = some x) : (encL l)[i]? = some (enc x) := by
 rw [encL_map, List.getElem?_map, h]; rfl
theorem kids_len (v : V) : (kids v).length = v.l.length := by rw [kids_eq]; simp
theorem encL_len (l : List V) : (encL l).length = l.length := by rw [encL_map]; simp
def encR (l : List (List V)) : List D := l.map fun r => .sl (encL r)
theorem fit_enc {v : V} (h : Fit (enc v)) : inR .i64 v.k ∧ inR .i64 v.n ∧ inR .i64 v.d ∧ v.s.size ≤ 9223372036854775807 ∧ v.l.length ≤ 9223372036854775807 ∧ ∀ x ∈ v.l, Fit (enc x) := by
 have hc := h.aggs
 have h5 := (hc (.sl (kids v)) (by simp)).sls
 rw [kids_len] at h5
 refine ⟨(hc (.int v.k) (by simp)).int, (hc (.int v.n) (by simp)).int, (hc (.int v.d) (by simp)).int, (hc (.str v.s) (by simp)).str, h5.1, fun x hx => h5.2 _ ?_⟩
 rw [kids_eq]
 exact List.mem_map_of_mem hx
theorem fit_encL {l : List V} (h : Fit (.sl (encL l))) : l.length ≤ 9223372036854775807 ∧ ∀ x ∈ l, Fit (enc x) := by
 have h5 := h.sls
 rw [encL_len] at h5
 refine ⟨h5.1, fun x hx => h5.2 _ ?_⟩
 rw [encL_map]
 exact List.mem_map_of_mem hx
def inM (n : Int) : Bool := decide (n ≥ -1000000000000000) && decide (n ≤ 1000000000000000)
theorem inM_iff (n : Int) : inM n = true ↔ -1000000000000000 ≤ n ∧ n ≤ 1000000000000000 := by simp [inM]
def gcdF (a b : Int) : Int := bif inM a && inM b then (Int.gcd a b : Int) else 0
def fval (n d : Int) : Bool := decide (d ≥ 1) && (decide (d ≤ 1000000000000000) && (inM n && ((Int.gcd n d : Int) == 1)))
def tt (b : Bool) : Int := bif b then 2 else 0
def vNull : V := .mk 0 0 0 ⟨#[]⟩ []
def s0 (s : ByteArray) : Bool := s.toList == (⟨#[]⟩ : ByteArray).toList
def strOK (s : ByteArray) : Bool := s.data.toList.all (fun b => !(decide (b.toNat < 32) || decide (b.toNat > 126))) && decide (s.size ≤ 100)
def okFlat (v : V) : Bool :=
 (v.k == 0 && (v.d == 0 && s0 v.s && v.l.length == 0) && v.n == 0) ||
 (v.k == 1 && (v.d == 0 && s0 v.s && v.l.length == 0) && (v.n == 0 || v.n == 1)) ||
 (v.k == 2 && (v.d == 0 && s0 v.s && v.l.length == 0) && inM v.n) ||
 (v.k == 3 && (s0 v.s && v.l.length == 0) && (decide (v.d ≥ 2) && fval v.n v.d)) ||
 (v.k == 4 && (v.d == 0 && v.l.length == 0) && (v.n == 0 && strOK v.s)) ||
 ((v.k == 5 || v.k == 6) && (v.d == 0 && s0 v.s && v.l.length == 0) && (decide (v.n ≥ 1) && decide (v.n ≤ 1000000)))
def okStep (i : Nat) (v : V) : Bool := v.k == (bif i % 2 == 0 then 5 else 6) && okFlat v
def okSteps : Nat → List V → Bool
 | _, [] => true
 | i, v :: r => okStep i v && okSteps (i + 1) r
def okPath (l : List V) : Bool := l.length % 2 == 1 && decide (l.length ≤ 25) && okSteps 0 l
def okN : Nat → V → Bool
 | 0, v => okFlat v || (v.k == 7 && (v.d == 0 && s0 v.s) && (v.n == 0 && okPath v.l))
 | m + 1, v => okFlat v || (v.k == 7 && (v.d == 0 && s0 v.s) && (v.n == 0 && okPath v.l)) || (v.k == 8 && (v.d == 0 && s0 v.s) && (v.n == 0 && decide (v.l.length ≤ 64) && v.l.all (okN m)))
def okV (v : V) : Bool := okN 8 v
def plainF (v : V) : Bool := (v.k == 1 || v.k == 2 || v.k == 4) && okV v
def isNum (v : V) : Bool := (v.k == 2 || v.k == 3) && okV v
def numN (v : V) : Int := bif isNum v then v.n else 0
def numD (v : V) : Int := bif isNum v then (bif v.k == 2 then 1 else v.d) else 0
end Go.Val
namespace Go.Proofs.YtkjcalhoffbjlaaGreatDoor
open Go Go.Abs
set_option maxRecDepth 100000
def te3 : TE := { t := 3, desc := Go.TypeDesc.int Go.IntKind.i64, size := 1, bytes := 8, zero := Go.Value.int Go.IntKind.i64 0 }
def te4 : TE := { t := 4, desc := Go.TypeDesc.bool, size := 1, bytes := 1, zero := Go.Value.bool false }
def te9 : TE := { t := 9, desc := Go.TypeDesc.string, size := 1, bytes := 16, zero := Go.Value.string { data := #[] } }
def te27 : TE := { t := 27, desc := Go.TypeDesc.struct #[{ name := "Vars", type := 25, offset := 0, embedded := false, tag := "", pkgPath := "", byteOffset := 0 }, { name := "Atoms", type := 26, offset := 1, embedded := false, tag := "", pkgPath := "", byteOffset := 24 }], size := 2, bytes := 48, zero := Go.Value.agg #[Go.Value.slice Option.none 0 0, Go.Value.slice Option.none 0 0] }
def te28 : TE := { t := 28, desc := Go.TypeDesc.struct #[{ name := "Vars", type := 25, offset := 0, embedded := false, tag := "", pkgPath := "", byteOffset := 0 }, { name := "Atoms", type := 26, offset := 1, embedded := false, tag := "", pkgPath := "", byteOffset := 24 }], size := 2, bytes := 48, zero := Go.Value.agg #[Go.Value.slice Option.none 0 0, Go.Value.slice Option.none 0 0] }
def te38 : TE := { t := 38, desc := Go.TypeDesc.struct #[{ name := "Kind", type := 3, offset := 0, embedded := false, tag := "", pkgPath := "", byteOffset := 0 }, { name := "N", type := 3, offset := 1, embedded := false, tag := "", pkgPath := "", byteOffset := 8 }, { name := "D", type := 3, offset := 2, embedded := false, tag := "", pkgPath := "", byteOffset := 16 }, { name := "S", type := 9, offset := 3, embedded := false, tag := "", pkgPath := "", byteOffset := 24 }, { name := "L", type := 37, offset := 4, embedded := false, tag := "", pkgPath := "", byteOffset := 40 }], size := 5, bytes := 64, zero := Go.Value.agg #[Go.Value.int Go.IntKind.i64 0, Go.Value.int Go.IntKind.i64 0, Go.Value.int Go.IntKind.i64 0, Go.Value.string { data := #[] }, Go.Value.slice Option.none 0 0] }
def te39 : TE := { t := 39, desc := Go.TypeDesc.struct #[{ name := "Kind", type := 3, offset := 0, embedded := false, tag := "", pkgPath := "", byteOffset := 0 }, { name := "N", type := 3, offset := 1, embedded := false, tag := "", pkgPath := "", byteOffset := 8 }, { name := "D", type := 3, offset := 2, embedded := false, tag := "", pkgPath := "", byteOffset := 16 }, { name := "S", type := 9, offset := 3, embedded := false, tag := "", pkgPath := "", byteOffset := 24 }, { name := "L", type := 37, offset := 4, embedded := false, tag := "", pkgPath := "", byteOffset := 40 }], size := 5, bytes := 64, zero := Go.Value.agg #[Go.Value.int Go.IntKind.i64 0, Go.Value.int Go.IntKind.i64 0, Go.Value.int Go.IntKind.i64 0, Go.Value.string { data := #[] }, Go.Value.slice Option.none 0 0] }
def te40 : TE := { t := 40, desc := Go.TypeDesc.struct #[{ name := "Kind", type := 3, offset := 0, embedded := false, tag := "", pkgPath := "", byteOffset := 0 }, { name := "Vars", type := 36, offset := 1, embedded := false, tag := "", pkgPath := "", byteOffset := 8 }, { name := "Name", type := 9, offset := 2, embedded := false, tag := "", pkgPath := "", byteOffset := 32 }, { name := "Types", type := 25, offset := 3, embedded := false, tag := "", pkgPath := "", byteOffset := 48 }, { name := "V", type := 39, offset := 4, embedded := false, tag := "", pkgPath := "", byteOffset := 72 }], size := 9, bytes := 136, zero := Go.Value.agg #[Go.Value.int Go.IntKind.i64 0, Go.Value.slice Option.none 0 0, Go.Value.string { data := #[] }, Go.Value.slice Option.none 0 0, Go.Value.int Go.IntKind.i64 0, Go.Value.int Go.IntKind.i64 0, Go.Value.int Go.IntKind.i64 0, Go.Value.string { data := #[] }, Go.Value.slice Option.none 0 0] }
def te41 : TE := { t := 41, desc := Go.TypeDesc.struct #[{ name := "Kind", type := 3, offset := 0, embedded := false, tag := "", pkgPath := "", byteOffset := 0 }, { name := "Vars", type := 36, offset := 1, embedded := false, tag := "", pkgPath := "", byteOffset := 8 }, { name := "Name", type := 9, offset := 2, embedded := false, tag := "", pkgPath := "", byteOffset := 32 }, { name := "Types", type := 25, offset := 3, embedded := false, tag := "", pkgPath := "", byteOffset := 48 }, { name := "V", type := 39, offset := 4, embedded := false, tag := "", pkgPath := "", byteOffset := 72 }], size := 9, bytes := 136, zero := Go.Value.agg #[Go.Value.int Go.IntKind.i64 0, Go.Value.slice Option.none 0 0, Go.Value.string { data := #[] }, Go.Value.slice Option.none 0 0, Go.Value.int Go.IntKind.i64 0, Go.Value.int Go.IntKind.i64 0, Go.Value.int Go.IntKind.i64 0, Go.Value.string { data := #[] }, Go.Value.slice Option.none 0 0] }
def te48 : TE := { t := 48, desc := Go.TypeDesc.struct #[{ name := "Nodes", type := 46, offset := 0, embedded := false, tag := "", pkgPath := "", byteOffset := 0 }, { name := "Edges", type := 47, offset := 1, embedded := false, tag := "", pkgPath := "", byteOffset := 24 }, { name := "NextNode", type := 3, offset := 2, embedded := false, tag := "", pkgPath := "", byteOffset := 48 }, { name := "NextEdge", type := 3, offset := 3, embedded := false, tag := "", pkgPath := "", byteOffset := 56 }], size := 4, bytes := 64, zero := Go.Value.agg #[Go.Value.slice Option.none 0 0, Go.Value.slice Option.none 0 0, Go.Value.int Go.IntKind.i64 0, Go.Value.int Go.IntKind.i64 0] }
def te49 : TE := { t := 49, desc := Go.TypeDesc.struct #[{ name := "Nodes", type := 46, offset := 0, embedded := false, tag := "", pkgPath := "", byteOffset := 0 }, { name := "Edges", type := 47, offset := 1, embedded := false, tag := "", pkgPath := "", byteOffset := 24 }, { name := "NextNode", type := 3, offset := 2, embedded := false, tag := "", pkgPath := "", byteOffset := 48 }, { name := "NextEdge", type := 3, offset := 3, embedded := false, tag := "", pkgPath := "", byteOffset := 56 }], size := 4, bytes := 64, zero := Go.Value.agg #[Go.Value.slice Option.none 0 0, Go.Value.slice Option.none 0 0, Go.Value.int Go.IntKind.i64 0, Go.Value.int Go.IntKind.i64 0] }
def te54 : TE := { t := 54, desc := Go.TypeDesc.struct #[{ name := "Arity", type := 3, offset := 0, embedded := false, tag := "", pkgPath := "", byteOffset := 0 }, { name := "Rows", type := 53, offset := 1, embedded := false, tag := "", pkgPath := "", byteOffset := 8 }], size := 2, bytes := 32, zero := Go.Value.agg #[Go.Value.int Go.IntKind.i64 0, Go.Value.slice Option.none 0 0] }
def te55 : TE := { t := 55, desc := Go.TypeDesc.struct #[{ name := "Arity", type := 3, offset := 0, embedded := false, tag := "", pkgPath := "", byteOffset := 0 }, { name := "Rows", type := 53, offset := 1, embedded := false, tag := "", pkgPath := "", byteOffset := 8 }], size := 2, bytes := 32, zero := Go.Value.agg #[Go.Value.int Go.IntKind.i64 0, Go.Value.slice Option.none 0 0] }
def te65 : TE := { t := 65, desc := Go.TypeDesc.struct #[{ name := "Var", type := 9, offset := 0, embedded := false, tag := "", pkgPath := "", byteOffset := 0 }, { name := "Nodes", type := 63, offset := 1, embedded := false, tag := "", pkgPath := "", byteOffset := 16 }, { name := "Edges", type := 64, offset := 2, embedded := false, tag := "", pkgPath := "", byteOffset := 40 }], size := 3, bytes := 64, zero := Go.Value.agg #[Go.Value.string { data := #[] }, Go.Value.slice Option.none 0 0, Go.Value.slice Option.none 0 0] }
def te66 : TE := { t := 66, desc := Go.TypeDesc.struct #[{ name := "Var", type := 9, offset := 0, embedded := false, tag := "", pkgPath := "", byteOffset := 0 }, { name := "Nodes", type := 63, offset := 1, embedded := false, tag := "", pkgPath := "", byteOffset := 16 }, { name := "Edges", type := 64, offset := 2, embedded := false, tag := "", pkgPath := "", byteOffset := 40 }], size := 3, bytes := 64, zero := Go.Value.agg #[Go.Value.string { data := #[] }, Go.Value.slice Option.none 0 0, Go.Value.slice Option.none 0 0] }
def te68 : TE := { t := 68, desc := Go.TypeDesc.struct #[{ name := "Var", type := 9, offset := 0, embedded := false, tag := "", pkgPath := "", byteOffset := 0 }, { name := "Labels", type := 25, offset := 1, embedded := false, tag := "", pkgPath := "", byteOffset := 16 }, { name := "Props", type := 67, offset := 2, embedded := false, tag := "", pkgPath := "", byteOffset := 40 }], size := 3, bytes := 64, zero := Go.Value.agg #[Go.Value.string { data := #[] }, Go.Value.slice Option.none 0 0, Go.Value.slice Option.none 0 0] }
def te69 : TE := { t := 69, desc := Go.TypeDesc.struct #[{ name := "Var", type := 9, offset := 0, embedded := false, tag := "", pkgPath := "", byteOffset := 0 }, { name := "Labels", type := 25, offset := 1, embedded := false, tag := "", pkgPath := "", byteOffset := 16 }, { name := "Props", type := 67, offset := 2, embedded := false, tag := "", pkgPath := "", byteOffset := 40 }], size := 3, bytes := 64, zero := Go.Value.agg #[Go.Value.string { data := #[] }, Go.Value.slice Option.none 0 0, Go.Value.slice Option.none 0 0] }
def te71 : TE := { t := 71, desc := Go.TypeDesc.struct #[{ name := "Var", type := 9, offset := 0, embedded := false, tag := "", pkgPath := "", byteOffset := 0 }, { name := "Types", type := 25, offset := 1, embedded := false, tag := "", pkgPath := "", byteOffset := 16 }, { name := "Dir", type := 3, offset := 2, embedded := false, tag := "", pkgPath := "", byteOffset := 40 }, { name := "Mode", type := 3, offset := 3, embedded := false, tag := "", pkgPath := "", byteOffset := 48 }, { name := "Min", type := 3, offset := 4, embedded := false, tag := "", pkgPath := "", byteOffset := 56 }, { name := "Max", type := 3, offset := 5, embedded := false, tag := "", pkgPath := "", byteOffset := 64 }, { name := "Props", type := 67, offset := 6, embedded := false, tag := "", pkgPath := "", byteOffset := 72 }], size := 7, bytes := 96, zero := Go.Value.agg #[Go.Value.string { data := #[] }, Go.Value.slice Option.none 0 0, Go.Value.int Go.IntKind.i64 0, Go.Value.int Go.IntKind.i64 0, Go.Value.int Go.IntKind.i64 0, Go.Value.int Go.IntKind.i64 0, Go.Value.slice Option.none 0 0] }
def te72 : TE := { t := 72, desc := Go.TypeDesc.struct #[{ name := "Var", type := 9, offset := 0, embedded := false, tag := "", pkgPath := "", byteOffset := 0 }, { name := "Types", type := 25, offset := 1, embedded := false, tag := "", pkgPath := "", byteOffset := 16 }, { name := "Dir", type := 3, offset := 2, embedded := false, tag := "", pkgPath := "", byteOffset := 40 }, { name := "Mode", type := 3, offset := 3, embedded := false, tag := "", pkgPath := "", byteOffset := 48 }, { name := "Min", type := 3, offset := 4, embedded := false, tag := "", pkgPath := "", byteOffset := 56 }, { name := "Max", type := 3, offset := 5, embedded := false, tag := "", pkgPath := "", byteOffset := 64 }, { name := "Props", type := 67, offset := 6, embedded := false, tag := "", pkgPath := "", byteOffset := 72 }], size := 7, bytes := 96, zero := Go.Value.agg #[Go.Value.string { data := #[] }, Go.Value.slice Option.none 0 0, Go.Value.int Go.IntKind.i64 0, Go.Value.int Go.IntKind.i64 0, Go.Value.int Go.IntKind.i64 0, Go.Value.int Go.IntKind.i64 0, Go.Value.slice Option.none 0 0] }
def te73 : TE := { t := 73, desc := Go.TypeDesc.struct #[{ name := "conj", type := 28, offset := 0, embedded := false, tag := "", pkgPath := "graphdb/atoms", byteOffset := 0 }, { name := "conds", type := 29, offset := 2, embedded := false, tag := "", pkgPath := "graphdb/atoms", byteOffset := 48 }, { name := "unnamed", type := 3, offset := 3, embedded := false, tag := "", pkgPath := "graphdb/atoms", byteOffset := 72 }], size := 4, bytes := 80, zero := Go.Value.agg #[Go.Value.slice Option.none 0 0, Go.Value.slice Option.none 0 0, Go.Value.slice Option.none 0 0, Go.Value.int Go.IntKind.i64 0] }
def te74 : TE := { t := 74, desc := Go.TypeDesc.struct #[{ name := "conj", type := 28, offset := 0, embedded := false, tag := "", pkgPath := "graphdb/atoms", byteOffset := 0 }, { name := "conds", type := 29, offset := 2, embedded := false, tag := "", pkgPath := "graphdb/atoms", byteOffset := 48 }, { name := "unnamed", type := 3, offset := 3, embedded := false, tag := "", pkgPath := "graphdb/atoms", byteOffset := 72 }], size := 4, bytes := 80, zero := Go.Value.agg #[Go.Value.slice Option.none 0 0, Go.Value.slice Option.none 0 0, Go.Value.slice Option.none 0 0, Go.Value.int Go.IntKind.i64 0] }
def te79 : TE := { t := 79, desc := Go.TypeDesc.struct #[{ name := "C", type := 28, offset := 0, embedded := false, tag := "", pkgPath := "", byteOffset := 0 }, { name := "E", type := 29, offset := 2, embedded := false, tag := "", pkgPath := "", byteOffset := 48 }, { name := "Next", type := 3, offset := 3, embedded := false, tag := "", pkgPath := "", byteOffset := 72 }], size := 4, bytes := 80, zero := Go.Value.agg #[Go.Value.slice Option.none 0 0, Go.Value.slice Option.none 0 0, Go.Value.slice Option.none 0 0, Go.Value.int Go.IntKind.i64 0] }
def te80 : TE := { t := 80, desc := Go.TypeDesc.struct #[{ name := "C", type := 28, offset := 0, embedded := false, tag := "", pkgPath := "", byteOffset := 0 }, { name := "E", type := 29, offset := 2, embedded := false, tag := "", pkgPath := "", byteOffset := 48 }, { name := "Next", type := 3, offset := 3, embedded := false, tag := "", pkgPath := "", byteOffset := 72 }], size := 4, bytes := 80, zero := Go.Value.agg #[Go.Value.slice Option.none 0 0, Go.Value.slice Option.none 0 0, Go.Value.slice Option.none 0 0, Go.Value.int Go.IntKind.i64 0] }
def te84 : TE := { t := 84, desc := Go.TypeDesc.struct #[{ name := "Op", type := 3, offset := 0, embedded := false, tag := "", pkgPath := "", byteOffset := 0 }, { name := "V", type := 39, offset := 1, embedded := false, tag := "", pkgPath := "", byteOffset := 8 }, { name := "Name", type := 9, offset := 6, embedded := false, tag := "", pkgPath := "", byteOffset := 72 }, { name := "Distinct", type := 4, offset := 7, embedded := false, tag := "", pkgPath := "", byteOffset := 88 }, { name := "Kids", type := 29, offset := 8, embedded := false, tag := "", pkgPath := "", byteOffset := 96 }], size := 9, bytes := 120, zero := Go.Value.agg #[Go.Value.int Go.IntKind.i64 0, Go.Value.int Go.IntKind.i64 0, Go.Value.int Go.IntKind.i64 0, Go.Value.int Go.IntKind.i64 0, Go.Value.string { data := #[] }, Go.Value.slice Option.none 0 0, Go.Value.string { data := #[] }, Go.Value.bool false, Go.Value.slice Option.none 0 0] }
def te85 : TE := { t := 85, desc := Go.TypeDesc.struct #[{ name := "Op", type := 3, offset := 0, embedded := false, tag := "", pkgPath := "", byteOffset := 0 }, { name := "V", type := 39, offset := 1, embedded := false, tag := "", pkgPath := "", byteOffset := 8 }, { name := "Name", type := 9, offset := 6, embedded := false, tag := "", pkgPath := "", byteOffset := 72 }, { name := "Distinct", type := 4, offset := 7, embedded := false, tag := "", pkgPath := "", byteOffset := 88 }, { name := "Kids", type := 29, offset := 8, embedded := false, tag := "", pkgPath := "", byteOffset := 96 }], size := 9, bytes := 120, zero := Go.Value.agg #[Go.Value.int Go.IntKind.i64 0, Go.Value.int Go.IntKind.i64 0, Go.Value.int Go.IntKind.i64 0, Go.Value.int Go.IntKind.i64 0, Go.Value.string { data := #[] }, Go.Value.slice Option.none 0 0, Go.Value.string { data := #[] }, Go.Value.bool false, Go.Value.slice Option.none 0 0] }
def te91 : TE := { t := 91, desc := Go.TypeDesc.struct #[{ name := "Kind", type := 3, offset := 0, embedded := false, tag := "", pkgPath := "", byteOffset := 0 }, { name := "Opt", type := 4, offset := 1, embedded := false, tag := "", pkgPath := "", byteOffset := 8 }, { name := "Distinct", type := 4, offset := 2, embedded := false, tag := "", pkgPath := "", byteOffset := 9 }, { name := "Paths", type := 22, offset := 3, embedded := false, tag := "", pkgPath := "", byteOffset := 16 }, { name := "Where", type := 29, offset := 4, embedded := false, tag := "", pkgPath := "", byteOffset := 40 }, { name := "E", type := 85, offset := 5, embedded := false, tag := "", pkgPath := "", byteOffset := 64 }, { name := "Name", type := 9, offset := 14, embedded := false, tag := "", pkgPath := "", byteOffset := 184 }, { name := "Items", type := 88, offset := 15, embedded := false, tag := "", pkgPath := "", byteOffset := 200 }, { name := "Order", type := 89, offset := 16, embedded := false, tag := "", pkgPath := "", byteOffset := 224 }, { name := "Skip", type := 3, offset := 17, embedded := false, tag := "", pkgPath := "", byteOffset := 248 }, { name := "Limit", type := 3, offset := 18, embedded := false, tag := "", pkgPath := "", byteOffset := 256 }, { name := "Sets", type := 90, offset := 19, embedded := false, tag := "", pkgPath := "", byteOffset := 264 }, { name := "Names", type := 25, offset := 20, embedded := false, tag := "", pkgPath := "", byteOffset := 288 }], size := 21, bytes := 312, zero := Go.Value.agg #[Go.Value.int Go.IntKind.i64 0, Go.Value.bool false, Go.Value.bool false, Go.Value.slice Option.none 0 0, Go.Value.slice Option.none 0 0, Go.Value.int Go.IntKind.i64 0, Go.Value.int Go.IntKind.i64 0, Go.Value.int Go.IntKind.i64 0, Go.Value.int Go.IntKind.i64 0, Go.Value.string { data := #[] }, Go.Value.slice Option.none 0 0, Go.Value.string { data := #[] }, Go.Value.bool false, Go.Value.slice Option.none 0 0, Go.Value.string { data := #[] }, Go.Value.slice Option.none 0 0, Go.Value.slice Option.none 0 0, Go.Value.int Go.IntKind.i64 0, Go.Value.int Go.IntKind.i64 0, Go.Value.slice Option.none 0 0, Go.Value.slice Option.none 0 0] }
def te92 : TE := { t := 92, desc := Go.TypeDesc.struct #[{ name := "Kind", type := 3, offset := 0, embedded := false, tag := "", pkgPath := "", byteOffset := 0 }, { name := "Opt", type := 4, offset := 1, embedded := false, tag := "", pkgPath := "", byteOffset := 8 }, { name := "Distinct", type := 4, offset := 2, embedded := false, tag := "", pkgPath := "", byteOffset := 9 }, { name := "Paths", type := 22, offset := 3, embedded := false, tag := "", pkgPath := "", byteOffset := 16 }, { name := "Where", type := 29, offset := 4, embedded := false, tag := "", pkgPath := "", byteOffset := 40 }, { name := "E", type := 85, offset := 5, embedded := false, tag := "", pkgPath := "", byteOffset := 64 }, { name := "Name", type := 9, offset := 14, embedded := false, tag := "", pkgPath := "", byteOffset := 184 }, { name := "Items", type := 88, offset := 15, embedded := false, tag := "", pkgPath := "", byteOffset := 200 }, { name := "Order", type := 89, offset := 16, embedded := false, tag := "", pkgPath := "", byteOffset := 224 }, { name := "Skip", type := 3, offset := 17, embedded := false, tag := "", pkgPath := "", byteOffset := 248 }, { name := "Limit", type := 3, offset := 18, embedded := false, tag := "", pkgPath := "", byteOffset := 256 }, { name := "Sets", type := 90, offset := 19, embedded := false, tag := "", pkgPath := "", byteOffset := 264 }, { name := "Names", type := 25, offset := 20, embedded := false, tag := "", pkgPath := "", byteOffset := 288 }], size := 21, bytes := 312, zero := Go.Value.agg #[Go.Value.int Go.IntKind.i64 0, Go.Value.bool false, Go.Value.bool false, Go.Value.slice Option.none 0 0, Go.Value.slice Option.none 0 0, Go.Value.int Go.IntKind.i64 0, Go.Value.int Go.IntKind.i64 0, Go.Value.int Go.IntKind.i64 0, Go.Value.int Go.IntKind.i64 0, Go.Value.string { data := #[] }, Go.Value.slice Option.none 0 0, Go.Value.string { data := #[] }, Go.Value.bool false, Go.Value.slice Option.none 0 0, Go.Value.string { data := #[] }, Go.Value.slice Option.none 0 0, Go.Value.slice Option.none 0 0, Go.Value.int Go.IntKind.i64 0, Go.Value.int Go.IntKind.i64 0, Go.Value.slice Option.none 0 0, Go.Value.slice Option.none 0 0] }
def te111 : TE := { t := 111, desc := Go.TypeDesc.struct #[{ name := "Id", type := 3, offset := 0, embedded := false, tag := "", pkgPath := "", byteOffset := 0 }, { name := "Labels", type := 25, offset := 1, embedded := false, tag := "", pkgPath := "", byteOffset := 8 }, { name := "Props", type := 110, offset := 2, embedded := false, tag := "", pkgPath := "", byteOffset := 32 }], size := 3, bytes := 56, zero := Go.Value.agg #[Go.Value.int Go.IntKind.i64 0, Go.Value.slice Option.none 0 0, Go.Value.slice Option.none 0 0] }
def te112 : TE := { t := 112, desc := Go.TypeDesc.struct #[{ name := "Id", type := 3, offset := 0, embedded := false, tag := "", pkgPath := "", byteOffset := 0 }, { name := "Labels", type := 25, offset := 1, embedded := false, tag := "", pkgPath := "", byteOffset := 8 }, { name := "Props", type := 110, offset := 2, embedded := false, tag := "", pkgPath := "", byteOffset := 32 }], size := 3, bytes := 56, zero := Go.Value.agg #[Go.Value.int Go.IntKind.i64 0, Go.Value.slice Option.none 0 0, Go.Value.slice Option.none 0 0] }
def te114 : TE := { t := 114, desc := Go.TypeDesc.struct #[{ name := "Id", type := 3, offset := 0, embedded := false, tag := "", pkgPath := "", byteOffset := 0 }, { name := "From", type := 3, offset := 1, embedded := false, tag := "", pkgPath := "", byteOffset := 8 }, { name := "To", type := 3, offset := 2, embedded := false, tag := "", pkgPath := "", byteOffset := 16 }, { name := "Type", type := 9, offset := 3, embedded := false, tag := "", pkgPath := "", byteOffset := 24 }, { name := "Props", type := 110, offset := 4, embedded := false, tag := "", pkgPath := "", byteOffset := 40 }], size := 5, bytes := 64, zero := Go.Value.agg #[Go.Value.int Go.IntKind.i64 0, Go.Value.int Go.IntKind.i64 0, Go.Value.int Go.IntKind.i64 0, Go.Value.string { data := #[] }, Go.Value.slice Option.none 0 0] }
def te115 : TE := { t := 115, desc := Go.TypeDesc.struct #[{ name := "Id", type := 3, offset := 0, embedded := false, tag := "", pkgPath := "", byteOffset := 0 }, { name := "From", type := 3, offset := 1, embedded := false, tag := "", pkgPath := "", byteOffset := 8 }, { name := "To", type := 3, offset := 2, embedded := false, tag := "", pkgPath := "", byteOffset := 16 }, { name := "Type", type := 9, offset := 3, embedded := false, tag := "", pkgPath := "", byteOffset := 24 }, { name := "Props", type := 110, offset := 4, embedded := false, tag := "", pkgPath := "", byteOffset := 40 }], size := 5, bytes := 64, zero := Go.Value.agg #[Go.Value.int Go.IntKind.i64 0, Go.Value.int Go.IntKind.i64 0, Go.Value.int Go.IntKind.i64 0, Go.Value.string { data := #[] }, Go.Value.slice Option.none 0 0] }
def te131 : TE := { t := 131, desc := Go.TypeDesc.struct #[{ name := "rels", type := 130, offset := 0, embedded := false, tag := "", pkgPath := "graphdb/atoms", byteOffset := 0 }, { name := "vars", type := 53, offset := 1, embedded := false, tag := "", pkgPath := "graphdb/atoms", byteOffset := 24 }, { name := "tuple", type := 36, offset := 2, embedded := false, tag := "", pkgPath := "graphdb/atoms", byteOffset := 48 }, { name := "out", type := 53, offset := 3, embedded := false, tag := "", pkgPath := "graphdb/atoms", byteOffset := 72 }], size := 4, bytes := 96, zero := Go.Value.agg #[Go.Value.slice Option.none 0 0, Go.Value.slice Option.none 0 0, Go.Value.slice Option.none 0 0, Go.Value.slice Option.none 0 0] }
def te132 : TE := { t := 132, desc := Go.TypeDesc.struct #[{ name := "rels", type := 130, offset := 0, embedded := false, tag := "", pkgPath := "graphdb/atoms", byteOffset := 0 }, { name := "vars", type := 53, offset := 1, embedded := false, tag := "", pkgPath := "graphdb/atoms", byteOffset := 24 }, { name := "tuple", type := 36, offset := 2, embedded := false, tag := "", pkgPath := "graphdb/atoms", byteOffset := 48 }, { name := "out", type := 53, offset := 3, embedded := false, tag := "", pkgPath := "graphdb/atoms", byteOffset := 72 }], size := 4, bytes := 96, zero := Go.Value.agg #[Go.Value.slice Option.none 0 0, Go.Value.slice Option.none 0 0, Go.Value.slice Option.none 0 0, Go.Value.slice Option.none 0 0] }
def te135 : TE := { t := 135, desc := Go.TypeDesc.struct #[{ name := "Key", type := 9, offset := 0, embedded := false, tag := "", pkgPath := "", byteOffset := 0 }, { name := "E", type := 85, offset := 1, embedded := false, tag := "", pkgPath := "", byteOffset := 16 }], size := 10, bytes := 136, zero := Go.Value.agg #[Go.Value.string { data := #[] }, Go.Value.int Go.IntKind.i64 0, Go.Value.int Go.IntKind.i64 0, Go.Value.int Go.IntKind.i64 0, Go.Value.int Go.IntKind.i64 0, Go.Value.string { data := #[] }, Go.Value.slice Option.none 0 0, Go.Value.string { data := #[] }, Go.Value.bool false, Go.Value.slice Option.none 0 0] }
def te136 : TE := { t := 136, desc := Go.TypeDesc.struct #[{ name := "Key", type := 9, offset := 0, embedded := false, tag := "", pkgPath := "", byteOffset := 0 }, { name := "E", type := 85, offset := 1, embedded := false, tag := "", pkgPath := "", byteOffset := 16 }], size := 10, bytes := 136, zero := Go.Value.agg #[Go.Value.string { data := #[] }, Go.Value.int Go.IntKind.i64 0, Go.Value.int Go.IntKind.i64 0, Go.Value.int Go.IntKind.i64 0, Go.Value.int Go.IntKind.i64 0, Go.Value.string { data := #[] }, Go.Value.slice Option.none 0 0, Go.Value.string { data := #[] }, Go.Value.bool false, Go.Value.slice Option.none 0 0] }
def te143 : TE := { t := 143, desc := Go.TypeDesc.struct #[{ name := "name", type := 9, offset := 0, embedded := false, tag := "", pkgPath := "graphdb/syntax", byteOffset := 0 }, { name := "names", type := 25, offset := 1, embedded := false, tag := "", pkgPath := "graphdb/syntax", byteOffset := 16 }, { name := "props", type := 67, offset := 2, embedded := false, tag := "", pkgPath := "graphdb/syntax", byteOffset := 40 }], size := 3, bytes := 64, zero := Go.Value.agg #[Go.Value.string { data := #[] }, Go.Value.slice Option.none 0 0, Go.Value.slice Option.none 0 0] }
def te144 : TE := { t := 144, desc := Go.TypeDesc.struct #[{ name := "name", type := 9, offset := 0, embedded := false, tag := "", pkgPath := "graphdb/syntax", byteOffset := 0 }, { name := "names", type := 25, offset := 1, embedded := false, tag := "", pkgPath := "graphdb/syntax", byteOffset := 16 }, { name := "props", type := 67, offset := 2, embedded := false, tag := "", pkgPath := "graphdb/syntax", byteOffset := 40 }], size := 3, bytes := 64, zero := Go.Value.agg #[Go.Value.string { data := #[] }, Go.Value.slice Option.none 0 0, Go.Value.slice Option.none 0 0] }
def te174 : TE := { t := 174, desc := Go.TypeDesc.struct #[{ name := "Key", type := 9, offset := 0, embedded := false, tag := "", pkgPath := "", byteOffset := 0 }, { name := "V", type := 39, offset := 1, embedded := false, tag := "", pkgPath := "", byteOffset := 16 }], size := 6, bytes := 80, zero := Go.Value.agg #[Go.Value.string { data := #[] }, Go.Value.int Go.IntKind.i64 0, Go.Value.int Go.IntKind.i64 0, Go.Value.int Go.IntKind.i64 0, Go.Value.string { data := #[] }, Go.Value.slice Option.none 0 0] }
def te175 : TE := { t := 175, desc := Go.TypeDesc.struct #[{ name := "Key", type := 9, offset := 0, embedded := false, tag := "", pkgPath := "", byteOffset := 0 }, { name := "V", type := 39, offset := 1, embedded := false, tag := "", pkgPath := "", byteOffset := 16 }], size := 6, bytes := 80, zero := Go.Value.agg #[Go.Value.string { data := #[] }, Go.Value.int Go.IntKind.i64 0, Go.Value.int Go.IntKind.i64 0, Go.Value.int Go.IntKind.i64 0, Go.Value.string { data := #[] }, Go.Value.slice Option.none 0 0] }
def te203 : TE := { t := 203, desc := Go.TypeDesc.struct #[{ name := "N", type := 3, offset := 0, embedded := false, tag := "", pkgPath := "", byteOffset := 0 }, { name := "D", type := 3, offset := 1, embedded := false, tag := "", pkgPath := "", byteOffset := 8 }], size := 2, bytes := 16, zero := Go.Value.agg #[Go.Value.int Go.IntKind.i64 0, Go.Value.int Go.IntKind.i64 0] }
def te204 : TE := { t := 204, desc := Go.TypeDesc.struct #[{ name := "N", type := 3, offset := 0, embedded := false, tag := "", pkgPath := "", byteOffset := 0 }, { name := "D", type := 3, offset := 1, embedded := false, tag := "", pkgPath := "", byteOffset := 8 }], size := 2, bytes := 16, zero := Go.Value.agg #[Go.Value.int Go.IntKind.i64 0, Go.Value.int Go.IntKind.i64 0] }
def te254 : TE := { t := 254, desc := Go.TypeDesc.struct #[{ name := "E", type := 85, offset := 0, embedded := false, tag := "", pkgPath := "", byteOffset := 0 }, { name := "As", type := 9, offset := 9, embedded := false, tag := "", pkgPath := "", byteOffset := 120 }], size := 10, bytes := 136, zero := Go.Value.agg #[Go.Value.int Go.IntKind.i64 0, Go.Value.int Go.IntKind.i64 0, Go.Value.int Go.IntKind.i64 0, Go.Value.int Go.IntKind.i64 0, Go.Value.string { data := #[] }, Go.Value.slice Option.none 0 0, Go.Value.string { data := #[] }, Go.Value.bool false, Go.Value.slice Option.none 0 0, Go.Value.string { data := #[] }] }
def te255 : TE := { t := 255, desc := Go.TypeDesc.struct #[{ name := "E", type := 85, offset := 0, embedded := false, tag := "", pkgPath := "", byteOffset := 0 }, { name := "As", type := 9, offset := 9, embedded := false, tag := "", pkgPath := "", byteOffset := 120 }], size := 10, bytes := 136, zero := Go.Value.agg #[Go.Value.int Go.IntKind.i64 0, Go.Value.int Go.IntKind.i64 0, Go.Value.int Go.IntKind.i64 0, Go.Value.int Go.IntKind.i64 0, Go.Value.string { data := #[] }, Go.Value.slice Option.none 0 0, Go.Value.string { data := #[] }, Go.Value.bool false, Go.Value.slice Option.none 0 0, Go.Value.string { data := #[] }] }
def te256 : TE := { t := 256, desc := Go.TypeDesc.struct #[{ name := "E", type := 85, offset := 0, embedded := false, tag := "", pkgPath := "", byteOffset := 0 }, { name := "Desc", type := 4, offset := 9, embedded := false, tag := "", pkgPath := "", byteOffset := 120 }], size := 10, bytes := 128, zero := Go.Value.agg #[Go.Value.int Go.IntKind.i64 0, Go.Value.int Go.IntKind.i64 0, Go.Value.int Go.IntKind.i64 0, Go.Value.int Go.IntKind.i64 0, Go.Value.string { data := #[] }, Go.Value.slice Option.none 0 0, Go.Value.string { data := #[] }, Go.Value.bool false, Go.Value.slice Option.none 0 0, Go.Value.bool false] }
def te257 : TE := { t := 257, desc := Go.TypeDesc.struct #[{ name := "E", type := 85, offset := 0, embedded := false, tag := "", pkgPath := "", byteOffset := 0 }, { name := "Desc", type := 4, offset := 9, embedded := false, tag := "", pkgPath := "", byteOffset := 120 }], size := 10, bytes := 128, zero := Go.Value.agg #[Go.Value.int Go.IntKind.i64 0, Go.Value.int Go.IntKind.i64 0, Go.Value.int Go.IntKind.i64 0, Go.Value.int Go.IntKind.i64 0, Go.Value.string { data := #[] }, Go.Value.slice Option.none 0 0, Go.Value.string { data := #[] }, Go.Value.bool false, Go.Value.slice Option.none 0 0, Go.Value.bool false] }
def te259 : TE := { t := 259, desc := Go.TypeDesc.struct #[{ name := "Var", type := 9, offset := 0, embedded := false, tag := "", pkgPath := "", byteOffset := 0 }, { name := "Key", type := 9, offset := 1, embedded := false, tag := "", pkgPath := "", byteOffset := 16 }, { name := "Label", type := 9, offset := 2, embedded := false, tag := "", pkgPath := "", byteOffset := 32 }, { name := "Off", type := 4, offset := 3, embedded := false, tag := "", pkgPath := "", byteOffset := 48 }, { name := "E", type := 85, offset := 4, embedded := false, tag := "", pkgPath := "", byteOffset := 56 }], size := 13, bytes := 176, zero := Go.Value.agg #[Go.Value.string { data := #[] }, Go.Value.string { data := #[] }, Go.Value.string { data := #[] }, Go.Value.bool false, Go.Value.int Go.IntKind.i64 0, Go.Value.int Go.IntKind.i64 0, Go.Value.int Go.IntKind.i64 0, Go.Value.int Go.IntKind.i64 0, Go.Value.string { data := #[] }, Go.Value.slice Option.none 0 0, Go.Value.string { data := #[] }, Go.Value.bool false, Go.Value.slice Option.none 0 0] }
def te260 : TE := { t := 260, desc := Go.TypeDesc.struct #[{ name := "Var", type := 9, offset := 0, embedded := false, tag := "", pkgPath := "", byteOffset := 0 }, { name := "Key", type := 9, offset := 1, embedded := false, tag := "", pkgPath := "", byteOffset := 16 }, { name := "Label", type := 9, offset := 2, embedded := false, tag := "", pkgPath := "", byteOffset := 32 }, { name := "Off", type := 4, offset := 3, embedded := false, tag := "", pkgPath := "", byteOffset := 48 }, { name := "E", type := 85, offset := 4, embedded := false, tag := "", pkgPath := "", byteOffset := 56 }], size := 13, bytes := 176, zero := Go.Value.agg #[Go.Value.string { data := #[] }, Go.Value.string { data := #[] }, Go.Value.string { data := #[] }, Go.Value.bool false, Go.Value.int Go.IntKind.i64 0, Go.Value.int Go.IntKind.i64 0, Go.Value.int Go.IntKind.i64 0, Go.Value.int Go.IntKind.i64 0, Go.Value.string { data := #[] }, Go.Value.slice Option.none 0 0, Go.Value.string { data := #[] }, Go.Value.bool false, Go.Value.slice Option.none 0 0] }
def te300 : TE := { t := 300, desc := Go.TypeDesc.struct #[{ name := "neg", type := 4, offset := 0, embedded := false, tag := "", pkgPath := "graphdb/frac", byteOffset := 0 }, { name := "hi", type := 237, offset := 1, embedded := false, tag := "", pkgPath := "graphdb/frac", byteOffset := 8 }, { name := "lo", type := 237, offset := 2, embedded := false, tag := "", pkgPath := "graphdb/frac", byteOffset := 16 }], size := 3, bytes := 24, zero := Go.Value.agg #[Go.Value.bool false, Go.Value.int Go.IntKind.u64 0, Go.Value.int Go.IntKind.u64 0] }
def te301 : TE := { t := 301, desc := Go.TypeDesc.struct #[{ name := "neg", type := 4, offset := 0, embedded := false, tag := "", pkgPath := "graphdb/frac", byteOffset := 0 }, { name := "hi", type := 237, offset := 1, embedded := false, tag := "", pkgPath := "graphdb/frac", byteOffset := 8 }, { name := "lo", type := 237, offset := 2, embedded := false, tag := "", pkgPath := "graphdb/frac", byteOffset := 16 }], size := 3, bytes := 24, zero := Go.Value.agg #[Go.Value.bool false, Go.Value.int Go.IntKind.u64 0, Go.Value.int Go.IntKind.u64 0] }
def te22 : TE := { t := 22, desc := Go.TypeDesc.slice 66, size := 1, bytes := 24, zero := Go.Value.slice Option.none 0 0 }
def te25 : TE := { t := 25, desc := Go.TypeDesc.slice 9, size := 1, bytes := 24, zero := Go.Value.slice Option.none 0 0 }
def te26 : TE := { t := 26, desc := Go.TypeDesc.slice 41, size := 1, bytes := 24, zero := Go.Value.slice Option.none 0 0 }
def te29 : TE := { t := 29, desc := Go.TypeDesc.slice 85, size := 1, bytes := 24, zero := Go.Value.slice Option.none 0 0 }
def te36 : TE := { t := 36, desc := Go.TypeDesc.slice 3, size := 1, bytes := 24, zero := Go.Value.slice Option.none 0 0 }
def te37 : TE := { t := 37, desc := Go.TypeDesc.slice 39, size := 1, bytes := 24, zero := Go.Value.slice Option.none 0 0 }
def te46 : TE := { t := 46, desc := Go.TypeDesc.slice 112, size := 1, bytes := 24, zero := Go.Value.slice Option.none 0 0 }
def te47 : TE := { t := 47, desc := Go.TypeDesc.slice 115, size := 1, bytes := 24, zero := Go.Value.slice Option.none 0 0 }
def te53 : TE := { t := 53, desc := Go.TypeDesc.slice 36, size := 1, bytes := 24, zero := Go.Value.slice Option.none 0 0 }
def te63 : TE := { t := 63, desc := Go.TypeDesc.slice 69, size := 1, bytes := 24, zero := Go.Value.slice Option.none 0 0 }
def te64 : TE := { t := 64, desc := Go.TypeDesc.slice 72, size := 1, bytes := 24, zero := Go.Value.slice Option.none 0 0 }
def te67 : TE := { t := 67, desc := Go.TypeDesc.slice 136, size := 1, bytes := 24, zero := Go.Value.slice Option.none 0 0 }
def te88 : TE := { t := 88, desc := Go.TypeDesc.slice 255, size := 1, bytes := 24, zero := Go.Value.slice Option.none 0 0 }
def te89 : TE := { t := 89, desc := Go.TypeDesc.slice 257, size := 1, bytes := 24, zero := Go.Value.slice Option.none 0 0 }
def te90 : TE := { t := 90, desc := Go.TypeDesc.slice 260, size := 1, bytes := 24, zero := Go.Value.slice Option.none 0 0 }
def te105 : TE := { t := 105, desc := Go.TypeDesc.slice 4, size := 1, bytes := 24, zero := Go.Value.slice Option.none 0 0 }
def te110 : TE := { t := 110, desc := Go.TypeDesc.slice 175, size := 1, bytes := 24, zero := Go.Value.slice Option.none 0 0 }
def te117 : TE := { t := 117, desc := Go.TypeDesc.slice 39, size := 1, bytes := 24, zero := Go.Value.slice Option.none 0 0 }
def te118 : TE := { t := 118, desc := Go.TypeDesc.slice 117, size := 1, bytes := 24, zero := Go.Value.slice Option.none 0 0 }
def te130 : TE := { t := 130, desc := Go.TypeDesc.slice 55, size := 1, bytes := 24, zero := Go.Value.slice Option.none 0 0 }
def te140 : TE := { t := 140, desc := Go.TypeDesc.slice 144, size := 1, bytes := 24, zero := Go.Value.slice Option.none 0 0 }
def te285 : TE := { t := 285, desc := Go.TypeDesc.slice 5, size := 1, bytes := 24, zero := Go.Value.slice Option.none 0 0 }
def te1 : TE := { t := 1, desc := Go.TypeDesc.func #[] #[] false, size := 1, bytes := 8, zero := Go.Value.nilFunc }
def te2 : TE := { t := 2, desc := Go.TypeDesc.int Go.IntKind.i64, size := 1, bytes := 8, zero := Go.Value.int Go.IntKind.i64 0 }
def te5 : TE := { t := 5, desc := Go.TypeDesc.int Go.IntKind.u8, size := 1, bytes := 1, zero := Go.Value.int Go.IntKind.u8 0 }
def te12 : TE := { t := 12, desc := Go.TypeDesc.int Go.IntKind.u64, size := 1, bytes := 8, zero := Go.Value.int Go.IntKind.u64 0 }
def te21 : TE := { t := 21, desc := Go.TypeDesc.int Go.IntKind.i32, size := 1, bytes := 4, zero := Go.Value.int Go.IntKind.i32 0 }
def te23 : TE := { t := 23, desc := Go.TypeDesc.func #[22] #[4] false, size := 1, bytes := 8, zero := Go.Value.nilFunc }
def te24 : TE := { t := 24, desc := Go.TypeDesc.func #[] #[4] false, size := 1, bytes := 8, zero := Go.Value.nilFunc }
def te31 : TE := { t := 31, desc := Go.TypeDesc.func #[22] #[28, 29, 22] false, size := 1, bytes := 8, zero := Go.Value.nilFunc }
def te32 : TE := { t := 32, desc := Go.TypeDesc.func #[28, 28] #[4] false, size := 1, bytes := 8, zero := Go.Value.nilFunc }
def te33 : TE := { t := 33, desc := Go.TypeDesc.func #[29, 29] #[4] false, size := 1, bytes := 8, zero := Go.Value.nilFunc }
def te34 : TE := { t := 34, desc := Go.TypeDesc.func #[22, 22] #[4] false, size := 1, bytes := 8, zero := Go.Value.nilFunc }
def te35 : TE := { t := 35, desc := Go.TypeDesc.func #[28] #[4] false, size := 1, bytes := 8, zero := Go.Value.nilFunc }
def te42 : TE := { t := 42, desc := Go.TypeDesc.func #[36, 36] #[3] false, size := 1, bytes := 8, zero := Go.Value.nilFunc }
def te43 : TE := { t := 43, desc := Go.TypeDesc.func #[41] #[36] false, size := 1, bytes := 8, zero := Go.Value.nilFunc }
def te44 : TE := { t := 44, desc := Go.TypeDesc.int Go.IntKind.i64, size := 1, bytes := 8, zero := Go.Value.int Go.IntKind.i64 0 }
def te45 : TE := { t := 45, desc := Go.TypeDesc.func #[28] #[44] false, size := 1, bytes := 8, zero := Go.Value.nilFunc }
def te50 : TE := { t := 50, desc := Go.TypeDesc.func #[49, 3, 3] #[4] false, size := 1, bytes := 8, zero := Go.Value.nilFunc }
def te51 : TE := { t := 51, desc := Go.TypeDesc.func #[41] #[4] false, size := 1, bytes := 8, zero := Go.Value.nilFunc }
def te52 : TE := { t := 52, desc := Go.TypeDesc.func #[55, 55] #[4] false, size := 1, bytes := 8, zero := Go.Value.nilFunc }
def te56 : TE := { t := 56, desc := Go.TypeDesc.func #[49, 41] #[55] false, size := 1, bytes := 8, zero := Go.Value.nilFunc }
def te57 : TE := { t := 57, desc := Go.TypeDesc.func #[49, 41] #[4] false, size := 1, bytes := 8, zero := Go.Value.nilFunc }
def te58 : TE := { t := 58, desc := Go.TypeDesc.func #[49, 28] #[4] false, size := 1, bytes := 8, zero := Go.Value.nilFunc }
def te59 : TE := { t := 59, desc := Go.TypeDesc.func #[49, 28] #[53] false, size := 1, bytes := 8, zero := Go.Value.nilFunc }
def te60 : TE := { t := 60, desc := Go.TypeDesc.func #[53, 53] #[4] false, size := 1, bytes := 8, zero := Go.Value.nilFunc }
def te61 : TE := { t := 61, desc := Go.TypeDesc.func #[53] #[53] false, size := 1, bytes := 8, zero := Go.Value.nilFunc }
def te62 : TE := { t := 62, desc := Go.TypeDesc.func #[49, 28, 41] #[4] false, size := 1, bytes := 8, zero := Go.Value.nilFunc }
def te70 : TE := { t := 70, desc := Go.TypeDesc.func #[67] #[4] false, size := 1, bytes := 8, zero := Go.Value.nilFunc }
def te75 : TE := { t := 75, desc := Go.TypeDesc.func #[66, 4] #[44] false, size := 1, bytes := 8, zero := Go.Value.nilFunc }
def te76 : TE := { t := 76, desc := Go.TypeDesc.func #[66] #[4] false, size := 1, bytes := 8, zero := Go.Value.nilFunc }
def te77 : TE := { t := 77, desc := Go.TypeDesc.func #[66] #[] false, size := 1, bytes := 8, zero := Go.Value.nilFunc }
def te78 : TE := { t := 78, desc := Go.TypeDesc.func #[66] #[66] false, size := 1, bytes := 8, zero := Go.Value.nilFunc }
def te81 : TE := { t := 81, desc := Go.TypeDesc.func #[80, 66] #[80] false, size := 1, bytes := 8, zero := Go.Value.nilFunc }
def te82 : TE := { t := 82, desc := Go.TypeDesc.func #[41, 41] #[4] false, size := 1, bytes := 8, zero := Go.Value.nilFunc }
def te83 : TE := { t := 83, desc := Go.TypeDesc.func #[85, 85] #[4] false, size := 1, bytes := 8, zero := Go.Value.nilFunc }
def te87 : TE := { t := 87, desc := Go.TypeDesc.func #[92] #[9, 44] false, size := 1, bytes := 8, zero := Go.Value.nilFunc }
def te93 : TE := { t := 93, desc := Go.TypeDesc.func #[36] #[36] false, size := 1, bytes := 8, zero := Go.Value.nilFunc }
def te94 : TE := { t := 94, desc := Go.TypeDesc.func #[96] #[36] false, size := 1, bytes := 8, zero := Go.Value.nilFunc }
def te95 : TE := { t := 95, desc := Go.TypeDesc.func #[166] #[] false, size := 1, bytes := 8, zero := Go.Value.nilFunc }
def te96 : TE := { t := 96, desc := Go.TypeDesc.func #[166] #[] false, size := 1, bytes := 8, zero := Go.Value.nilFunc }
def te97 : TE := { t := 97, desc := Go.TypeDesc.func #[36] #[96] false, size := 1, bytes := 8, zero := Go.Value.nilFunc }
def te98 : TE := { t := 98, desc := Go.TypeDesc.func #[36, 3] #[36] false, size := 1, bytes := 8, zero := Go.Value.nilFunc }
def te99 : TE := { t := 99, desc := Go.TypeDesc.func #[36] #[3] false, size := 1, bytes := 8, zero := Go.Value.nilFunc }
def te100 : TE := { t := 100, desc := Go.TypeDesc.func #[102] #[25] false, size := 1, bytes := 8, zero := Go.Value.nilFunc }
def te101 : TE := { t := 101, desc := Go.TypeDesc.func #[142] #[] false, size := 1, bytes := 8, zero := Go.Value.nilFunc }
def te102 : TE := { t := 102, desc := Go.TypeDesc.func #[142] #[] false, size := 1, bytes := 8, zero := Go.Value.nilFunc }
def te103 : TE := { t := 103, desc := Go.TypeDesc.func #[25] #[102] false, size := 1, bytes := 8, zero := Go.Value.nilFunc }
def te104 : TE := { t := 104, desc := Go.TypeDesc.func #[25] #[25] false, size := 1, bytes := 8, zero := Go.Value.nilFunc }
def te106 : TE := { t := 106, desc := Go.TypeDesc.func #[105, 4] #[4] false, size := 1, bytes := 8, zero := Go.Value.nilFunc }
def te107 : TE := { t := 107, desc := Go.TypeDesc.func #[41, 3] #[4] false, size := 1, bytes := 8, zero := Go.Value.nilFunc }
def te108 : TE := { t := 108, desc := Go.TypeDesc.func #[25] #[4] false, size := 1, bytes := 8, zero := Go.Value.nilFunc }
def te109 : TE := { t := 109, desc := Go.TypeDesc.func #[26, 3] #[4] false, size := 1, bytes := 8, zero := Go.Value.nilFunc }
def te113 : TE := { t := 113, desc := Go.TypeDesc.func #[110, 3] #[3] false, size := 1, bytes := 8, zero := Go.Value.nilFunc }
def te116 : TE := { t := 116, desc := Go.TypeDesc.func #[118, 3] #[4] false, size := 1, bytes := 8, zero := Go.Value.nilFunc }
def te119 : TE := { t := 119, desc := Go.TypeDesc.func #[49] #[44] false, size := 1, bytes := 8, zero := Go.Value.nilFunc }
def te121 : TE := { t := 121, desc := Go.TypeDesc.func #[41, 36] #[36, 4] true, size := 1, bytes := 8, zero := Go.Value.nilFunc }
def te122 : TE := { t := 122, desc := Go.TypeDesc.func #[36] #[] true, size := 1, bytes := 8, zero := Go.Value.nilFunc }
def te123 : TE := { t := 123, desc := Go.TypeDesc.func #[115, 25] #[4] false, size := 1, bytes := 8, zero := Go.Value.nilFunc }
def te124 : TE := { t := 124, desc := Go.TypeDesc.func #[112, 41] #[4] false, size := 1, bytes := 8, zero := Go.Value.nilFunc }
def te125 : TE := { t := 125, desc := Go.TypeDesc.func #[53, 42] #[] false, size := 1, bytes := 8, zero := Go.Value.nilFunc }
def te126 : TE := { t := 126, desc := Go.TypeDesc.func #[53, 127] #[53] false, size := 1, bytes := 8, zero := Go.Value.nilFunc }
def te127 : TE := { t := 127, desc := Go.TypeDesc.func #[36, 36] #[4] false, size := 1, bytes := 8, zero := Go.Value.nilFunc }
def te128 : TE := { t := 128, desc := Go.TypeDesc.func #[41, 115] #[36, 4] false, size := 1, bytes := 8, zero := Go.Value.nilFunc }
def te129 : TE := { t := 129, desc := Go.TypeDesc.map 3 4, size := 1, bytes := 8, zero := Go.Value.map Option.none }
def te133 : TE := { t := 133, desc := Go.TypeDesc.func #[3] #[] false, size := 1, bytes := 8, zero := Go.Value.nilFunc }
def te134 : TE := { t := 134, desc := Go.TypeDesc.func #[53, 53] #[53] false, size := 1, bytes := 8, zero := Go.Value.nilFunc }
def te137 : TE := { t := 137, desc := Go.TypeDesc.func #[85] #[4] false, size := 1, bytes := 8, zero := Go.Value.nilFunc }
def te138 : TE := { t := 138, desc := Go.TypeDesc.func #[64, 139] #[4] false, size := 1, bytes := 8, zero := Go.Value.nilFunc }
def te139 : TE := { t := 139, desc := Go.TypeDesc.func #[72] #[4] false, size := 1, bytes := 8, zero := Go.Value.nilFunc }
def te141 : TE := { t := 141, desc := Go.TypeDesc.func #[66] #[140] false, size := 1, bytes := 8, zero := Go.Value.nilFunc }
def te142 : TE := { t := 142, desc := Go.TypeDesc.func #[9] #[4] false, size := 1, bytes := 8, zero := Go.Value.nilFunc }
def te145 : TE := { t := 145, desc := Go.TypeDesc.func #[67] #[25] false, size := 1, bytes := 8, zero := Go.Value.nilFunc }
def te146 : TE := { t := 146, desc := Go.TypeDesc.func #[85] #[44] false, size := 1, bytes := 8, zero := Go.Value.nilFunc }
def te147 : TE := { t := 147, desc := Go.TypeDesc.pointer 74, size := 1, bytes := 8, zero := Go.Value.pointer Option.none }
def te148 : TE := { t := 148, desc := Go.TypeDesc.func #[9] #[3] false, size := 1, bytes := 8, zero := Go.Value.nilFunc }
def te149 : TE := { t := 149, desc := Go.TypeDesc.func #[3, 69, 4] #[] false, size := 1, bytes := 8, zero := Go.Value.nilFunc }
def te150 : TE := { t := 150, desc := Go.TypeDesc.func #[3, 136] #[] false, size := 1, bytes := 8, zero := Go.Value.nilFunc }
def te151 : TE := { t := 151, desc := Go.TypeDesc.func #[41] #[] false, size := 1, bytes := 8, zero := Go.Value.nilFunc }
def te152 : TE := { t := 152, desc := Go.TypeDesc.func #[63] #[63] false, size := 1, bytes := 8, zero := Go.Value.nilFunc }
def te153 : TE := { t := 153, desc := Go.TypeDesc.func #[64] #[64] false, size := 1, bytes := 8, zero := Go.Value.nilFunc }
def te154 : TE := { t := 154, desc := Go.TypeDesc.func #[67] #[67] false, size := 1, bytes := 8, zero := Go.Value.nilFunc }
def te155 : TE := { t := 155, desc := Go.TypeDesc.func #[66] #[44] false, size := 1, bytes := 8, zero := Go.Value.nilFunc }
def te156 : TE := { t := 156, desc := Go.TypeDesc.func #[66] #[29] false, size := 1, bytes := 8, zero := Go.Value.nilFunc }
def te158 : TE := { t := 158, desc := Go.TypeDesc.func #[80, 9] #[80, 3] false, size := 1, bytes := 8, zero := Go.Value.nilFunc }
def te159 : TE := { t := 159, desc := Go.TypeDesc.func #[80, 3, 69, 4] #[80] false, size := 1, bytes := 8, zero := Go.Value.nilFunc }
def te160 : TE := { t := 160, desc := Go.TypeDesc.func #[80, 41] #[80] false, size := 1, bytes := 8, zero := Go.Value.nilFunc }
def te161 : TE := { t := 161, desc := Go.TypeDesc.func #[80, 3, 67, 4] #[80] false, size := 1, bytes := 8, zero := Go.Value.nilFunc }
def te162 : TE := { t := 162, desc := Go.TypeDesc.func #[39, 39] #[3] false, size := 1, bytes := 8, zero := Go.Value.nilFunc }
def te163 : TE := { t := 163, desc := Go.TypeDesc.func #[92] #[44] false, size := 1, bytes := 8, zero := Go.Value.nilFunc }
def te164 : TE := { t := 164, desc := Go.TypeDesc.func #[92] #[9] false, size := 1, bytes := 8, zero := Go.Value.nilFunc }
def te165 : TE := { t := 165, desc := Go.TypeDesc.func #[36] #[] false, size := 1, bytes := 8, zero := Go.Value.nilFunc }
def te166 : TE := { t := 166, desc := Go.TypeDesc.func #[3] #[4] false, size := 1, bytes := 8, zero := Go.Value.nilFunc }
def te167 : TE := { t := 167, desc := Go.TypeDesc.func #[3] #[3] false, size := 1, bytes := 8, zero := Go.Value.nilFunc }
def te168 : TE := { t := 168, desc := Go.TypeDesc.func #[39] #[4] false, size := 1, bytes := 8, zero := Go.Value.nilFunc }
def te169 : TE := { t := 169, desc := Go.TypeDesc.func #[25] #[] false, size := 1, bytes := 8, zero := Go.Value.nilFunc }
def te170 : TE := { t := 170, desc := Go.TypeDesc.func #[25, 142] #[4] false, size := 1, bytes := 8, zero := Go.Value.nilFunc }
def te171 : TE := { t := 171, desc := Go.TypeDesc.func #[105, 4] #[3] false, size := 1, bytes := 8, zero := Go.Value.nilFunc }
def te172 : TE := { t := 172, desc := Go.TypeDesc.func #[] #[39] false, size := 1, bytes := 8, zero := Go.Value.nilFunc }
def te173 : TE := { t := 173, desc := Go.TypeDesc.func #[39, 3, 3] #[3] false, size := 1, bytes := 8, zero := Go.Value.nilFunc }
def te176 : TE := { t := 176, desc := Go.TypeDesc.func #[25, 110] #[44] false, size := 1, bytes := 8, zero := Go.Value.nilFunc }
def te177 : TE := { t := 177, desc := Go.TypeDesc.func #[46, 3] #[4] false, size := 1, bytes := 8, zero := Go.Value.nilFunc }
def te178 : TE := { t := 178, desc := Go.TypeDesc.func #[36, 3] #[3] false, size := 1, bytes := 8, zero := Go.Value.nilFunc }
def te179 : TE := { t := 179, desc := Go.TypeDesc.func #[25, 9] #[4] false, size := 1, bytes := 8, zero := Go.Value.nilFunc }
def te180 : TE := { t := 180, desc := Go.TypeDesc.func #[112, 9] #[4] false, size := 1, bytes := 8, zero := Go.Value.nilFunc }
def te181 : TE := { t := 181, desc := Go.TypeDesc.func #[110, 9] #[39] false, size := 1, bytes := 8, zero := Go.Value.nilFunc }
def te182 : TE := { t := 182, desc := Go.TypeDesc.func #[53, 3, 3, 3, 42] #[] false, size := 1, bytes := 8, zero := Go.Value.nilFunc }
def te183 : TE := { t := 183, desc := Go.TypeDesc.func #[184] #[3] false, size := 1, bytes := 8, zero := Go.Value.nilFunc }
def te184 : TE := { t := 184, desc := Go.TypeDesc.int Go.IntKind.u64, size := 1, bytes := 8, zero := Go.Value.int Go.IntKind.u64 0 }
def te185 : TE := { t := 185, desc := Go.TypeDesc.func #[3, 3] #[3] false, size := 1, bytes := 8, zero := Go.Value.nilFunc }
def te186 : TE := { t := 186, desc := Go.TypeDesc.func #[49, 3] #[44] false, size := 1, bytes := 8, zero := Go.Value.nilFunc }
def te187 : TE := { t := 187, desc := Go.TypeDesc.pointer 132, size := 1, bytes := 8, zero := Go.Value.pointer Option.none }
def te188 : TE := { t := 188, desc := Go.TypeDesc.func #[3] #[36] false, size := 1, bytes := 8, zero := Go.Value.nilFunc }
def te189 : TE := { t := 189, desc := Go.TypeDesc.func #[36, 3] #[4] false, size := 1, bytes := 8, zero := Go.Value.nilFunc }
def te190 : TE := { t := 190, desc := Go.TypeDesc.func #[3, 3] #[4] false, size := 1, bytes := 8, zero := Go.Value.nilFunc }
def te191 : TE := { t := 191, desc := Go.TypeDesc.func #[85, 3, 3] #[3] false, size := 1, bytes := 8, zero := Go.Value.nilFunc }
def te192 : TE := { t := 192, desc := Go.TypeDesc.func #[64, 139] #[3] false, size := 1, bytes := 8, zero := Go.Value.nilFunc }
def te193 : TE := { t := 193, desc := Go.TypeDesc.func #[85] #[3] false, size := 1, bytes := 8, zero := Go.Value.nilFunc }
def te194 : TE := { t := 194, desc := Go.TypeDesc.func #[85, 4] #[44] false, size := 1, bytes := 8, zero := Go.Value.nilFunc }
def te195 : TE := { t := 195, desc := Go.TypeDesc.func #[29, 137] #[4] false, size := 1, bytes := 8, zero := Go.Value.nilFunc }
def te196 : TE := { t := 196, desc := Go.TypeDesc.func #[3] #[9] false, size := 1, bytes := 8, zero := Go.Value.nilFunc }
def te197 : TE := { t := 197, desc := Go.TypeDesc.func #[25, 9] #[3] false, size := 1, bytes := 8, zero := Go.Value.nilFunc }
def te198 : TE := { t := 198, desc := Go.TypeDesc.func #[67, 199] #[4] false, size := 1, bytes := 8, zero := Go.Value.nilFunc }
def te199 : TE := { t := 199, desc := Go.TypeDesc.func #[136] #[4] false, size := 1, bytes := 8, zero := Go.Value.nilFunc }
def te200 : TE := { t := 200, desc := Go.TypeDesc.func #[85] #[85] false, size := 1, bytes := 8, zero := Go.Value.nilFunc }
def te201 : TE := { t := 201, desc := Go.TypeDesc.func #[80, 3, 136] #[80] false, size := 1, bytes := 8, zero := Go.Value.nilFunc }
def te202 : TE := { t := 202, desc := Go.TypeDesc.func #[4] #[3] false, size := 1, bytes := 8, zero := Go.Value.nilFunc }
def te206 : TE := { t := 206, desc := Go.TypeDesc.func #[39] #[204, 4] false, size := 1, bytes := 8, zero := Go.Value.nilFunc }
def te207 : TE := { t := 207, desc := Go.TypeDesc.func #[204, 204] #[3] false, size := 1, bytes := 8, zero := Go.Value.nilFunc }
def te208 : TE := { t := 208, desc := Go.TypeDesc.func #[92] #[4] false, size := 1, bytes := 8, zero := Go.Value.nilFunc }
def te209 : TE := { t := 209, desc := Go.TypeDesc.func #[22] #[9] false, size := 1, bytes := 8, zero := Go.Value.nilFunc }
def te210 : TE := { t := 210, desc := Go.TypeDesc.func #[29] #[9] false, size := 1, bytes := 8, zero := Go.Value.nilFunc }
def te211 : TE := { t := 211, desc := Go.TypeDesc.func #[85] #[9] false, size := 1, bytes := 8, zero := Go.Value.nilFunc }
def te212 : TE := { t := 212, desc := Go.TypeDesc.func #[90] #[9] false, size := 1, bytes := 8, zero := Go.Value.nilFunc }
def te213 : TE := { t := 213, desc := Go.TypeDesc.func #[25] #[9] false, size := 1, bytes := 8, zero := Go.Value.nilFunc }
def te214 : TE := { t := 214, desc := Go.TypeDesc.func #[36, 96] #[36] false, size := 1, bytes := 8, zero := Go.Value.nilFunc }
def te215 : TE := { t := 215, desc := Go.TypeDesc.func #[36, 3, 3, 3] #[] false, size := 1, bytes := 8, zero := Go.Value.nilFunc }
def te216 : TE := { t := 216, desc := Go.TypeDesc.func #[36] #[3] true, size := 1, bytes := 8, zero := Go.Value.nilFunc }
def te217 : TE := { t := 217, desc := Go.TypeDesc.func #[9, 9] #[3] false, size := 1, bytes := 8, zero := Go.Value.nilFunc }
def te218 : TE := { t := 218, desc := Go.TypeDesc.func #[37, 37, 162] #[3] false, size := 1, bytes := 8, zero := Go.Value.nilFunc }
def te219 : TE := { t := 219, desc := Go.TypeDesc.func #[25, 102] #[25] false, size := 1, bytes := 8, zero := Go.Value.nilFunc }
def te220 : TE := { t := 220, desc := Go.TypeDesc.func #[25, 3, 3, 3] #[] false, size := 1, bytes := 8, zero := Go.Value.nilFunc }
def te221 : TE := { t := 221, desc := Go.TypeDesc.func #[5] #[4] false, size := 1, bytes := 8, zero := Go.Value.nilFunc }
def te222 : TE := { t := 222, desc := Go.TypeDesc.func #[25, 142] #[3] false, size := 1, bytes := 8, zero := Go.Value.nilFunc }
def te224 : TE := { t := 224, desc := Go.TypeDesc.func #[46, 3, 225] #[3, 4] false, size := 1, bytes := 8, zero := Go.Value.nilFunc }
def te225 : TE := { t := 225, desc := Go.TypeDesc.func #[112, 3] #[3] false, size := 1, bytes := 8, zero := Go.Value.nilFunc }
def te226 : TE := { t := 226, desc := Go.TypeDesc.func #[39] #[39] false, size := 1, bytes := 8, zero := Go.Value.nilFunc }
def te227 : TE := { t := 227, desc := Go.TypeDesc.func #[53, 3, 3, 42] #[] false, size := 1, bytes := 8, zero := Go.Value.nilFunc }
def te228 : TE := { t := 228, desc := Go.TypeDesc.int Go.IntKind.i64, size := 1, bytes := 8, zero := Go.Value.int Go.IntKind.i64 0 }
def te230 : TE := { t := 230, desc := Go.TypeDesc.func #[53, 3, 3, 42] #[3, 228] false, size := 1, bytes := 8, zero := Go.Value.nilFunc }
def te231 : TE := { t := 231, desc := Go.TypeDesc.func #[53, 3, 3, 42] #[4] false, size := 1, bytes := 8, zero := Go.Value.nilFunc }
def te232 : TE := { t := 232, desc := Go.TypeDesc.func #[53, 3, 3, 3, 42] #[3] false, size := 1, bytes := 8, zero := Go.Value.nilFunc }
def te233 : TE := { t := 233, desc := Go.TypeDesc.func #[53, 3, 3, 3, 42] #[3, 4] false, size := 1, bytes := 8, zero := Go.Value.nilFunc }
def te234 : TE := { t := 234, desc := Go.TypeDesc.func #[235] #[3] false, size := 1, bytes := 8, zero := Go.Value.nilFunc }
def te235 : TE := { t := 235, desc := Go.TypeDesc.int Go.IntKind.u32, size := 1, bytes := 4, zero := Go.Value.int Go.IntKind.u32 0 }
def te236 : TE := { t := 236, desc := Go.TypeDesc.func #[237] #[3] false, size := 1, bytes := 8, zero := Go.Value.nilFunc }
def te237 : TE := { t := 237, desc := Go.TypeDesc.int Go.IntKind.u64, size := 1, bytes := 8, zero := Go.Value.int Go.IntKind.u64 0 }
def te239 : TE := { t := 239, desc := Go.TypeDesc.func #[49, 3] #[112, 4] false, size := 1, bytes := 8, zero := Go.Value.nilFunc }
def te240 : TE := { t := 240, desc := Go.TypeDesc.func #[53, 241] #[4] false, size := 1, bytes := 8, zero := Go.Value.nilFunc }
def te241 : TE := { t := 241, desc := Go.TypeDesc.func #[36] #[4] false, size := 1, bytes := 8, zero := Go.Value.nilFunc }
def te242 : TE := { t := 242, desc := Go.TypeDesc.func #[9, 9] #[4] false, size := 1, bytes := 8, zero := Go.Value.nilFunc }
def te243 : TE := { t := 243, desc := Go.TypeDesc.func #[9] #[9] false, size := 1, bytes := 8, zero := Go.Value.nilFunc }
def te244 : TE := { t := 244, desc := Go.TypeDesc.func #[29, 137] #[3] false, size := 1, bytes := 8, zero := Go.Value.nilFunc }
def te245 : TE := { t := 245, desc := Go.TypeDesc.func #[67, 199] #[3] false, size := 1, bytes := 8, zero := Go.Value.nilFunc }
def te246 : TE := { t := 246, desc := Go.TypeDesc.func #[39] #[9] false, size := 1, bytes := 8, zero := Go.Value.nilFunc }
def te247 : TE := { t := 247, desc := Go.TypeDesc.func #[3] #[39] false, size := 1, bytes := 8, zero := Go.Value.nilFunc }
def te248 : TE := { t := 248, desc := Go.TypeDesc.func #[39, 3] #[4] false, size := 1, bytes := 8, zero := Go.Value.nilFunc }
def te249 : TE := { t := 249, desc := Go.TypeDesc.func #[37, 37] #[3] false, size := 1, bytes := 8, zero := Go.Value.nilFunc }
def te250 : TE := { t := 250, desc := Go.TypeDesc.func #[204] #[4] false, size := 1, bytes := 8, zero := Go.Value.nilFunc }
def te252 : TE := { t := 252, desc := Go.TypeDesc.func #[3, 36, 3, 36] #[3, 36] false, size := 1, bytes := 8, zero := Go.Value.nilFunc }
def te253 : TE := { t := 253, desc := Go.TypeDesc.func #[3, 3] #[36] false, size := 1, bytes := 8, zero := Go.Value.nilFunc }
def te258 : TE := { t := 258, desc := Go.TypeDesc.func #[260] #[44] false, size := 1, bytes := 8, zero := Go.Value.nilFunc }
def te261 : TE := { t := 261, desc := Go.TypeDesc.func #[66] #[9] false, size := 1, bytes := 8, zero := Go.Value.nilFunc }
def te262 : TE := { t := 262, desc := Go.TypeDesc.func #[9, 3] #[9] false, size := 1, bytes := 8, zero := Go.Value.nilFunc }
def te263 : TE := { t := 263, desc := Go.TypeDesc.func #[260] #[4] false, size := 1, bytes := 8, zero := Go.Value.nilFunc }
def te264 : TE := { t := 264, desc := Go.TypeDesc.func #[260] #[9] false, size := 1, bytes := 8, zero := Go.Value.nilFunc }
def te265 : TE := { t := 265, desc := Go.TypeDesc.func #[36, 3, 3] #[] false, size := 1, bytes := 8, zero := Go.Value.nilFunc }
def te266 : TE := { t := 266, desc := Go.TypeDesc.func #[36, 3, 3] #[3, 228] false, size := 1, bytes := 8, zero := Go.Value.nilFunc }
def te267 : TE := { t := 267, desc := Go.TypeDesc.func #[36, 3, 3] #[4] false, size := 1, bytes := 8, zero := Go.Value.nilFunc }
def te268 : TE := { t := 268, desc := Go.TypeDesc.func #[36, 3, 3, 3] #[3] false, size := 1, bytes := 8, zero := Go.Value.nilFunc }
def te269 : TE := { t := 269, desc := Go.TypeDesc.func #[36, 3, 3, 3] #[3, 4] false, size := 1, bytes := 8, zero := Go.Value.nilFunc }
def te270 : TE := { t := 270, desc := Go.TypeDesc.func #[39] #[3] false, size := 1, bytes := 8, zero := Go.Value.nilFunc }
def te271 : TE := { t := 271, desc := Go.TypeDesc.func #[25, 3, 3] #[] false, size := 1, bytes := 8, zero := Go.Value.nilFunc }
def te272 : TE := { t := 272, desc := Go.TypeDesc.func #[25, 3, 3] #[3, 228] false, size := 1, bytes := 8, zero := Go.Value.nilFunc }
def te273 : TE := { t := 273, desc := Go.TypeDesc.func #[25, 3, 3] #[4] false, size := 1, bytes := 8, zero := Go.Value.nilFunc }
def te274 : TE := { t := 274, desc := Go.TypeDesc.func #[25, 3, 3, 3] #[3] false, size := 1, bytes := 8, zero := Go.Value.nilFunc }
def te275 : TE := { t := 275, desc := Go.TypeDesc.func #[25, 3, 3, 3] #[3, 4] false, size := 1, bytes := 8, zero := Go.Value.nilFunc }
def te276 : TE := { t := 276, desc := Go.TypeDesc.func #[37] #[37] false, size := 1, bytes := 8, zero := Go.Value.nilFunc }
def te277 : TE := { t := 277, desc := Go.TypeDesc.int Go.IntKind.u64, size := 1, bytes := 8, zero := Go.Value.int Go.IntKind.u64 0 }
def te278 : TE := { t := 278, desc := Go.TypeDesc.func #[3] #[184] false, size := 1, bytes := 8, zero := Go.Value.nilFunc }
def te279 : TE := { t := 279, desc := Go.TypeDesc.func #[] #[237] false, size := 1, bytes := 8, zero := Go.Value.nilFunc }
def te280 : TE := { t := 280, desc := Go.TypeDesc.func #[53, 3, 281, 42] #[3] false, size := 1, bytes := 8, zero := Go.Value.nilFunc }
def te281 : TE := { t := 281, desc := Go.TypeDesc.pointer 3, size := 1, bytes := 8, zero := Go.Value.pointer Option.none }
def te282 : TE := { t := 282, desc := Go.TypeDesc.func #[53, 3, 3, 3, 281, 42] #[3] false, size := 1, bytes := 8, zero := Go.Value.nilFunc }
def te283 : TE := { t := 283, desc := Go.TypeDesc.func #[110] #[25] false, size := 1, bytes := 8, zero := Go.Value.nilFunc }
def te284 : TE := { t := 284, desc := Go.TypeDesc.func #[53, 241] #[3] false, size := 1, bytes := 8, zero := Go.Value.nilFunc }
def te287 : TE := { t := 287, desc := Go.TypeDesc.func #[9] #[3, 3] false, size := 1, bytes := 8, zero := Go.Value.nilFunc }
def te288 : TE := { t := 288, desc := Go.TypeDesc.func #[2, 3] #[9] false, size := 1, bytes := 8, zero := Go.Value.nilFunc }
def te289 : TE := { t := 289, desc := Go.TypeDesc.func #[37, 9] #[9] false, size := 1, bytes := 8, zero := Go.Value.nilFunc }
def te290 : TE := { t := 290, desc := Go.TypeDesc.func #[39, 4, 4, 4, 4] #[4] false, size := 1, bytes := 8, zero := Go.Value.nilFunc }
def te291 : TE := { t := 291, desc := Go.TypeDesc.func #[37] #[4] false, size := 1, bytes := 8, zero := Go.Value.nilFunc }
def te292 : TE := { t := 292, desc := Go.TypeDesc.func #[37, 3] #[4] false, size := 1, bytes := 8, zero := Go.Value.nilFunc }
def te293 : TE := { t := 293, desc := Go.TypeDesc.func #[36, 36] #[36] false, size := 1, bytes := 8, zero := Go.Value.nilFunc }
def te294 : TE := { t := 294, desc := Go.TypeDesc.func #[72] #[9] false, size := 1, bytes := 8, zero := Go.Value.nilFunc }
def te295 : TE := { t := 295, desc := Go.TypeDesc.func #[69] #[9] false, size := 1, bytes := 8, zero := Go.Value.nilFunc }
def te296 : TE := { t := 296, desc := Go.TypeDesc.func #[36, 3, 281] #[3] false, size := 1, bytes := 8, zero := Go.Value.nilFunc }
def te297 : TE := { t := 297, desc := Go.TypeDesc.func #[36, 3, 3, 3, 281] #[3] false, size := 1, bytes := 8, zero := Go.Value.nilFunc }
def te298 : TE := { t := 298, desc := Go.TypeDesc.func #[9, 299] #[3] false, size := 1, bytes := 8, zero := Go.Value.nilFunc }
def te299 : TE := { t := 299, desc := Go.TypeDesc.func #[21] #[4] false, size := 1, bytes := 8, zero := Go.Value.nilFunc }
def te302 : TE := { t := 302, desc := Go.TypeDesc.func #[3, 3] #[301] false, size := 1, bytes := 8, zero := Go.Value.nilFunc }
def te303 : TE := { t := 303, desc := Go.TypeDesc.func #[301] #[301] false, size := 1, bytes := 8, zero := Go.Value.nilFunc }
def te304 : TE := { t := 304, desc := Go.TypeDesc.func #[] #[3] false, size := 1, bytes := 8, zero := Go.Value.nilFunc }
def te305 : TE := { t := 305, desc := Go.TypeDesc.func #[25, 3, 281] #[3] false, size := 1, bytes := 8, zero := Go.Value.nilFunc }
def te306 : TE := { t := 306, desc := Go.TypeDesc.func #[25, 3, 3, 3, 281] #[3] false, size := 1, bytes := 8, zero := Go.Value.nilFunc }
def te307 : TE := { t := 307, desc := Go.TypeDesc.pointer 277, size := 1, bytes := 8, zero := Go.Value.pointer Option.none }
def te308 : TE := { t := 308, desc := Go.TypeDesc.func #[53, 3, 3, 281, 42] #[3, 3] false, size := 1, bytes := 8, zero := Go.Value.nilFunc }
def te310 : TE := { t := 310, desc := Go.TypeDesc.func #[285, 237] #[] false, size := 1, bytes := 8, zero := Go.Value.nilFunc }
def te312 : TE := { t := 312, desc := Go.TypeDesc.func #[285, 237, 3, 4, 4] #[285, 9] false, size := 1, bytes := 8, zero := Go.Value.nilFunc }
def te313 : TE := { t := 313, desc := Go.TypeDesc.func #[] #[25] false, size := 1, bytes := 8, zero := Go.Value.nilFunc }
def te314 : TE := { t := 314, desc := Go.TypeDesc.func #[9, 9] #[9] false, size := 1, bytes := 8, zero := Go.Value.nilFunc }
def te315 : TE := { t := 315, desc := Go.TypeDesc.func #[67] #[9] false, size := 1, bytes := 8, zero := Go.Value.nilFunc }
def te316 : TE := { t := 316, desc := Go.TypeDesc.func #[36, 3, 3, 281] #[3, 3] false, size := 1, bytes := 8, zero := Go.Value.nilFunc }
def te317 : TE := { t := 317, desc := Go.TypeDesc.func #[9, 299, 4] #[3] false, size := 1, bytes := 8, zero := Go.Value.nilFunc }
def te319 : TE := { t := 319, desc := Go.TypeDesc.func #[237, 237] #[237, 237] false, size := 1, bytes := 8, zero := Go.Value.nilFunc }
def te320 : TE := { t := 320, desc := Go.TypeDesc.func #[3] #[237] false, size := 1, bytes := 8, zero := Go.Value.nilFunc }
def te321 : TE := { t := 321, desc := Go.TypeDesc.func #[237, 237, 237] #[237, 237] false, size := 1, bytes := 8, zero := Go.Value.nilFunc }
def te322 : TE := { t := 322, desc := Go.TypeDesc.func #[301] #[4] false, size := 1, bytes := 8, zero := Go.Value.nilFunc }
def te323 : TE := { t := 323, desc := Go.TypeDesc.func #[25, 3, 3, 281] #[3, 3] false, size := 1, bytes := 8, zero := Go.Value.nilFunc }
def te324 : TE := { t := 324, desc := Go.TypeDesc.func #[9, 5] #[3] false, size := 1, bytes := 8, zero := Go.Value.nilFunc }
def te328 : TE := { t := 328, desc := Go.TypeDesc.func #[9] #[235, 235] false, size := 1, bytes := 8, zero := Go.Value.nilFunc }
def te331 : TE := { t := 331, desc := Go.TypeDesc.func #[] #[9] false, size := 1, bytes := 8, zero := Go.Value.nilFunc }
def te339 : TE := { t := 339, desc := Go.TypeDesc.func #[345, 345] #[4] false, size := 1, bytes := 8, zero := Go.Value.nilFunc }
def te340 : TE := { t := 340, desc := Go.TypeDesc.pointer 5, size := 1, bytes := 8, zero := Go.Value.pointer Option.none }
theorem ok3 : te3.ok Tryz.prog := ⟨Tryz.underlying3, Tryz.t3, Tryz.type3, rfl, rfl, rfl⟩
theorem ok4 : te4.ok Tryz.prog := ⟨Tryz.underlying4, Tryz.t4, Tryz.type4, rfl, rfl, rfl⟩
theorem ok9 : te9.ok Tryz.prog := ⟨Tryz.underlying9, Tryz.t9, Tryz.type9, rfl, rfl, rfl⟩
theorem ok27 : te27.ok Tryz.prog := ⟨Tryz.underlying27, Tryz.t27, Tryz.type27, rfl, rfl, rfl⟩
theorem ok28 : te28.ok Tryz.prog := ⟨Tryz.underlying28, Tryz.t28, Tryz.type28, rfl, rfl, rfl⟩
theorem ok38 : te38.ok Tryz.prog := ⟨Tryz.underlying38, Tryz.t38, Tryz.type38, rfl, rfl, rfl⟩
theorem ok39 : te39.ok Tryz.prog := ⟨Tryz.underlying39, Tryz.t39, Tryz.type39, rfl, rfl, rfl⟩
theorem ok40 : te40.ok Tryz.prog := ⟨Tryz.underlying40, Tryz.t40, Tryz.type40, rfl, rfl, rfl⟩
theorem ok41 : te41.ok Tryz.prog := ⟨Tryz.underlying41, Tryz.t41, Tryz.type41, rfl, rfl, rfl⟩
theorem ok48 : te48.ok Tryz.prog := ⟨Tryz.underlying48, Tryz.t48, Tryz.type48, rfl, rfl, rfl⟩
theorem ok49 : te49.ok Tryz.prog := ⟨Tryz.underlying49, Tryz.t49, Tryz.type49, rfl, rfl, rfl⟩
theorem ok54 : te54.ok Tryz.prog := ⟨Tryz.underlying54, Tryz.t54, Tryz.type54, rfl, rfl, rfl⟩
theorem ok55 : te55.ok Tryz.prog := ⟨Tryz.underlying55, Tryz.t55, Tryz.type55, rfl, rfl, rfl⟩
theorem ok65 : te65.ok Tryz.prog := ⟨Tryz.underlying65, Tryz.t65, Tryz.type65, rfl, rfl, rfl⟩
theorem ok66 : te66.ok Tryz.prog := ⟨Tryz.underlying66, Tryz.t66, Tryz.type66, rfl, rfl, rfl⟩
theorem ok68 : te68.ok Tryz.prog := ⟨Tryz.underlying68, Tryz.t68, Tryz.type68, rfl, rfl, rfl⟩
theorem ok69 : te69.ok Tryz.prog := ⟨Tryz.underlying69, Tryz.t69, Tryz.type69, rfl, rfl, rfl⟩
theorem ok71 : te71.ok Tryz.prog := ⟨Tryz.underlying71, Tryz.t71, Tryz.type71, rfl, rfl, rfl⟩
theorem ok72 : te72.ok Tryz.prog := ⟨Tryz.underlying72, Tryz.t72, Tryz.type72, rfl, rfl, rfl⟩
theorem ok73 : te73.ok Tryz.prog := ⟨Tryz.underlying73, Tryz.t73, Tryz.type73, rfl, rfl, rfl⟩
theorem ok74 : te74.ok Tryz.prog := ⟨Tryz.underlying74, Tryz.t74, Tryz.type74, rfl, rfl, rfl⟩
theorem ok79 : te79.ok Tryz.prog := ⟨Tryz.underlying79, Tryz.t79, Tryz.type79, rfl, rfl, rfl⟩
theorem ok80 : te80.ok Tryz.prog := ⟨Tryz.underlying80, Tryz.t80, Tryz.type80, rfl, rfl, rfl⟩
theorem ok84 : te84.ok Tryz.prog := ⟨Tryz.underlying84, Tryz.t84, Tryz.type84, rfl, rfl, rfl⟩
theorem ok85 : te85.ok Tryz.prog := ⟨Tryz.underlying85, Tryz.t85, Tryz.type85, rfl, rfl, rfl⟩
theorem ok91 : te91.ok Tryz.prog := ⟨Tryz.underlying91, Tryz.t91, Tryz.type91, rfl, rfl, rfl⟩
theorem ok92 : te92.ok Tryz.prog := ⟨Tryz.underlying92, Tryz.t92, Tryz.type92, rfl, rfl, rfl⟩
theorem ok111 : te111.ok Tryz.prog := ⟨Tryz.underlying111, Tryz.t111, Tryz.type111, rfl, rfl, rfl⟩
theorem ok112 : te112.ok Tryz.prog := ⟨Tryz.underlying112, Tryz.t112, Tryz.type112, rfl, rfl, rfl⟩
theorem ok114 : te114.ok Tryz.prog := ⟨Tryz.underlying114, Tryz.t114, Tryz.type114, rfl, rfl, rfl⟩
theorem ok115 : te115.ok Tryz.prog := ⟨Tryz.underlying115, Tryz.t115, Tryz.type115, rfl, rfl, rfl⟩
theorem ok131 : te131.ok Tryz.prog := ⟨Tryz.underlying131, Tryz.t131, Tryz.type131, rfl, rfl, rfl⟩
theorem ok132 : te132.ok Tryz.prog := ⟨Tryz.underlying132, Tryz.t132, Tryz.type132, rfl, rfl, rfl⟩
theorem ok135 : te135.ok Tryz.prog := ⟨Tryz.underlying135, Tryz.t135, Tryz.type135, rfl, rfl, rfl⟩
theorem ok136 : te136.ok Tryz.prog := ⟨Tryz.underlying136, Tryz.t136, Tryz.type136, rfl, rfl, rfl⟩
theorem ok143 : te143.ok Tryz.prog := ⟨Tryz.underlying143, Tryz.t143, Tryz.type143, rfl, rfl, rfl⟩
theorem ok144 : te144.ok Tryz.prog := ⟨Tryz.underlying144, Tryz.t144, Tryz.type144, rfl, rfl, rfl⟩
theorem ok174 : te174.ok Tryz.prog := ⟨Tryz.underlying174, Tryz.t174, Tryz.type174, rfl, rfl, rfl⟩
theorem ok175 : te175.ok Tryz.prog := ⟨Tryz.underlying175, Tryz.t175, Tryz.type175, rfl, rfl, rfl⟩
theorem ok203 : te203.ok Tryz.prog := ⟨Tryz.underlying203, Tryz.t203, Tryz.type203, rfl, rfl, rfl⟩
theorem ok204 : te204.ok Tryz.prog := ⟨Tryz.underlying204, Tryz.t204, Tryz.type204, rfl, rfl, rfl⟩
theorem ok254 : te254.ok Tryz.prog := ⟨Tryz.underlying254, Tryz.t254, Tryz.type254, rfl, rfl, rfl⟩
theorem ok255 : te255.ok Tryz.prog := ⟨Tryz.underlying255, Tryz.t255, Tryz.type255, rfl, rfl, rfl⟩
theorem ok256 : te256.ok Tryz.prog := ⟨Tryz.underlying256, Tryz.t256, Tryz.type256, rfl, rfl, rfl⟩
theorem ok257 : te257.ok Tryz.prog := ⟨Tryz.underlying257, Tryz.t257, Tryz.type257, rfl, rfl, rfl⟩
theorem ok259 : te259.ok Tryz.prog := ⟨Tryz.underlying259, Tryz.t259, Tryz.type259, rfl, rfl, rfl⟩
theorem ok260 : te260.ok Tryz.prog := ⟨Tryz.underlying260, Tryz.t260, Tryz.type260, rfl, rfl, rfl⟩
theorem ok300 : te300.ok Tryz.prog := ⟨Tryz.underlying300, Tryz.t300, Tryz.type300, rfl, rfl, rfl⟩
theorem ok301 : te301.ok Tryz.prog := ⟨Tryz.underlying301, Tryz.t301, Tryz.type301, rfl, rfl, rfl⟩
theorem ok22 : te22.ok Tryz.prog := ⟨Tryz.underlying22, Tryz.t22, Tryz.type22, rfl, rfl, rfl⟩
theorem ok25 : te25.ok Tryz.prog := ⟨Tryz.underlying25, Tryz.t25, Tryz.type25, rfl, rfl, rfl⟩
theorem ok26 : te26.ok Tryz.prog := ⟨Tryz.underlying26, Tryz.t26, Tryz.type26, rfl, rfl, rfl⟩
theorem ok29 : te29.ok Tryz.prog := ⟨Tryz.underlying29, Tryz.t29, Tryz.type29, rfl, rfl, rfl⟩
theorem ok36 : te36.ok Tryz.prog := ⟨Tryz.underlying36, Tryz.t36, Tryz.type36, rfl, rfl, rfl⟩
theorem ok37 : te37.ok Tryz.prog := ⟨Tryz.underlying37, Tryz.t37, Tryz.type37, rfl, rfl, rfl⟩
theorem ok46 : te46.ok Tryz.prog := ⟨Tryz.underlying46, Tryz.t46, Tryz.type46, rfl, rfl, rfl⟩
theorem ok47 : te47.ok Tryz.prog := ⟨Tryz.underlying47, Tryz.t47, Tryz.type47, rfl, rfl, rfl⟩
theorem ok53 : te53.ok Tryz.prog := ⟨Tryz.underlying53, Tryz.t53, Tryz.type53, rfl, rfl, rfl⟩
theorem ok63 : te63.ok Tryz.prog := ⟨Tryz.underlying63, Tryz.t63, Tryz.type63, rfl, rfl, rfl⟩
theorem ok64 : te64.ok Tryz.prog := ⟨Tryz.underlying64, Tryz.t64, Tryz.type64, rfl, rfl, rfl⟩
theorem ok67 : te67.ok Tryz.prog := ⟨Tryz.underlying67, Tryz.t67, Tryz.type67, rfl, rfl, rfl⟩
theorem ok88 : te88.ok Tryz.prog := ⟨Tryz.underlying88, Tryz.t88, Tryz.type88, rfl, rfl, rfl⟩
theorem ok89 : te89.ok Tryz.prog := ⟨Tryz.underlying89, Tryz.t89, Tryz.type89, rfl, rfl, rfl⟩
theorem ok90 : te90.ok Tryz.prog := ⟨Tryz.underlying90, Tryz.t90, Tryz.type90, rfl, rfl, rfl⟩
theorem ok105 : te105.ok Tryz.prog := ⟨Tryz.underlying105, Tryz.t105, Tryz.type105, rfl, rfl, rfl⟩
theorem ok110 : te110.ok Tryz.prog := ⟨Tryz.underlying110, Tryz.t110, Tryz.type110, rfl, rfl, rfl⟩
theorem ok117 : te117.ok Tryz.prog := ⟨Tryz.underlying117, Tryz.t117, Tryz.type117, rfl, rfl, rfl⟩
theorem ok118 : te118.ok Tryz.prog := ⟨Tryz.underlying118, Tryz.t118, Tryz.type118, rfl, rfl, rfl⟩
theorem ok130 : te130.ok Tryz.prog := ⟨Tryz.underlying130, Tryz.t130, Tryz.type130, rfl, rfl, rfl⟩
theorem ok140 : te140.ok Tryz.prog := ⟨Tryz.underlying140, Tryz.t140, Tryz.type140, rfl, rfl, rfl⟩
theorem ok285 : te285.ok Tryz.prog := ⟨Tryz.underlying285, Tryz.t285, Tryz.type285, rfl, rfl, rfl⟩
theorem ok1 : te1.ok Tryz.prog := ⟨Tryz.underlying1, Tryz.t1, Tryz.type1, rfl, rfl, rfl⟩
theorem ok2 : te2.ok Tryz.prog := ⟨Tryz.underlying2, Tryz.t2, Tryz.type2, rfl, rfl, rfl⟩
theorem ok5 : te5.ok Tryz.prog := ⟨Tryz.underlying5, Tryz.t5, Tryz.type5, rfl, rfl, rfl⟩
theorem ok12 : te12.ok Tryz.prog := ⟨Tryz.underlying12, Tryz.t12, Tryz.type12, rfl, rfl, rfl⟩
theorem ok21 : te21.ok Tryz.prog := ⟨Tryz.underlying21, Tryz.t21, Tryz.type21, rfl, rfl, rfl⟩
theorem ok23 : te23.ok Tryz.prog := ⟨Tryz.underlying23, Tryz.t23, Tryz.type23, rfl, rfl, rfl⟩
theorem ok24 : te24.ok Tryz.prog := ⟨Tryz.underlying24, Tryz.t24, Tryz.type24, rfl, rfl, rfl⟩
theorem ok31 : te31.ok Tryz.prog := ⟨Tryz.underlying31, Tryz.t31, Tryz.type31, rfl, rfl, rfl⟩
theorem ok32 : te32.ok Tryz.prog := ⟨Tryz.underlying32, Tryz.t32, Tryz.type32, rfl, rfl, rfl⟩
theorem ok33 : te33.ok Tryz.prog := ⟨Tryz.underlying33, Tryz.t33, Tryz.type33, rfl, rfl, rfl⟩
theorem ok34 : te34.ok Tryz.prog := ⟨Tryz.underlying34, Tryz.t34, Tryz.type34, rfl, rfl, rfl⟩
theorem ok35 : te35.ok Tryz.prog := ⟨Tryz.underlying35, Tryz.t35, Tryz.type35, rfl, rfl, rfl⟩
theorem ok42 : te42.ok Tryz.prog := ⟨Tryz.underlying42, Tryz.t42, Tryz.type42, rfl, rfl, rfl⟩
theorem ok43 : te43.ok Tryz.prog := ⟨Tryz.underlying43, Tryz.t43, Tryz.type43, rfl, rfl, rfl⟩
theorem ok44 : te44.ok Tryz.prog := ⟨Tryz.underlying44, Tryz.t44, Tryz.type44, rfl, rfl, rfl⟩
theorem ok45 : te45.ok Tryz.prog := ⟨Tryz.underlying45, Tryz.t45, Tryz.type45, rfl, rfl, rfl⟩
theorem ok50 : te50.ok Tryz.prog := ⟨Tryz.underlying50, Tryz.t50, Tryz.type50, rfl, rfl, rfl⟩
theorem ok51 : te51.ok Tryz.prog := ⟨Tryz.underlying51, Tryz.t51, Tryz.type51, rfl, rfl, rfl⟩
theorem ok52 : te52.ok Tryz.prog := ⟨Tryz.underlying52, Tryz.t52, Tryz.type52, rfl, rfl, rfl⟩
theorem ok56 : te56.ok Tryz.prog := ⟨Tryz.underlying56, Tryz.t56, Tryz.type56, rfl, rfl, rfl⟩
theorem ok57 : te57.ok Tryz.prog := ⟨Tryz.underlying57, Tryz.t57, Tryz.type57, rfl, rfl, rfl⟩
theorem ok58 : te58.ok Tryz.prog := ⟨Tryz.underlying58, Tryz.t58, Tryz.type58, rfl, rfl, rfl⟩
theorem ok59 : te59.ok Tryz.prog := ⟨Tryz.underlying59, Tryz.t59, Tryz.type59, rfl, rfl, rfl⟩
theorem ok60 : te60.ok Tryz.prog := ⟨Tryz.underlying60, Tryz.t60, Tryz.type60, rfl, rfl, rfl⟩
theorem ok61 : te61.ok Tryz.prog := ⟨Tryz.underlying61, Tryz.t61, Tryz.type61, rfl, rfl, rfl⟩
theorem ok62 : te62.ok Tryz.prog := ⟨Tryz.underlying62, Tryz.t62, Tryz.type62, rfl, rfl, rfl⟩
theorem ok70 : te70.ok Tryz.prog := ⟨Tryz.underlying70, Tryz.t70, Tryz.type70, rfl, rfl, rfl⟩
theorem ok75 : te75.ok Tryz.prog := ⟨Tryz.underlying75, Tryz.t75, Tryz.type75, rfl, rfl, rfl⟩
theorem ok76 : te76.ok Tryz.prog := ⟨Tryz.underlying76, Tryz.t76, Tryz.type76, rfl, rfl, rfl⟩
theorem ok77 : te77.ok Tryz.prog := ⟨Tryz.underlying77, Tryz.t77, Tryz.type77, rfl, rfl, rfl⟩
theorem ok78 : te78.ok Tryz.prog := ⟨Tryz.underlying78, Tryz.t78, Tryz.type78, rfl, rfl, rfl⟩
theorem ok81 : te81.ok Tryz.prog := ⟨Tryz.underlying81, Tryz.t81, Tryz.type81, rfl, rfl, rfl⟩
theorem ok82 : te82.ok Tryz.prog := ⟨Tryz.underlying82, Tryz.t82, Tryz.type82, rfl, rfl, rfl⟩
theorem ok83 : te83.ok Tryz.prog := ⟨Tryz.underlying83, Tryz.t83, Tryz.type83, rfl, rfl, rfl⟩
theorem ok87 : te87.ok Tryz.prog := ⟨Tryz.underlying87, Tryz.t87, Tryz.type87, rfl, rfl, rfl⟩
theorem ok93 : te93.ok Tryz.prog := ⟨Tryz.underlying93, Tryz.t93, Tryz.type93, rfl, rfl, rfl⟩
theorem ok94 : te94.ok Tryz.prog := ⟨Tryz.underlying94, Tryz.t94, Tryz.type94, rfl, rfl, rfl⟩
theorem ok95 : te95.ok Tryz.prog := ⟨Tryz.underlying95, Tryz.t95, Tryz.type95, rfl, rfl, rfl⟩
theorem ok96 : te96.ok Tryz.prog := ⟨Tryz.underlying96, Tryz.t96, Tryz.type96, rfl, rfl, rfl⟩
theorem ok97 : te97.ok Tryz.prog := ⟨Tryz.underlying97, Tryz.t97, Tryz.type97, rfl, rfl, rfl⟩
theorem ok98 : te98.ok Tryz.prog := ⟨Tryz.underlying98, Tryz.t98, Tryz.type98, rfl, rfl, rfl⟩
theorem ok99 : te99.ok Tryz.prog := ⟨Tryz.underlying99, Tryz.t99, Tryz.type99, rfl, rfl, rfl⟩
theorem ok100 : te100.ok Tryz.prog := ⟨Tryz.underlying100, Tryz.t100, Tryz.type100, rfl, rfl, rfl⟩
theorem ok101 : te101.ok Tryz.prog := ⟨Tryz.underlying101, Tryz.t101, Tryz.type101, rfl, rfl, rfl⟩
theorem ok102 : te102.ok Tryz.prog := ⟨Tryz.underlying102, Tryz.t102, Tryz.type102, rfl, rfl, rfl⟩
theorem ok103 : te103.ok Tryz.prog := ⟨Tryz.underlying103, Tryz.t103, Tryz.type103, rfl, rfl, rfl⟩
theorem ok104 : te104.ok Tryz.prog := ⟨Tryz.underlying104, Tryz.t104, Tryz.type104, rfl, rfl, rfl⟩
theorem ok106 : te106.ok Tryz.prog := ⟨Tryz.underlying106, Tryz.t106, Tryz.type106, rfl, rfl, rfl⟩
theorem ok107 : te107.ok Tryz.prog := ⟨Tryz.underlying107, Tryz.t107, Tryz.type107, rfl, rfl, rfl⟩
theorem ok108 : te108.ok Tryz.prog := ⟨Tryz.underlying108, Tryz.t108, Tryz.type108, rfl, rfl, rfl⟩
theorem ok109 : te109.ok Tryz.prog := ⟨Tryz.underlying109, Tryz.t109, Tryz.type109, rfl, rfl, rfl⟩
theorem ok113 : te113.ok Tryz.prog := ⟨Tryz.underlying113, Tryz.t113, Tryz.type113, rfl, rfl, rfl⟩
theorem ok116 : te116.ok Tryz.prog := ⟨Tryz.underlying116, Tryz.t116, Tryz.type116, rfl, rfl, rfl⟩
theorem ok119 : te119.ok Tryz.prog := ⟨Tryz.underlying119, Tryz.t119, Tryz.type119, rfl, rfl, rfl⟩
theorem ok121 : te121.ok Tryz.prog := ⟨Tryz.underlying121, Tryz.t121, Tryz.type121, rfl, rfl, rfl⟩
theorem ok122 : te122.ok Tryz.prog := ⟨Tryz.underlying122, Tryz.t122, Tryz.type122, rfl, rfl, rfl⟩
theorem ok123 : te123.ok Tryz.prog := ⟨Tryz.underlying123, Tryz.t123, Tryz.type123, rfl, rfl, rfl⟩
theorem ok124 : te124.ok Tryz.prog := ⟨Tryz.underlying124, Tryz.t124, Tryz.type124, rfl, rfl, rfl⟩
theorem ok125 : te125.ok Tryz.prog := ⟨Tryz.underlying125, Tryz.t125, Tryz.type125, rfl, rfl, rfl⟩
theorem ok126 : te126.ok Tryz.prog := ⟨Tryz.underlying126, Tryz.t126, Tryz.type126, rfl, rfl, rfl⟩
theorem ok127 : te127.ok Tryz.prog := ⟨Tryz.underlying127, Tryz.t127, Tryz.type127, rfl, rfl, rfl⟩
theorem ok128 : te128.ok Tryz.prog := ⟨Tryz.underlying128, Tryz.t128, Tryz.type128, rfl, rfl, rfl⟩
theorem ok129 : te129.ok Tryz.prog := ⟨Tryz.underlying129, Tryz.t129, Tryz.type129, rfl, rfl, rfl⟩
theorem ok133 : te133.ok Tryz.prog := ⟨Tryz.underlying133, Tryz.t133, Tryz.type133, rfl, rfl, rfl⟩
theorem ok134 : te134.ok Tryz.prog := ⟨Tryz.underlying134, Tryz.t134, Tryz.type134, rfl, rfl, rfl⟩
theorem ok137 : te137.ok Tryz.prog := ⟨Tryz.underlying137, Tryz.t137, Tryz.type137, rfl, rfl, rfl⟩
theorem ok138 : te138.ok Tryz.prog := ⟨Tryz.underlying138, Tryz.t138, Tryz.type138, rfl, rfl, rfl⟩
theorem ok139 : te139.ok Tryz.prog := ⟨Tryz.underlying139, Tryz.t139, Tryz.type139, rfl, rfl, rfl⟩
theorem ok141 : te141.ok Tryz.prog := ⟨Tryz.underlying141, Tryz.t141, Tryz.type141, rfl, rfl, rfl⟩
theorem ok142 : te142.ok Tryz.prog := ⟨Tryz.underlying142, Tryz.t142, Tryz.type142, rfl, rfl, rfl⟩
theorem ok145 : te145.ok Tryz.prog := ⟨Tryz.underlying145, Tryz.t145, Tryz.type145, rfl, rfl, rfl⟩
theorem ok146 : te146.ok Tryz.prog := ⟨Tryz.underlying146, Tryz.t146, Tryz.type146, rfl, rfl, rfl⟩
theorem ok147 : te147.ok Tryz.prog := ⟨Tryz.underlying147, Tryz.t147, Tryz.type147, rfl, rfl, rfl⟩
theorem ok148 : te148.ok Tryz.prog := ⟨Tryz.underlying148, Tryz.t148, Tryz.type148, rfl, rfl, rfl⟩
theorem ok149 : te149.ok Tryz.prog := ⟨Tryz.underlying149, Tryz.t149, Tryz.type149, rfl, rfl, rfl⟩
theorem ok150 : te150.ok Tryz.prog := ⟨Tryz.underlying150, Tryz.t150, Tryz.type150, rfl, rfl, rfl⟩
theorem ok151 : te151.ok Tryz.prog := ⟨Tryz.underlying151, Tryz.t151, Tryz.type151, rfl, rfl, rfl⟩
theorem ok152 : te152.ok Tryz.prog := ⟨Tryz.underlying152, Tryz.t152, Tryz.type152, rfl, rfl, rfl⟩
theorem ok153 : te153.ok Tryz.prog := ⟨Tryz.underlying153, Tryz.t153, Tryz.type153, rfl, rfl, rfl⟩
theorem ok154 : te154.ok Tryz.prog := ⟨Tryz.underlying154, Tryz.t154, Tryz.type154, rfl, rfl, rfl⟩
theorem ok155 : te155.ok Tryz.prog := ⟨Tryz.underlying155, Tryz.t155, Tryz.type155, rfl, rfl, rfl⟩
theorem ok156 : te156.ok Tryz.prog := ⟨Tryz.underlying156, Tryz.t156, Tryz.type156, rfl, rfl, rfl⟩
theorem ok158 : te158.ok Tryz.prog := ⟨Tryz.underlying158, Tryz.t158, Tryz.type158, rfl, rfl, rfl⟩
theorem ok159 : te159.ok Tryz.prog := ⟨Tryz.underlying159, Tryz.t159, Tryz.type159, rfl, rfl, rfl⟩
theorem ok160 : te160.ok Tryz.prog := ⟨Tryz.underlying160, Tryz.t160, Tryz.type160, rfl, rfl, rfl⟩
theorem ok161 : te161.ok Tryz.prog := ⟨Tryz.underlying161, Tryz.t161, Tryz.type161, rfl, rfl, rfl⟩
theorem ok162 : te162.ok Tryz.prog := ⟨Tryz.underlying162, Tryz.t162, Tryz.type162, rfl, rfl, rfl⟩
theorem ok163 : te163.ok Tryz.prog := ⟨Tryz.underlying163, Tryz.t163, Tryz.type163, rfl, rfl, rfl⟩
theorem ok164 : te164.ok Tryz.prog := ⟨Tryz.underlying164, Tryz.t164, Tryz.type164, rfl, rfl, rfl⟩
theorem ok165 : te165.ok Tryz.prog := ⟨Tryz.underlying165, Tryz.t165, Tryz.type165, rfl, rfl, rfl⟩
theorem ok166 : te166.ok Tryz.prog := ⟨Tryz.underlying166, Tryz.t166, Tryz.type166, rfl, rfl, rfl⟩
theorem ok167 : te167.ok Tryz.prog := ⟨Tryz.underlying167, Tryz.t167, Tryz.type167, rfl, rfl, rfl⟩
theorem ok168 : te168.ok Tryz.prog := ⟨Tryz.underlying168, Tryz.t168, Tryz.type168, rfl, rfl, rfl⟩
theorem ok169 : te169.ok Tryz.prog := ⟨Tryz.underlying169, Tryz.t169, Tryz.type169, rfl, rfl, rfl⟩
theorem ok170 : te170.ok Tryz.prog := ⟨Tryz.underlying170, Tryz.t170, Tryz.type170, rfl, rfl, rfl⟩
theorem ok171 : te171.ok Tryz.prog := ⟨Tryz.underlying171, Tryz.t171, Tryz.type171, rfl, rfl, rfl⟩
theorem ok172 : te172.ok Tryz.prog := ⟨Tryz.underlying172, Tryz.t172, Tryz.type172, rfl, rfl, rfl⟩
theorem ok173 : te173.ok Tryz.prog := ⟨Tryz.underlying173, Tryz.t173, Tryz.type173, rfl, rfl, rfl⟩
theorem ok176 : te176.ok Tryz.prog := ⟨Tryz.underlying176, Tryz.t176, Tryz.type176, rfl, rfl, rfl⟩
theorem ok177 : te177.ok Tryz.prog := ⟨Tryz.underlying177, Tryz.t177, Tryz.type177, rfl, rfl, rfl⟩
theorem ok178 : te178.ok Tryz.prog := ⟨Tryz.underlying178, Tryz.t178, Tryz.type178, rfl, rfl, rfl⟩
theorem ok179 : te179.ok Tryz.prog := ⟨Tryz.underlying179, Tryz.t179, Tryz.type179, rfl, rfl, rfl⟩
theorem ok180 : te180.ok Tryz.prog := ⟨Tryz.underlying180, Tryz.t180, Tryz.type180, rfl, rfl, rfl⟩
theorem ok181 : te181.ok Tryz.prog := ⟨Tryz.underlying181, Tryz.t181, Tryz.type181, rfl, rfl, rfl⟩
theorem ok182 : te182.ok Tryz.prog := ⟨Tryz.underlying182, Tryz.t182, Tryz.type182, rfl, rfl, rfl⟩
theorem ok183 : te183.ok Tryz.prog := ⟨Tryz.underlying183, Tryz.t183, Tryz.type183, rfl, rfl, rfl⟩
theorem ok184 : te184.ok Tryz.prog := ⟨Tryz.underlying184, Tryz.t184, Tryz.type184, rfl, rfl, rfl⟩
theorem ok185 : te185.ok Tryz.prog := ⟨Tryz.underlying185, Tryz.t185, Tryz.type185, rfl, rfl, rfl⟩
theorem ok186 : te186.ok Tryz.prog := ⟨Tryz.underlying186, Tryz.t186, Tryz.type186, rfl, rfl, rfl⟩
theorem ok187 : te187.ok Tryz.prog := ⟨Tryz.underlying187, Tryz.t187, Tryz.type187, rfl, rfl, rfl⟩
theorem ok188 : te188.ok Tryz.prog := ⟨Tryz.underlying188, Tryz.t188, Tryz.type188, rfl, rfl, rfl⟩
theorem ok189 : te189.ok Tryz.prog := ⟨Tryz.underlying189, Tryz.t189, Tryz.type189, rfl, rfl, rfl⟩
theorem ok190 : te190.ok Tryz.prog := ⟨Tryz.underlying190, Tryz.t190, Tryz.type190, rfl, rfl, rfl⟩
theorem ok191 : te191.ok Tryz.prog := ⟨Tryz.underlying191, Tryz.t191, Tryz.type191, rfl, rfl, rfl⟩
theorem ok192 : te192.ok Tryz.prog := ⟨Tryz.underlying192, Tryz.t192, Tryz.type192, rfl, rfl, rfl⟩
theorem ok193 : te193.ok Tryz.prog := ⟨Tryz.underlying193, Tryz.t193, Tryz.type193, rfl, rfl, rfl⟩
theorem ok194 : te194.ok Tryz.prog := ⟨Tryz.underlying194, Tryz.t194, Tryz.type194, rfl, rfl, rfl⟩
theorem ok195 : te195.ok Tryz.prog := ⟨Tryz.underlying195, Tryz.t195, Tryz.type195, rfl, rfl, rfl⟩
theorem ok196 : te196.ok Tryz.prog := ⟨Tryz.underlying196, Tryz.t196, Tryz.type196, rfl, rfl, rfl⟩
theorem ok197 : te197.ok Tryz.prog := ⟨Tryz.underlying197, Tryz.t197, Tryz.type197, rfl, rfl, rfl⟩
theorem ok198 : te198.ok Tryz.prog := ⟨Tryz.underlying198, Tryz.t198, Tryz.type198, rfl, rfl, rfl⟩
theorem ok199 : te199.ok Tryz.prog := ⟨Tryz.underlying199, Tryz.t199, Tryz.type199, rfl, rfl, rfl⟩
theorem ok200 : te200.ok Tryz.prog := ⟨Tryz.underlying200, Tryz.t200, Tryz.type200, rfl, rfl, rfl⟩
theorem ok201 : te201.ok Tryz.prog := ⟨Tryz.underlying201, Tryz.t201, Tryz.type201, rfl, rfl, rfl⟩
theorem ok202 : te202.ok Tryz.prog := ⟨Tryz.underlying202, Tryz.t202, Tryz.type202, rfl, rfl, rfl⟩
theorem ok206 : te206.ok Tryz.prog := ⟨Tryz.underlying206, Tryz.t206, Tryz.type206, rfl, rfl, rfl⟩
theorem ok207 : te207.ok Tryz.prog := ⟨Tryz.underlying207, Tryz.t207, Tryz.type207, rfl, rfl, rfl⟩
theorem ok208 : te208.ok Tryz.prog := ⟨Tryz.underlying208, Tryz.t208, Tryz.type208, rfl, rfl, rfl⟩
theorem ok209 : te209.ok Tryz.prog := ⟨Tryz.underlying209, Tryz.t209, Tryz.type209, rfl, rfl, rfl⟩
theorem ok210 : te210.ok Tryz.prog := ⟨Tryz.underlying210, Tryz.t210, Tryz.type210, rfl, rfl, rfl⟩
theorem ok211 : te211.ok Tryz.prog := ⟨Tryz.underlying211, Tryz.t211, Tryz.type211, rfl, rfl, rfl⟩
theorem ok212 : te212.ok Tryz.prog := ⟨Tryz.underlying212, Tryz.t212, Tryz.type212, rfl, rfl, rfl⟩
theorem ok213 : te213.ok Tryz.prog := ⟨Tryz.underlying213, Tryz.t213, Tryz.type213, rfl, rfl, rfl⟩
theorem ok214 : te214.ok Tryz.prog := ⟨Tryz.underlying214, Tryz.t214, Tryz.type214, rfl, rfl, rfl⟩
theorem ok215 : te215.ok Tryz.prog := ⟨Tryz.underlying215, Tryz.t215, Tryz.type215, rfl, rfl, rfl⟩
theorem ok216 : te216.ok Tryz.prog := ⟨Tryz.underlying216, Tryz.t216, Tryz.type216, rfl, rfl, rfl⟩
theorem ok217 : te217.ok Tryz.prog := ⟨Tryz.underlying217, Tryz.t217, Tryz.type217, rfl, rfl, rfl⟩
theorem ok218 : te218.ok Tryz.prog := ⟨Tryz.underlying218, Tryz.t218, Tryz.type218, rfl, rfl, rfl⟩
theorem ok219 : te219.ok Tryz.prog := ⟨Tryz.underlying219, Tryz.t219, Tryz.type219, rfl, rfl, rfl⟩
theorem ok220 : te220.ok Tryz.prog := ⟨Tryz.underlying220, Tryz.t220, Tryz.type220, rfl, rfl, rfl⟩
theorem ok221 : te221.ok Tryz.prog := ⟨Tryz.underlying221, Tryz.t221, Tryz.type221, rfl, rfl, rfl⟩
theorem ok222 : te222.ok Tryz.prog := ⟨Tryz.underlying222, Tryz.t222, Tryz.type222, rfl, rfl, rfl⟩
theorem ok224 : te224.ok Tryz.prog := ⟨Tryz.underlying224, Tryz.t224, Tryz.type224, rfl, rfl, rfl⟩
theorem ok225 : te225.ok Tryz.prog := ⟨Tryz.underlying225, Tryz.t225, Tryz.type225, rfl, rfl, rfl⟩
theorem ok226 : te226.ok Tryz.prog := ⟨Tryz.underlying226, Tryz.t226, Tryz.type226, rfl, rfl, rfl⟩
theorem ok227 : te227.ok Tryz.prog := ⟨Tryz.underlying227, Tryz.t227, Tryz.type227, rfl, rfl, rfl⟩
theorem ok228 : te228.ok Tryz.prog := ⟨Tryz.underlying228, Tryz.t228, Tryz.type228, rfl, rfl, rfl⟩
theorem ok230 : te230.ok Tryz.prog := ⟨Tryz.underlying230, Tryz.t230, Tryz.type230, rfl, rfl, rfl⟩
theorem ok231 : te231.ok Tryz.prog := ⟨Tryz.underlying231, Tryz.t231, Tryz.type231, rfl, rfl, rfl⟩
theorem ok232 : te232.ok Tryz.prog := ⟨Tryz.underlying232, Tryz.t232, Tryz.type232, rfl, rfl, rfl⟩
theorem ok233 : te233.ok Tryz.prog := ⟨Tryz.underlying233, Tryz.t233, Tryz.type233, rfl, rfl, rfl⟩
theorem ok234 : te234.ok Tryz.prog := ⟨Tryz.underlying234, Tryz.t234, Tryz.type234, rfl, rfl, rfl⟩
theorem ok235 : te235.ok Tryz.prog := ⟨Tryz.underlying235, Tryz.t235, Tryz.type235, rfl, rfl, rfl⟩
theorem ok236 : te236.ok Tryz.prog := ⟨Tryz.underlying236, Tryz.t236, Tryz.type236, rfl, rfl, rfl⟩
theorem ok237 : te237.ok Tryz.prog := ⟨Tryz.underlying237, Tryz.t237, Tryz.type237, rfl, rfl, rfl⟩
theorem ok239 : te239.ok Tryz.prog := ⟨Tryz.underlying239, Tryz.t239, Tryz.type239, rfl, rfl, rfl⟩
theorem ok240 : te240.ok Tryz.prog := ⟨Tryz.underlying240, Tryz.t240, Tryz.type240, rfl, rfl, rfl⟩
theorem ok241 : te241.ok Tryz.prog := ⟨Tryz.underlying241, Tryz.t241, Tryz.type241, rfl, rfl, rfl⟩
theorem ok242 : te242.ok Tryz.prog := ⟨Tryz.underlying242, Tryz.t242, Tryz.type242, rfl, rfl, rfl⟩
theorem ok243 : te243.ok Tryz.prog := ⟨Tryz.underlying243, Tryz.t243, Tryz.type243, rfl, rfl, rfl⟩
theorem ok244 : te244.ok Tryz.prog := ⟨Tryz.underlying244, Tryz.t244, Tryz.type244, rfl, rfl, rfl⟩
theorem ok245 : te245.ok Tryz.prog := ⟨Tryz.underlying245, Tryz.t245, Tryz.type245, rfl, rfl, rfl⟩
theorem ok246 : te246.ok Tryz.prog := ⟨Tryz.underlying246, Tryz.t246, Tryz.type246, rfl, rfl, rfl⟩
theorem ok247 : te247.ok Tryz.prog := ⟨Tryz.underlying247, Tryz.t247, Tryz.type247, rfl, rfl, rfl⟩
theorem ok248 : te248.ok Tryz.prog := ⟨Tryz.underlying248, Tryz.t248, Tryz.type248, rfl, rfl, rfl⟩
theorem ok249 : te249.ok Tryz.prog := ⟨Tryz.underlying249, Tryz.t249, Tryz.type249, rfl, rfl, rfl⟩
theorem ok250 : te250.ok Tryz.prog := ⟨Tryz.underlying250, Tryz.t250, Tryz.type250, rfl, rfl, rfl⟩
theorem ok252 : te252.ok Tryz.prog := ⟨Tryz.underlying252, Tryz.t252, Tryz.type252, rfl, rfl, rfl⟩
theorem ok253 : te253.ok Tryz.prog := ⟨Tryz.underlying253, Tryz.t253, Tryz.type253, rfl, rfl, rfl⟩
theorem ok258 : te258.ok Tryz.prog := ⟨Tryz.underlying258, Tryz.t258, Tryz.type258, rfl, rfl, rfl⟩
theorem ok261 : te261.ok Tryz.prog := ⟨Tryz.underlying261, Tryz.t261, Tryz.type261, rfl, rfl, rfl⟩
theorem ok262 : te262.ok Tryz.prog := ⟨Tryz.underlying262, Tryz.t262, Tryz.type262, rfl, rfl, rfl⟩
theorem ok263 : te263.ok Tryz.prog := ⟨Tryz.underlying263, Tryz.t263, Tryz.type263, rfl, rfl, rfl⟩
theorem ok264 : te264.ok Tryz.prog := ⟨Tryz.underlying264, Tryz.t264, Tryz.type264, rfl, rfl, rfl⟩
theorem ok265 : te265.ok Tryz.prog := ⟨Tryz.underlying265, Tryz.t265, Tryz.type265, rfl, rfl, rfl⟩
theorem ok266 : te266.ok Tryz.prog := ⟨Tryz.underlying266, Tryz.t266, Tryz.type266, rfl, rfl, rfl⟩
theorem ok267 : te267.ok Tryz.prog := ⟨Tryz.underlying267, Tryz.t267, Tryz.type267, rfl, rfl, rfl⟩
theorem ok268 : te268.ok Tryz.prog := ⟨Tryz.underlying268, Tryz.t268, Tryz.type268, rfl, rfl, rfl⟩
theorem ok269 : te269.ok Tryz.prog := ⟨Tryz.underlying269, Tryz.t269, Tryz.type269, rfl, rfl, rfl⟩
theorem ok270 : te270.ok Tryz.prog := ⟨Tryz.underlying270, Tryz.t270, Tryz.type270, rfl, rfl, rfl⟩
theorem ok271 : te271.ok Tryz.prog := ⟨Tryz.underlying271, Tryz.t271, Tryz.type271, rfl, rfl, rfl⟩
theorem ok272 : te272.ok Tryz.prog := ⟨Tryz.underlying272, Tryz.t272, Tryz.type272, rfl, rfl, rfl⟩
theorem ok273 : te273.ok Tryz.prog := ⟨Tryz.underlying273, Tryz.t273, Tryz.type273, rfl, rfl, rfl⟩
theorem ok274 : te274.ok Tryz.prog := ⟨Tryz.underlying274, Tryz.t274, Tryz.type274, rfl, rfl, rfl⟩
theorem ok275 : te275.ok Tryz.prog := ⟨Tryz.underlying275, Tryz.t275, Tryz.type275, rfl, rfl, rfl⟩
theorem ok276 : te276.ok Tryz.prog := ⟨Tryz.underlying276, Tryz.t276, Tryz.type276, rfl, rfl, rfl⟩
theorem ok277 : te277.ok Tryz.prog := ⟨Tryz.underlying277, Tryz.t277, Tryz.type277, rfl, rfl, rfl⟩
theorem ok278 : te278.ok Tryz.prog := ⟨Tryz.underlying278, Tryz.t278, Tryz.type278, rfl, rfl, rfl⟩
theorem ok279 : te279.ok Tryz.prog := ⟨Tryz.underlying279, Tryz.t279, Tryz.type279, rfl, rfl, rfl⟩
theorem ok280 : te280.ok Tryz.prog := ⟨Tryz.underlying280, Tryz.t280, Tryz.type280, rfl, rfl, rfl⟩
theorem ok281 : te281.ok Tryz.prog := ⟨Tryz.underlying281, Tryz.t281, Tryz.type281, rfl, rfl, rfl⟩
theorem ok282 : te282.ok Tryz.prog := ⟨Tryz.underlying282, Tryz.t282, Tryz.type282, rfl, rfl, rfl⟩
theorem ok283 : te283.ok Tryz.prog := ⟨Tryz.underlying283, Tryz.t283, Tryz.type283, rfl, rfl, rfl⟩
theorem ok284 : te284.ok Tryz.prog := ⟨Tryz.underlying284, Tryz.t284, Tryz.type284, rfl, rfl, rfl⟩
theorem ok287 : te287.ok Tryz.prog := ⟨Tryz.underlying287, Tryz.t287, Tryz.type287, rfl, rfl, rfl⟩
theorem ok288 : te288.ok Tryz.prog := ⟨Tryz.underlying288, Tryz.t288, Tryz.type288, rfl, rfl, rfl⟩
theorem ok289 : te289.ok Tryz.prog := ⟨Tryz.underlying289, Tryz.t289, Tryz.type289, rfl, rfl, rfl⟩
theorem ok290 : te290.ok Tryz.prog := ⟨Tryz.underlying290, Tryz.t290, Tryz.type290, rfl, rfl, rfl⟩
theorem ok291 : te291.ok Tryz.prog := ⟨Tryz.underlying291, Tryz.t291, Tryz.type291, rfl, rfl, rfl⟩
theorem ok292 : te292.ok Tryz.prog := ⟨Tryz.underlying292, Tryz.t292, Tryz.type292, rfl, rfl, rfl⟩
theorem ok293 : te293.ok Tryz.prog := ⟨Tryz.underlying293, Tryz.t293, Tryz.type293, rfl, rfl, rfl⟩
theorem ok294 : te294.ok Tryz.prog := ⟨Tryz.underlying294, Tryz.t294, Tryz.type294, rfl, rfl, rfl⟩
theorem ok295 : te295.ok Tryz.prog := ⟨Tryz.underlying295, Tryz.t295, Tryz.type295, rfl, rfl, rfl⟩
theorem ok296 : te296.ok Tryz.prog := ⟨Tryz.underlying296, Tryz.t296, Tryz.type296, rfl, rfl, rfl⟩
theorem ok297 : te297.ok Tryz.prog := ⟨Tryz.underlying297, Tryz.t297, Tryz.type297, rfl, rfl, rfl⟩
theorem ok298 : te298.ok Tryz.prog := ⟨Tryz.underlying298, Tryz.t298, Tryz.type298, rfl, rfl, rfl⟩
theorem ok299 : te299.ok Tryz.prog := ⟨Tryz.underlying299, Tryz.t299, Tryz.type299, rfl, rfl, rfl⟩
theorem ok302 : te302.ok Tryz.prog := ⟨Tryz.underlying302, Tryz.t302, Tryz.type302, rfl, rfl, rfl⟩
theorem ok303 : te303.ok Tryz.prog := ⟨Tryz.underlying303, Tryz.t303, Tryz.type303, rfl, rfl, rfl⟩
theorem ok304 : te304.ok Tryz.prog := ⟨Tryz.underlying304, Tryz.t304, Tryz.type304, rfl, rfl, rfl⟩
theorem ok305 : te305.ok Tryz.prog := ⟨Tryz.underlying305, Tryz.t305, Tryz.type305, rfl, rfl, rfl⟩
theorem ok306 : te306.ok Tryz.prog := ⟨Tryz.underlying306, Tryz.t306, Tryz.type306, rfl, rfl, rfl⟩
theorem ok307 : te307.ok Tryz.prog := ⟨Tryz.underlying307, Tryz.t307, Tryz.type307, rfl, rfl, rfl⟩
theorem ok308 : te308.ok Tryz.prog := ⟨Tryz.underlying308, Tryz.t308, Tryz.type308, rfl, rfl, rfl⟩
theorem ok310 : te310.ok Tryz.prog := ⟨Tryz.underlying310, Tryz.t310, Tryz.type310, rfl, rfl, rfl⟩
theorem ok312 : te312.ok Tryz.prog := ⟨Tryz.underlying312, Tryz.t312, Tryz.type312, rfl, rfl, rfl⟩
theorem ok313 : te313.ok Tryz.prog := ⟨Tryz.underlying313, Tryz.t313, Tryz.type313, rfl, rfl, rfl⟩
theorem ok314 : te314.ok Tryz.prog := ⟨Tryz.underlying314, Tryz.t314, Tryz.type314, rfl, rfl, rfl⟩
theorem ok315 : te315.ok Tryz.prog := ⟨Tryz.underlying315, Tryz.t315, Tryz.type315, rfl, rfl, rfl⟩
theorem ok316 : te316.ok Tryz.prog := ⟨Tryz.underlying316, Tryz.t316, Tryz.type316, rfl, rfl, rfl⟩
theorem ok317 : te317.ok Tryz.prog := ⟨Tryz.underlying317, Tryz.t317, Tryz.type317, rfl, rfl, rfl⟩
theorem ok319 : te319.ok Tryz.prog := ⟨Tryz.underlying319, Tryz.t319, Tryz.type319, rfl, rfl, rfl⟩
theorem ok320 : te320.ok Tryz.prog := ⟨Tryz.underlying320, Tryz.t320, Tryz.type320, rfl, rfl, rfl⟩
theorem ok321 : te321.ok Tryz.prog := ⟨Tryz.underlying321, Tryz.t321, Tryz.type321, rfl, rfl, rfl⟩
theorem ok322 : te322.ok Tryz.prog := ⟨Tryz.underlying322, Tryz.t322, Tryz.type322, rfl, rfl, rfl⟩
theorem ok323 : te323.ok Tryz.prog := ⟨Tryz.underlying323, Tryz.t323, Tryz.type323, rfl, rfl, rfl⟩
theorem ok324 : te324.ok Tryz.prog := ⟨Tryz.underlying324, Tryz.t324, Tryz.type324, rfl, rfl, rfl⟩
theorem ok328 : te328.ok Tryz.prog := ⟨Tryz.underlying328, Tryz.t328, Tryz.type328, rfl, rfl, rfl⟩
theorem ok331 : te331.ok Tryz.prog := ⟨Tryz.underlying331, Tryz.t331, Tryz.type331, rfl, rfl, rfl⟩
theorem ok339 : te339.ok Tryz.prog := ⟨Tryz.underlying339, Tryz.t339, Tryz.type339, rfl, rfl, rfl⟩
theorem ok340 : te340.ok Tryz.prog := ⟨Tryz.underlying340, Tryz.t340, Tryz.type340, rfl, rfl, rfl⟩
def seatT : List TE := [te3, te4, te9, te27, te28, te38, te39, te40, te41, te48, te49, te54, te55, te65, te66, te68, te69, te71, te72, te73, te74, te79, te80, te84, te85, te91, te92, te111, te112, te114, te115, te131, te132, te135, te136, te143, te144, te174, te175, te203, te204, te254, te255, te256, te257, te259, te260, te300, te301, te22, te25, te26, te29, te36, te37, te46, te47, te53, te63, te64, te67, te88, te89, te90, te105, te110, te117, te118, te130, te140, te285, te1, te2, te5, te12, te21, te23, te24, te31, te32, te33, te34, te35, te42, te43, te44, te45, te50, te51, te52, te56, te57, te58, te59, te60, te61, te62, te70, te75, te76, te77, te78, te81, te82, te83, te87, te93, te94, te95, te96, te97, te98, te99, te100, te101, te102, te103, te104, te106, te107, te108, te109, te113, te116, te119, te121, te122, te123, te124, te125, te126, te127, te128, te129, te133, te134, te137, te138, te139, te141, te142, te145, te146, te147, te148, te149, te150, te151, te152, te153, te154, te155, te156, te158, te159, te160, te161, te162, te163, te164, te165, te166, te167, te168, te169, te170, te171, te172, te173, te176, te177, te178, te179, te180, te181, te182, te183, te184, te185, te186, te187, te188, te189, te190, te191, te192, te193, te194, te195, te196, te197, te198, te199, te200, te201, te202, te206, te207, te208, te209, te210, te211, te212, te213, te214, te215, te216, te217, te218, te219, te220, te221, te222, te224, te225, te226, te227, te228, te230, te231, te232, te233, te234, te235, te236, te237, te239, te240, te241, te242, te243, te244, te245, te246, te247, te248, te249, te250, te252, te253, te258, te261, te262, te263, te264, te265, te266, te267, te268, te269, te270, te271, te272, te273, te274, te275, te276, te277, te278, te279, te280, te281, te282, te283, te284, te287, te288, te289, te290, te291, te292, te293, te294, te295, te296, te297, te298, te299, te302, te303, te304, te305, te306, te307, te308, te310, te312, te313, te314, te315, te316, te317, te319, te320, te321, te322, te323, te324, te328, te331, te339, te340]
theorem seatT_ok : ∀ e ∈ seatT, e.ok Tryz.prog := by
 unfold seatT
 refine List.forall_mem_cons.2 ⟨ok3, ?_⟩
 refine List.forall_mem_cons.2 ⟨ok4, ?_⟩
 refine List.forall_mem_cons.2 ⟨ok9, ?_⟩
 refine List.forall_mem_cons.2 ⟨ok27, ?_⟩
 refine List.forall_mem_cons.2 ⟨ok28, ?_⟩
 refine List.forall_mem_cons.2 ⟨ok38, ?_⟩
 refine List.forall_mem_cons.2 ⟨ok39, ?_⟩
 refine List.forall_mem_cons.2 ⟨ok40, ?_⟩
 refine List.forall_mem_cons.2 ⟨ok41, ?_⟩
 refine List.forall_mem_cons.2 ⟨ok48, ?_⟩
 refine List.forall_mem_cons.2 ⟨ok49, ?_⟩
 refine List.forall_mem_cons.2 ⟨ok54, ?_⟩
 refine List.forall_mem_cons.2 ⟨ok55, ?_⟩
 refine List.forall_mem_cons.2 ⟨ok65, ?_⟩
 refine List.forall_mem_cons.2 ⟨ok66, ?_⟩
 refine List.forall_mem_cons.2 ⟨ok68, ?_⟩
 refine List.forall_mem_cons.2 ⟨ok69, ?_⟩
 refine List.forall_mem_cons.2 ⟨ok71, ?_⟩
 refine List.forall_mem_cons.2 ⟨ok72, ?_⟩
 refine List.forall_mem_cons.2 ⟨ok73, ?_⟩
 refine List.forall_mem_cons.2 ⟨ok74, ?_⟩
 refine List.forall_mem_cons.2 ⟨ok79, ?_⟩
 refine List.forall_mem_cons.2 ⟨ok80, ?_⟩
 refine List.forall_mem_cons.2 ⟨ok84, ?_⟩
 refine List.forall_mem_cons.2 ⟨ok85, ?_⟩
 refine List.forall_mem_cons.2 ⟨ok91, ?_⟩
 refine List.forall_mem_cons.2 ⟨ok92, ?_⟩
 refine List.forall_mem_cons.2 ⟨ok111, ?_⟩
 refine List.forall_mem_cons.2 ⟨ok112, ?_⟩
 refine List.forall_mem_cons.2 ⟨ok114, ?_⟩
 refine List.forall_mem_cons.2 ⟨ok115, ?_⟩
 refine List.forall_mem_cons.2 ⟨ok131, ?_⟩
 refine List.forall_mem_cons.2 ⟨ok132, ?_⟩
 refine List.forall_mem_cons.2 ⟨ok135, ?_⟩
 refine List.forall_mem_cons.2 ⟨ok136, ?_⟩
 refine List.forall_mem_cons.2 ⟨ok143, ?_⟩
 refine List.forall_mem_cons.2 ⟨ok144, ?_⟩
 refine List.forall_mem_cons.2 ⟨ok174, ?_⟩
 refine List.forall_mem_cons.2 ⟨ok175, ?_⟩
 refine List.forall_mem_cons.2 ⟨ok203, ?_⟩
 refine List.forall_mem_cons.2 ⟨ok204, ?_⟩
 refine List.forall_mem_cons.2 ⟨ok254, ?_⟩
 refine List.forall_mem_cons.2 ⟨ok255, ?_⟩
 refine List.forall_mem_cons.2 ⟨ok256, ?_⟩
 refine List.forall_mem_cons.2 ⟨ok257, ?_⟩
 refine List.forall_mem_cons.2 ⟨ok259, ?_⟩
 refine List.forall_mem_cons.2 ⟨ok260, ?_⟩
 refine List.forall_mem_cons.2 ⟨ok300, ?_⟩
 refine List.forall_mem_cons.2 ⟨ok301, ?_⟩
 refine List.forall_mem_cons.2 ⟨ok22, ?_⟩
 refine List.forall_mem_cons.2 ⟨ok25, ?_⟩
 refine List.forall_mem_cons.2 ⟨ok26, ?_⟩
 refine List.forall_mem_cons.2 ⟨ok29, ?_⟩
 refine List.forall_mem_cons.2 ⟨ok36, ?_⟩
 refine List.forall_mem_cons.2 ⟨ok37, ?_⟩
 refine List.forall_mem_cons.2 ⟨ok46, ?_⟩
 refine List.forall_mem_cons.2 ⟨ok47, ?_⟩
 refine List.forall_mem_cons.2 ⟨ok53, ?_⟩
 refine List.forall_mem_cons.2 ⟨ok63, ?_⟩
 refine List.forall_mem_cons.2 ⟨ok64, ?_⟩
 refine List.forall_mem_cons.2 ⟨ok67, ?_⟩
 refine List.forall_mem_cons.2 ⟨ok88, ?_⟩
 refine List.forall_mem_cons.2 ⟨ok89, ?_⟩
 refine List.forall_mem_cons.2 ⟨ok90, ?_⟩
 refine List.forall_mem_cons.2 ⟨ok105, ?_⟩
 refine List.forall_mem_cons.2 ⟨ok110, ?_⟩
 refine List.forall_mem_cons.2 ⟨ok117, ?_⟩
 refine List.forall_mem_cons.2 ⟨ok118, ?_⟩
 refine List.forall_mem_cons.2 ⟨ok130, ?_⟩
 refine List.forall_mem_cons.2 ⟨ok140, ?_⟩
 refine List.forall_mem_cons.2 ⟨ok285, ?_⟩
 refine List.forall_mem_cons.2 ⟨ok1, ?_⟩
 refine List.forall_mem_cons.2 ⟨ok2, ?_⟩
 refine List.forall_mem_cons.2 ⟨ok5, ?_⟩
 refine List.forall_mem_cons.2 ⟨ok12, ?_⟩
 refine List.forall_mem_cons.2 ⟨ok21, ?_⟩
 refine List.forall_mem_cons.2 ⟨ok23, ?_⟩
 refine List.forall_mem_cons.2 ⟨ok24, ?_⟩
 refine List.forall_mem_cons.2 ⟨ok31, ?_⟩
 refine List.forall_mem_cons.2 ⟨ok32, ?_⟩
 refine List.forall_mem_cons.2 ⟨ok33, ?_⟩
 refine List.forall_mem_cons.2 ⟨ok34, ?_⟩
 refine List.forall_mem_cons.2 ⟨ok35, ?_⟩
 refine List.forall_mem_cons.2 ⟨ok42, ?_⟩
 refine List.forall_mem_cons.2 ⟨ok43, ?_⟩
 refine List.forall_mem_cons.2 ⟨ok44, ?_⟩
 refine List.forall_mem_cons.2 ⟨ok45, ?_⟩
 refine List.forall_mem_cons.2 ⟨ok50, ?_⟩
 refine List.forall_mem_cons.2 ⟨ok51, ?_⟩
 refine List.forall_mem_cons.2 ⟨ok52, ?_⟩
 refine List.forall_mem_cons.2 ⟨ok56, ?_⟩
 refine List.forall_mem_cons.2 ⟨ok57, ?_⟩
 refine List.forall_mem_cons.2 ⟨ok58, ?_⟩
 refine List.forall_mem_cons.2 ⟨ok59, ?_⟩
 refine List.forall_mem_cons.2 ⟨ok60, ?_⟩
 refine List.forall_mem_cons.2 ⟨ok61, ?_⟩
 refine List.forall_mem_cons.2 ⟨ok62, ?_⟩
 refine List.forall_mem_cons.2 ⟨ok70, ?_⟩
 refine List.forall_mem_cons.2 ⟨ok75, ?_⟩
 refine List.forall_mem_cons.2 ⟨ok76, ?_⟩
 refine List.forall_mem_cons.2 ⟨ok77, ?_⟩
 refine List.forall_mem_cons.2 ⟨ok78, ?_⟩
 refine List.forall_mem_cons.2 ⟨ok81, ?_⟩
 refine List.forall_mem_cons.2 ⟨ok82, ?_⟩
 refine List.forall_mem_cons.2 ⟨ok83, ?_⟩
 refine List.forall_mem_cons.2 ⟨ok87, ?_⟩
 refine List.forall_mem_cons.2 ⟨ok93, ?_⟩
 refine List.forall_mem_cons.2 ⟨ok94, ?_⟩
 refine List.forall_mem_cons.2 ⟨ok95, ?_⟩
 refine List.forall_mem_cons.2 ⟨ok96, ?_⟩
 refine List.forall_mem_cons.2 ⟨ok97, ?_⟩
 refine List.forall_mem_cons.2 ⟨ok98, ?_⟩
 refine List.forall_mem_cons.2 ⟨ok99, ?_⟩
 refine List.forall_mem_cons.2 ⟨ok100, ?_⟩
 refine List.forall_mem_cons.2 ⟨ok101, ?_⟩
 refine List.forall_mem_cons.2 ⟨ok102, ?_⟩
 refine List.forall_mem_cons.2 ⟨ok103, ?_⟩
 refine List.forall_mem_cons.2 ⟨ok104, ?_⟩
 refine List.forall_mem_cons.2 ⟨ok106, ?_⟩
 refine List.forall_mem_cons.2 ⟨ok107, ?_⟩
 refine List.forall_mem_cons.2 ⟨ok108, ?_⟩
 refine List.forall_mem_cons.2 ⟨ok109, ?_⟩
 refine List.forall_mem_cons.2 ⟨ok113, ?_⟩
 refine List.forall_mem_cons.2 ⟨ok116, ?_⟩
 refine List.forall_mem_cons.2 ⟨ok119, ?_⟩
 refine List.forall_mem_cons.2 ⟨ok121, ?_⟩
 refine List.forall_mem_cons.2 ⟨ok122, ?_⟩
 refine List.forall_mem_cons.2 ⟨ok123, ?_⟩
 refine List.forall_mem_cons.2 ⟨ok124, ?_⟩
 refine List.forall_mem_cons.2 ⟨ok125, ?_⟩
 refine List.forall_mem_cons.2 ⟨ok126, ?_⟩
 refine List.forall_mem_cons.2 ⟨ok127, ?_⟩
 refine List.forall_mem_cons.2 ⟨ok128, ?_⟩
 refine List.forall_mem_cons.2 ⟨ok129, ?_⟩
 refine List.forall_mem_cons.2 ⟨ok133, ?_⟩
 refine List.forall_mem_cons.2 ⟨ok134, ?_⟩
 refine List.forall_mem_cons.2 ⟨ok137, ?_⟩
 refine List.forall_mem_cons.2 ⟨ok138, ?_⟩
 refine List.forall_mem_cons.2 ⟨ok139, ?_⟩
 refine List.forall_mem_cons.2 ⟨ok141, ?_⟩
 refine List.forall_mem_cons.2 ⟨ok142, ?_⟩
 refine List.forall_mem_cons.2 ⟨ok145, ?_⟩
 refine List.forall_mem_cons.2 ⟨ok146, ?_⟩
 refine List.forall_mem_cons.2 ⟨ok147, ?_⟩
 refine List.forall_mem_cons.2 ⟨ok148, ?_⟩
 refine List.forall_mem_cons.2 ⟨ok149, ?_⟩
 refine List.forall_mem_cons.2 ⟨ok150, ?_⟩
 refine List.forall_mem_cons.2 ⟨ok151, ?_⟩
 refine List.forall_mem_cons.2 ⟨ok152, ?_⟩
 refine List.forall_mem_cons.2 ⟨ok153, ?_⟩
 refine List.forall_mem_cons.2 ⟨ok154, ?_⟩
 refine List.forall_mem_cons.2 ⟨ok155, ?_⟩
 refine List.forall_mem_cons.2 ⟨ok156, ?_⟩
 refine List.forall_mem_cons.2 ⟨ok158, ?_⟩
 refine List.forall_mem_cons.2 ⟨ok159, ?_⟩
 refine List.forall_mem_cons.2 ⟨ok160, ?_⟩
 refine List.forall_mem_cons.2 ⟨ok161, ?_⟩
 refine List.forall_mem_cons.2 ⟨ok162, ?_⟩
 refine List.forall_mem_cons.2 ⟨ok163, ?_⟩
 refine List.forall_mem_cons.2 ⟨ok164, ?_⟩
 refine List.forall_mem_cons.2 ⟨ok165, ?_⟩
 refine List.forall_mem_cons.2 ⟨ok166, ?_⟩
 refine List.forall_mem_cons.2 ⟨ok167, ?_⟩
 refine List.forall_mem_cons.2 ⟨ok168, ?_⟩
 refine List.forall_mem_cons.2 ⟨ok169, ?_⟩
 refine List.forall_mem_cons.2 ⟨ok170, ?_⟩
 refine List.forall_mem_cons.2 ⟨ok171, ?_⟩
 refine List.forall_mem_cons.2 ⟨ok172, ?_⟩
 refine List.forall_mem_cons.2 ⟨ok173, ?_⟩
 refine List.forall_mem_cons.2 ⟨ok176, ?_⟩
 refine List.forall_mem_cons.2 ⟨ok177, ?_⟩
 refine List.forall_mem_cons.2 ⟨ok178, ?_⟩
 refine List.forall_mem_cons.2 ⟨ok179, ?_⟩
 refine List.forall_mem_cons.2 ⟨ok180, ?_⟩
 refine List.forall_mem_cons.2 ⟨ok181, ?_⟩
 refine List.forall_mem_cons.2 ⟨ok182, ?_⟩
 refine List.forall_mem_cons.2 ⟨ok183, ?_⟩
 refine List.forall_mem_cons.2 ⟨ok184, ?_⟩
 refine List.forall_mem_cons.2 ⟨ok185, ?_⟩
 refine List.forall_mem_cons.2 ⟨ok186, ?_⟩
 refine List.forall_mem_cons.2 ⟨ok187, ?_⟩
 refine List.forall_mem_cons.2 ⟨ok188, ?_⟩
 refine List.forall_mem_cons.2 ⟨ok189, ?_⟩
 refine List.forall_mem_cons.2 ⟨ok190, ?_⟩
 refine List.forall_mem_cons.2 ⟨ok191, ?_⟩
 refine List.forall_mem_cons.2 ⟨ok192, ?_⟩
 refine List.forall_mem_cons.2 ⟨ok193, ?_⟩
 refine List.forall_mem_cons.2 ⟨ok194, ?_⟩
 refine List.forall_mem_cons.2 ⟨ok195, ?_⟩
 refine List.forall_mem_cons.2 ⟨ok196, ?_⟩
 refine List.forall_mem_cons.2 ⟨ok197, ?_⟩
 refine List.forall_mem_cons.2 ⟨ok198, ?_⟩
 refine List.forall_mem_cons.2 ⟨ok199, ?_⟩
 refine List.forall_mem_cons.2 ⟨ok200, ?_⟩
 refine List.forall_mem_cons.2 ⟨ok201, ?_⟩
 refine List.forall_mem_cons.2 ⟨ok202, ?_⟩
 refine List.forall_mem_cons.2 ⟨ok206, ?_⟩
 refine List.forall_mem_cons.2 ⟨ok207, ?_⟩
 refine List.forall_mem_cons.2 ⟨ok208, ?_⟩
 refine List.forall_mem_cons.2 ⟨ok209, ?_⟩
 refine List.forall_mem_cons.2 ⟨ok210, ?_⟩
 refine List.forall_mem_cons.2 ⟨ok211, ?_⟩
 refine List.forall_mem_cons.2 ⟨ok212, ?_⟩
 refine List.forall_mem_cons.2 ⟨ok213, ?_⟩
 refine List.forall_mem_cons.2 ⟨ok214, ?_⟩
 refine List.forall_mem_cons.2 ⟨ok215, ?_⟩
 refine List.forall_mem_cons.2 ⟨ok216, ?_⟩
 refine List.forall_mem_cons.2 ⟨ok217, ?_⟩
 refine List.forall_mem_cons.2 ⟨ok218, ?_⟩
 refine List.forall_mem_cons.2 ⟨ok219, ?_⟩
 refine List.forall_mem_cons.2 ⟨ok220, ?_⟩
 refine List.forall_mem_cons.2 ⟨ok221, ?_⟩
 refine List.forall_mem_cons.2 ⟨ok222, ?_⟩
 refine List.forall_mem_cons.2 ⟨ok224, ?_⟩
 refine List.forall_mem_cons.2 ⟨ok225, ?_⟩
 refine List.forall_mem_cons.2 ⟨ok226, ?_⟩
 refine List.forall_mem_cons.2 ⟨ok227, ?_⟩
 refine List.forall_mem_cons.2 ⟨ok228, ?_⟩
 refine List.forall_mem_cons.2 ⟨ok230, ?_⟩
 refine List.forall_mem_cons.2 ⟨ok231, ?_⟩
 refine List.forall_mem_cons.2 ⟨ok232, ?_⟩
 refine List.forall_mem_cons.2 ⟨ok233, ?_⟩
 refine List.forall_mem_cons.2 ⟨ok234, ?_⟩
 refine List.forall_mem_cons.2 ⟨ok235, ?_⟩
 refine List.forall_mem_cons.2 ⟨ok236, ?_⟩
 refine List.forall_mem_cons.2 ⟨ok237, ?_⟩
 refine List.forall_mem_cons.2 ⟨ok239, ?_⟩
 refine List.forall_mem_cons.2 ⟨ok240, ?_⟩
 refine List.forall_mem_cons.2 ⟨ok241, ?_⟩
 refine List.forall_mem_cons.2 ⟨ok242, ?_⟩
 refine List.forall_mem_cons.2 ⟨ok243, ?_⟩
 refine List.forall_mem_cons.2 ⟨ok244, ?_⟩
 refine List.forall_mem_cons.2 ⟨ok245, ?_⟩
 refine List.forall_mem_cons.2 ⟨ok246, ?_⟩
 refine List.forall_mem_cons.2 ⟨ok247, ?_⟩
 refine List.forall_mem_cons.2 ⟨ok248, ?_⟩
 refine List.forall_mem_cons.2 ⟨ok249, ?_⟩
 refine List.forall_mem_cons.2 ⟨ok250, ?_⟩
 refine List.forall_mem_cons.2 ⟨ok252, ?_⟩
 refine List.forall_mem_cons.2 ⟨ok253, ?_⟩
 refine List.forall_mem_cons.2 ⟨ok258, ?_⟩
 refine List.forall_mem_cons.2 ⟨ok261, ?_⟩
 refine List.forall_mem_cons.2 ⟨ok262, ?_⟩
 refine List.forall_mem_cons.2 ⟨ok263, ?_⟩
 refine List.forall_mem_cons.2 ⟨ok264, ?_⟩
 refine List.forall_mem_cons.2 ⟨ok265, ?_⟩
 refine List.forall_mem_cons.2 ⟨ok266, ?_⟩
 refine List.forall_mem_cons.2 ⟨ok267, ?_⟩
 refine List.forall_mem_cons.2 ⟨ok268, ?_⟩
 refine List.forall_mem_cons.2 ⟨ok269, ?_⟩
 refine List.forall_mem_cons.2 ⟨ok270, ?_⟩
 refine List.forall_mem_cons.2 ⟨ok271, ?_⟩
 refine List.forall_mem_cons.2 ⟨ok272, ?_⟩
 refine List.forall_mem_cons.2 ⟨ok273, ?_⟩
 refine List.forall_mem_cons.2 ⟨ok274, ?_⟩
 refine List.forall_mem_cons.2 ⟨ok275, ?_⟩
 refine List.forall_mem_cons.2 ⟨ok276, ?_⟩
 refine List.forall_mem_cons.2 ⟨ok277, ?_⟩
 refine List.forall_mem_cons.2 ⟨ok278, ?_⟩
 refine List.forall_mem_cons.2 ⟨ok279, ?_⟩
 refine List.forall_mem_cons.2 ⟨ok280, ?_⟩
 refine List.forall_mem_cons.2 ⟨ok281, ?_⟩
 refine List.forall_mem_cons.2 ⟨ok282, ?_⟩
 refine List.forall_mem_cons.2 ⟨ok283, ?_⟩
 refine List.forall_mem_cons.2 ⟨ok284, ?_⟩
 refine List.forall_mem_cons.2 ⟨ok287, ?_⟩
 refine List.forall_mem_cons.2 ⟨ok288, ?_⟩
 refine List.forall_mem_cons.2 ⟨ok289, ?_⟩
 refine List.forall_mem_cons.2 ⟨ok290, ?_⟩
 refine List.forall_mem_cons.2 ⟨ok291, ?_⟩
 refine List.forall_mem_cons.2 ⟨ok292, ?_⟩
 refine List.forall_mem_cons.2 ⟨ok293, ?_⟩
 refine List.forall_mem_cons.2 ⟨ok294, ?_⟩
 refine List.forall_mem_cons.2 ⟨ok295, ?_⟩
 refine List.forall_mem_cons.2 ⟨ok296, ?_⟩
 refine List.forall_mem_cons.2 ⟨ok297, ?_⟩
 refine List.forall_mem_cons.2 ⟨ok298, ?_⟩
 refine List.forall_mem_cons.2 ⟨ok299, ?_⟩
 refine List.forall_mem_cons.2 ⟨ok302, ?_⟩
 refine List.forall_mem_cons.2 ⟨ok303, ?_⟩
 refine List.forall_mem_cons.2 ⟨ok304, ?_⟩
 refine List.forall_mem_cons.2 ⟨ok305, ?_⟩
 refine List.forall_mem_cons.2 ⟨ok306, ?_⟩
 refine List.forall_mem_cons.2 ⟨ok307, ?_⟩
 refine List.forall_mem_cons.2 ⟨ok308, ?_⟩
 refine List.forall_mem_cons.2 ⟨ok310, ?_⟩
 refine List.forall_mem_cons.2 ⟨ok312, ?_⟩
 refine List.forall_mem_cons.2 ⟨ok313, ?_⟩
 refine List.forall_mem_cons.2 ⟨ok314, ?_⟩
 refine List.forall_mem_cons.2 ⟨ok315, ?_⟩
 refine List.forall_mem_cons.2 ⟨ok316, ?_⟩
 refine List.forall_mem_cons.2 ⟨ok317, ?_⟩
 refine List.forall_mem_cons.2 ⟨ok319, ?_⟩
 refine List.forall_mem_cons.2 ⟨ok320, ?_⟩
 refine List.forall_mem_cons.2 ⟨ok321, ?_⟩
 refine List.forall_mem_cons.2 ⟨ok322, ?_⟩
 refine List.forall_mem_cons.2 ⟨ok323, ?_⟩
 refine List.forall_mem_cons.2 ⟨ok324, ?_⟩
 refine List.forall_mem_cons.2 ⟨ok328, ?_⟩
 refine List.forall_mem_cons.2 ⟨ok331, ?_⟩
 refine List.forall_mem_cons.2 ⟨ok339, ?_⟩
 refine List.forall_mem_cons.2 ⟨ok340, ?_⟩
 intro e h; cases h
def seatG : List GE := [{ g := 0, x := .agg [.int 0, .int 1] }]
def seatI (w : World) (F : Nat → Prop) : Prop := (F 2 ∧ Lib.TabIs Tryz.prog w "internal/strconv.uint64pow10" .u64 Lib.pow10Tab) ∧ (F 1 ∧ ∃ m : Int, w.cell? ⟨1, 0, none⟩ = some (.int .i64 m))
theorem seatI_mono : ∀ (w w' : World) (F F' : Nat → Prop), (∀ b, F b → F' b) → (∀ b, F b → w'.heap[b]? = w.heap[b]?) → seatI w F → seatI w' F' := by
 rintro w w' F F' hF hw ⟨h1, h2⟩
 refine ⟨?_, ?_⟩
 ·obtain ⟨a, b⟩ := h1
  have hg : Program.globalNamed Tryz.prog "internal/strconv.uint64pow10" = some 2 := by kernel_rfl
  refine ⟨hF _ a, ?_⟩
  unfold Lib.TabIs World.var? at b ⊢
  rw [hg] at b ⊢
  simp only [Option.bind_some] at b ⊢
  rw [hw _ a]
  exact b
 ·obtain ⟨a, m, b⟩ := h2
  exact ⟨hF _ a, m, by rw [World.cell?_of_block (hw _ a)]; exact b⟩
theorem seatM : Tryz.prog.follows .mixedOrders = true := by kernel_rfl
noncomputable def E : Env := { P := Tryz.prog, T := seatT, G := seatG, hT := seatT_ok, hM := seatM, I := seatI, hI := seatI_mono }
theorem b2 : HasBody E 2 := by intro args w; dsimp only [E]; exact Tryz.call2 args w
theorem b3 : HasBody E 3 := by intro args w; dsimp only [E]; exact Tryz.call3 args w
theorem b4 : HasBody E 4 := by intro args w; dsimp only [E]; exact Tryz.call4 args w
theorem b5 : HasBody E 5 := by intro args w; dsimp only [E]; exact Tryz.call5 args w
theorem b6 : HasBody E 6 := by intro args w; dsimp only [E]; exact Tryz.call6 args w
theorem b8 : HasBody E 8 := by intro args w; dsimp only [E]; exact Tryz.call8 args w
theorem b9 : HasBody E 9 := by intro args w; dsimp only [E]; exact Tryz.call9 args w
theorem b11 : HasBody E 11 := by intro args w; dsimp only [E]; exact Tryz.call11 args w
theorem b14 : HasBody E 14 := by intro args w; dsimp only [E]; exact Tryz.call14 args w
theorem b15 : HasBody E 15 := by intro args w; dsimp only [E]; exact Tryz.call15 args w
theorem b16 : HasBody E 16 := by intro args w; dsimp only [E]; exact Tryz.call16 args w
theorem b17 : HasBody E 17 := by intro args w; dsimp only [E]; exact Tryz.call17 args w
theorem b18 : HasBody E 18 := by intro args w; dsimp only [E]; exact Tryz.call18 args w
theorem b19 : HasBody E 19 := by intro args w; dsimp only [E]; exact Tryz.call19 args w
theorem b21 : HasBody E 21 := by intro args w; dsimp only [E]; exact Tryz.call21 args w
theorem b30 : HasBody E 30 := by intro args w; dsimp only [E]; exact Tryz.call30 args w
theorem b31 : HasBody E 31 := by intro args w; dsimp only [E]; exact Tryz.call31 args w
theorem b32 : HasBody E 32 := by intro args w; dsimp only [E]; exact Tryz.call32 args w
theorem b37 : HasBody E 37 := by intro args w; dsimp only [E]; exact Tryz.call37 args w
theorem b40 : HasBody E 40 := by intro args w; dsimp only [E]; exact Tryz.call40 args w
theorem b41 : HasBody E 41 := by intro args w; dsimp only [E]; exact Tryz.call41 args w
theorem b42 : HasBody E 42 := by intro args w; dsimp only [E]; exact Tryz.call42 args w
theorem b43 : HasBody E 43 := by intro args w; dsimp only [E]; exact Tryz.call43 args w
theorem b44 : HasBody E 44 := by intro args w; dsimp only [E]; exact Tryz.call44 args w
theorem b45 : HasBody E 45 := by intro args w; dsimp only [E]; exact Tryz.call45 args w
theorem b46 : HasBody E 46 := by intro args w; dsimp only [E]; exact Tryz.call46 args w
theorem b47 : HasBody E 47 := by intro args w; dsimp only [E]; exact Tryz.call47 args w
theorem b48 : HasBody E 48 := by intro args w; dsimp only [E]; exact Tryz.call48 args w
theorem b49 : HasBody E 49 := by intro args w; dsimp only [E]; exact Tryz.call49 args w
theorem b50 : HasBody E 50 := by intro args w; dsimp only [E]; exact Tryz.call50 args w
theorem b51 : HasBody E 51 := by intro args w; dsimp only [E]; exact Tryz.call51 args w
theorem b52 : HasBody E 52 := by intro args w; dsimp only [E]; exact Tryz.call52 args w
theorem b53 : HasBody E 53 := by intro args w; dsimp only [E]; exact Tryz.call53 args w
theorem b54 : HasBody E 54 := by intro args w; dsimp only [E]; exact Tryz.call54 args w
theorem b55 : HasBody E 55 := by intro args w; dsimp only [E]; exact Tryz.call55 args w
theorem b57 : HasBody E 57 := by intro args w; dsimp only [E]; exact Tryz.call57 args w
theorem b75 : HasBody E 75 := by intro args w; dsimp only [E]; exact Tryz.call75 args w
theorem b76 : HasBody E 76 := by intro args w; dsimp only [E]; exact Tryz.call76 args w
theorem b77 : HasBody E 77 := by intro args w; dsimp only [E]; exact Tryz.call77 args w
theorem b78 : HasBody E 78 := by intro args w; dsimp only [E]; exact Tryz.call78 args w
theorem b79 : HasBody E 79 := by intro args w; dsimp only [E]; exact Tryz.call79 args w
theorem b80 : HasBody E 80 := by intro args w; dsimp only [E]; exact Tryz.call80 args w
theorem b81 : HasBody E 81 := by intro args w; dsimp only [E]; exact Tryz.call81 args w
theorem b82 : HasBody E 82 := by intro args w; dsimp only [E]; exact Tryz.call82 args w
theorem b83 : HasBody E 83 := by intro args w; dsimp only [E]; exact Tryz.call83 args w
theorem b84 : HasBody E 84 := by intro args w; dsimp only [E]; exact Tryz.call84 args w
theorem b85 : HasBody E 85 := by intro args w; dsimp only [E]; exact Tryz.call85 args w
theorem b86 : HasBody E 86 := by intro args w; dsimp only [E]; exact Tryz.call86 args w
theorem b87 : HasBody E 87 := by intro args w; dsimp only [E]; exact Tryz.call87 args w
theorem b88 : HasBody E 88 := by intro args w; dsimp only [E]; exact Tryz.call88 args w
theorem b89 : HasBody E 89 := by intro args w; dsimp only [E]; exact Tryz.call89 args w
theorem b90 : HasBody E 90 := by intro args w; dsimp only [E]; exact Tryz.call90 args w
theorem b92 : HasBody E 92 := by intro args w; dsimp only [E]; exact Tryz.call92 args w
theorem b93 : HasBody E 93 := by intro args w; dsimp only [E]; exact Tryz.call93 args w
theorem b105 : HasBody E 105 := by intro args w; dsimp only [E]; exact Tryz.call105 args w
theorem b111 : HasBody E 111 := by intro args w; dsimp only [E]; exact Tryz.call111 args w
theorem b112 : HasBody E 112 := by intro args w; dsimp only [E]; exact Tryz.call112 args w
theorem b113 : HasBody E 113 := by intro args w; dsimp only [E]; exact Tryz.call113 args w
theorem b114 : HasBody E 114 := by intro args w; dsimp only [E]; exact Tryz.call114 args w
theorem b118 : HasBody E 118 := by intro args w; dsimp only [E]; exact Tryz.call118 args w
theorem b119 : HasBody E 119 := by intro args w; dsimp only [E]; exact Tryz.call119 args w
theorem b120 : HasBody E 120 := by intro args w; dsimp only [E]; exact Tryz.call120 args w
theorem b121 : HasBody E 121 := by intro args w; dsimp only [E]; exact Tryz.call121 args w
theorem b122 : HasBody E 122 := by intro args w; dsimp only [E]; exact Tryz.call122 args w
theorem b123 : HasBody E 123 := by intro args w; dsimp only [E]; exact Tryz.call123 args w
theorem b124 : HasBody E 124 := by intro args w; dsimp only [E]; exact Tryz.call124 args w
theorem b125 : HasBody E 125 := by intro args w; dsimp only [E]; exact Tryz.call125 args w
theorem b126 : HasBody E 126 := by intro args w; dsimp only [E]; exact Tryz.call126 args w
theorem b127 : HasBody E 127 := by intro args w; dsimp only [E]; exact Tryz.call127 args w
theorem b137 : HasBody E 137 := by intro args w; dsimp only [E]; exact Tryz.call137 args w
theorem b149 : HasBody E 149 := by intro args w; dsimp only [E]; exact Tryz.call149 args w
theorem b150 : HasBody E 150 := by intro args w; dsimp only [E]; exact Tryz.call150 args w
theorem b151 : HasBody E 151 := by intro args w; dsimp only [E]; exact Tryz.call151 args w
theorem b152 : HasBody E 152 := by intro args w; dsimp only [E]; exact Tryz.call152 args w
theorem b153 : HasBody E 153 := by intro args w; dsimp only [E]; exact Tryz.call153 args w
theorem b154 : HasBody E 154 := by intro args w; dsimp only [E]; exact Tryz.call154 args w
theorem b155 : HasBody E 155 := by intro args w; dsimp only [E]; exact Tryz.call155 args w
theorem b156 : HasBody E 156 := by intro args w; dsimp only [E]; exact Tryz.call156 args w
theorem b157 : HasBody E 157 := by intro args w; dsimp only [E]; exact Tryz.call157 args w
theorem b173 : HasBody E 173 := by intro args w; dsimp only [E]; exact Tryz.call173 args w
theorem b174 : HasBody E 174 := by intro args w; dsimp only [E]; exact Tryz.call174 args w
theorem b175 : HasBody E 175 := by intro args w; dsimp only [E]; exact Tryz.call175 args w
theorem b176 : HasBody E 176 := by intro args w; dsimp only [E]; exact Tryz.call176 args w
theorem b177 : HasBody E 177 := by intro args w; dsimp only [E]; exact Tryz.call177 args w
theorem b178 : HasBody E 178 := by intro args w; dsimp only [E]; exact Tryz.call178 args w
theorem b179 : HasBody E 179 := by intro args w; dsimp only [E]; exact Tryz.call179 args w
theorem b191 : HasBody E 191 := by intro args w; dsimp only [E]; exact Tryz.call191 args w
theorem b192 : HasBody E 192 := by intro args w; dsimp only [E]; exact Tryz.call192 args w
theorem b193 : HasBody E 193 := by intro args w; dsimp only [E]; exact Tryz.call193 args w
theorem b194 : HasBody E 194 := by intro args w; dsimp only [E]; exact Tryz.call194 args w
theorem b195 : HasBody E 195 := by intro args w; dsimp only [E]; exact Tryz.call195 args w
theorem b198 : HasBody E 198 := by intro args w; dsimp only [E]; exact Tryz.call198 args w
theorem b199 : HasBody E 199 := by intro args w; dsimp only [E]; exact Tryz.call199 args w
theorem b200 : HasBody E 200 := by intro args w; dsimp only [E]; exact Tryz.call200 args w
theorem b224 : HasBody E 224 := by intro args w; dsimp only [E]; exact Tryz.call224 args w
theorem b225 : HasBody E 225 := by intro args w; dsimp only [E]; exact Tryz.call225 args w
theorem b226 : HasBody E 226 := by intro args w; dsimp only [E]; exact Tryz.call226 args w
theorem b227 : HasBody E 227 := by intro args w; dsimp only [E]; exact Tryz.call227 args w
theorem b228 : HasBody E 228 := by intro args w; dsimp only [E]; exact Tryz.call228 args w
theorem b229 : HasBody E 229 := by intro args w; dsimp only [E]; exact Tryz.call229 args w
theorem b230 : HasBody E 230 := by intro args w; dsimp only [E]; exact Tryz.call230 args w
theorem b237 : HasBody E 237 := by intro args w; dsimp only [E]; exact Tryz.call237 args w
theorem b238 : HasBody E 238 := by intro args w; dsimp only [E]; exact Tryz.call238 args w
theorem b239 : HasBody E 239 := by intro args w; dsimp only [E]; exact Tryz.call239 args w
theorem b240 : HasBody E 240 := by intro args w; dsimp only [E]; exact Tryz.call240 args w
theorem b241 : HasBody E 241 := by intro args w; dsimp only [E]; exact Tryz.call241 args w
theorem b242 : HasBody E 242 := by intro args w; dsimp only [E]; exact Tryz.call242 args w
theorem b243 : HasBody E 243 := by intro args w; dsimp only [E]; exact Tryz.call243 args w
theorem b244 : HasBody E 244 := by intro args w; dsimp only [E]; exact Tryz.call244 args w
theorem b264 : HasBody E 264 := by intro args w; dsimp only [E]; exact Tryz.call264 args w
theorem b265 : HasBody E 265 := by intro args w; dsimp only [E]; exact Tryz.call265 args w
theorem b266 : HasBody E 266 := by intro args w; dsimp only [E]; exact Tryz.call266 args w
theorem b267 : HasBody E 267 := by intro args w; dsimp only [E]; exact Tryz.call267 args w
theorem b268 : HasBody E 268 := by intro args w; dsimp only [E]; exact Tryz.call268 args w
theorem b292 : HasBody E 292 := by intro args w; dsimp only [E]; exact Tryz.call292 args w
theorem b293 : HasBody E 293 := by intro args w; dsimp only [E]; exact Tryz.call293 args w
theorem b294 : HasBody E 294 := by intro args w; dsimp only [E]; exact Tryz.call294 args w
theorem b305 : HasBody E 305 := by intro args w; dsimp only [E]; exact Tryz.call305 args w
theorem b306 : HasBody E 306 := by intro args w; dsimp only [E]; exact Tryz.call306 args w
theorem b307 : HasBody E 307 := by intro args w; dsimp only [E]; exact Tryz.call307 args w
theorem b308 : HasBody E 308 := by intro args w; dsimp only [E]; exact Tryz.call308 args w
theorem b309 : HasBody E 309 := by intro args w; dsimp only [E]; exact Tryz.call309 args w
theorem b310 : HasBody E 310 := by intro args w; dsimp only [E]; exact Tryz.call310 args w
theorem b311 : HasBody E 311 := by intro args w; dsimp only [E]; exact Tryz.call311 args w
theorem b312 : HasBody E 312 := by intro args w; dsimp only [E]; exact Tryz.call312 args w
theorem b313 : HasBody E 313 := by intro args w; dsimp only [E]; exact Tryz.call313 args w
theorem b321 : HasBody E 321 := by intro args w; dsimp only [E]; exact Tryz.call321 args w
theorem b322 : HasBody E 322 := by intro args w; dsimp only [E]; exact Tryz.call322 args w
theorem b323 : HasBody E 323 := by intro args w; dsimp only [E]; exact Tryz.call323 args w
theorem b325 : HasBody E 325 := by intro args w; dsimp only [E]; exact Tryz.call325 args w
theorem b326 : HasBody E 326 := by intro args w; dsimp only [E]; exact Tryz.call326 args w
theorem b327 : HasBody E 327 := by intro args w; dsimp only [E]; exact Tryz.call327 args w
theorem b328 : HasBody E 328 := by intro args w; dsimp only [E]; exact Tryz.call328 args w
theorem b345 : HasBody E 345 := by intro args w; dsimp only [E]; exact Tryz.call345 args w
theorem b347 : HasBody E 347 := by intro args w; dsimp only [E]; exact Tryz.call347 args w
theorem b348 : HasBody E 348 := by intro args w; dsimp only [E]; exact Tryz.call348 args w
theorem b350 : HasBody E 350 := by intro args w; dsimp only [E]; exact Tryz.call350 args w
theorem b361 : HasBody E 361 := by intro args w; dsimp only [E]; exact Tryz.call361 args w
end Go.Proofs.YtkjcalhoffbjlaaGreatDoor
