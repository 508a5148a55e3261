/- The walk through a region whose order is drawn and that holds several effects; Calls that are handed objects: data handed back; such calls in a region whose order is drawn; A row that grew out of nil, given up as data; Laws whose statement bears a bound on how much is read; Short names for the steps of a walk whose premises say themselves; In a region whose order is drawn: a literal of a slice as a row of the call's own, and an append whose row is given up as data at once; Drawn regions in which one operation calls a function that is handed objects and leaves them as they are; shifts, masks an. Conditions: each part's own, as it says. -/
import Derived.Test.YtjgmakalledclaaGreatDoorGB
import Derived.Deep.DeepHandedRow
import Derived.Test.YtjgmakalledclaaGreatDoorProg
import Derived.Test.YtjgmakalledclaaGreatDoorGA
import Derived.KernelRfl
import Derived.Lib.LaidTab
import Derived.Shelf.Strconv.Itoa3
set_option linter.unusedVariables false
set_option linter.unusedSimpArgs false
/- The walk through a region whose order is drawn and that holds several effects. Conditions: each rule's own. -/
namespace Go.Abs
open Go Go.RowKit

/-- Fewer objects known than there are. -/
structure Wk (wob ob : List AObj) : Prop where
  len : wob.length ≤ ob.length
  get : ∀ (i : Nat) x, wob[i]? = some x → x.live = true → ob[i]? = some x ∧ x.below wob.length = true
def wkP (n : Nat) : List AObj → List AObj → Prop
  | [], _ => True
  | .dead :: r, _ :: q => True ∧ wkP n r q
  | _ :: _, [] => False
  | x :: r, y :: q => (x = y ∧ x.below n = true) ∧ wkP n r q
theorem wkP_ok {n : Nat} : ∀ {wob ob : List AObj}, wkP n wob ob → wob.length ≤ ob.length ∧ ∀ (i : Nat) x, wob[i]? = some x → x.live = true → ob[i]? = some x ∧ x.below n = true
  | [], _, _ => ⟨Nat.zero_le _, fun i x h => by simp at h⟩
  | x :: r, [], h => by cases x <;> simp [wkP] at h
  | x :: r, y :: q, h => by
    have key : (x.live = true → x = y ∧ x.below n = true) ∧ wkP n r q := by
      cases x with
      | dead => exact ⟨fun hl => by simp [AObj.live] at hl, h.2⟩
      | _ => exact ⟨fun _ => h.1, h.2⟩
    obtain ⟨h1, h2⟩ := wkP_ok key.2
    refine ⟨by simpa using h1, fun i z hz hl => ?_⟩
    cases i with
    | zero =>
      simp at hz
      subst hz
      obtain ⟨rfl, h4⟩ := key.1 hl
      exact ⟨rfl, h4⟩
    | succ i => exact h2 i z (by simpa using hz) hl
theorem Wk.mk' {wob ob : List AObj} (h : wkP wob.length wob ob) : Wk wob ob := ⟨(wkP_ok h).1, (wkP_ok h).2⟩

theorem WInv.wk {E : Env} {B : Base} {F : Nat → Prop} {σ : Sg} {ob wob : List AObj} {w : World} (h : WInv E B F σ ob w) (hw : Wk wob ob) (hn : B.n0 ≤ wob.length) : WInv E B F (σ.take wob.length) wob w := by
  have hlen := h.len
  have hl := hw.len
  have hget : ∀ (o : Nat) p, (σ.take wob.length)[o]? = some p → σ[o]? = some p := by
    intro o p hp
    rw [List.getElem?_take] at hp
    split at hp
    · exact hp
    · cases hp
  refine ⟨h.flt, h.glob, by rw [List.length_take]; omega, fun o x p hx hp => ?_, fun o o' x x' p p' hne hx hlx hx' hlx' hp hp' => ?_, fun i p hi hp => ?_⟩
  · cases hlv : x.live with
    | false => cases x <;> simp [AObj.live] at hlv <;> trivial
    | true => exact (h.obs o x p (hw.get o x hx hlv).1 (hget o p hp)).take (hw.get o x hx hlv).2
  · exact h.inj o o' x x' p p' hne (hw.get o x hx hlx).1 hlx (hw.get o' x' hx' hlx').1 hlx' (hget o p hp) (hget o' p' hp')
  · rw [List.getElem?_take, if_pos (by omega)]
    exact h.pre i p hi hp
theorem St.ev_below {E : Env} {tm : List (Nat × X)} {ob : List AObj} {n : Nat} (h : ∀ t, (lk tm t).below n = true) (z : Operand) : ((⟨tm, ob⟩ : St).ev E z).below n = true := by
  cases z with
  | tmp t => exact h t
  | const v =>
    show (ofConst v).below n = true
    unfold ofConst
    split
    · rfl
    · cases okV v <;> rfl
  | global g =>
    show (findG E.G g).below n = true
    have : ∀ l : List GE, (findG l g).below n = true := by
      intro l
      induction l with
      | nil => rfl
      | cons a r ih =>
        simp only [findG]
        cases Nat.beq a.g g
        · exact ih
        · rfl
    exact this _
  | func f => rfl
theorem VOp.wk {C : Cx} {tm : List (Nat × X)} {ob wob : List AObj} {o : Oper} {x : X} (h : VOp C ⟨tm, wob⟩ o x) (hw : Wk wob ob) (hn : C.base.n0 ≤ wob.length) (hb : ∀ t, (lk tm t).below wob.length = true) : VOp C ⟨tm, ob⟩ o x := by
  intro F σ w a K Q hi hr hK
  refine h F (σ.take wob.length) w a K Q (hi.wk hw hn) (fun y hy => ?_) fun v w' F' he hv => hK v w' F' he ?_
  · have := hr y hy
    exact RdX.take (n := wob.length) this (St.ev_below (ob := ob) hb y)
  · refine hv.mono (fun _ h => h) (fun _ _ => rfl) fun o p hp => ?_
    rw [List.getElem?_take] at hp
    split at hp
    · exact hp
    · cases hp

def fixedB (A E : List Nat) (i : Nat) : Bool := E.all fun e => Nat.beq e i || (bif Nat.blt e i then aheadB A e i else aheadB A i e)
def FixedP (l : List Oper) (E : List Nat) (i : Nat) : Prop := ∀ e, E.contains e = true → (e < i → Ahead l e i) ∧ (i < e → Ahead l i e)
theorem fixedB_ok {l : List Oper} {E : List Nat} {i : Nat} (h : fixedB (ancs l) E i = true) : FixedP l E i := by
  intro e he
  have h1 := List.all_eq_true.1 h e (by simpa using he)
  refine ⟨fun hlt => ?_, fun hlt => ?_⟩
  · have e1 : Nat.beq e i = false := by rw [← Bool.not_eq_true]; intro hb; have := Nat.eq_of_beq_eq_true hb; omega
    have e2 : Nat.blt e i = true := by simpa using hlt
    rw [e1, e2] at h1
    exact ancs_spec (by simpa using h1)
  · have e1 : Nat.beq e i = false := by rw [← Bool.not_eq_true]; intro hb; have := Nat.eq_of_beq_eq_true hb; omega
    have e2 : Nat.blt e i = false := by rw [← Bool.not_eq_true]; simp; omega
    rw [e1, e2] at h1
    exact ancs_spec (by simpa using h1)
def chainB (A E : List Nat) : Bool := E.all fun e => fixedB A E e

inductive RD (C : Cx) (l : List Oper) (E : List Nat) (wob : List AObj) : Nat → List Oper → St → St → Prop
  | nil (i : Nat) (s : St) : RD C l E wob i [] s s
  | same {i : Nat} {ops : List Oper} {s s1 s' : St} (hs : StEq s s1) (h : RD C l E wob i ops s1 s') : RD C l E wob i ops s s'
  | fix {i : Nat} {o : Oper} {rest : List Oper} {s s' : St} {x : X} (hg : GuardIs l.toArray s o true) (hd : dstOK C o = true) (hne : E.contains i = false) (hf : FixedP l E i) (hv : VOp C s o x) (h : RD C l E wob (i + 1) rest (s.put o.dst x) s') : RD C l E wob i (o :: rest) s s'
  | skip {i : Nat} {o : Oper} {rest : List Oper} {s s' : St} (hg : GuardIs l.toArray s o false) (hd : dstOK C o = true) (hne : E.contains i = false) (h : RD C l E wob (i + 1) rest (s.put o.dst .und) s') : RD C l E wob i (o :: rest) s s'
  | weak {i : Nat} {o : Oper} {rest : List Oper} {s s' : St} {x : X} (hg : GuardIs l.toArray s o true) (hd : dstOK C o = true) (hne : E.contains i = false) (hv : VOp C ⟨s.tm, wob⟩ o x) (hb : ∀ t, (lk s.tm t).below wob.length = true) (h : RD C l E wob (i + 1) rest (s.put o.dst x) s') : RD C l E wob i (o :: rest) s s'
  | eff {i : Nat} {o : Oper} {rest : List Oper} {s s' : St} {x : X} {ob' : List AObj} (hg : GuardIs l.toArray s o true) (hd : dstOK C o = true) (hne : E.contains i = true) (hv : EOp C s o x ob') (hw : Wk wob ob') (h : RD C l E wob (i + 1) rest ((⟨s.tm, ob'⟩ : St).put o.dst x) s') : RD C l E wob i (o :: rest) s s'

theorem stps_tm : ∀ (xs : List (Oper × Option X)) (s s2 : St), (∀ t, lk s.tm t = lk s2.tm t) → ∀ t, lk (stps s xs).tm t = lk (stps s2 xs).tm t
  | [], _, _, h => h
  | (o, x) :: r, s, s2, h => by
    refine stps_tm r _ _ fun t => ?_
    cases o.dst with
    | none => exact h t
    | some d =>
      simp only [St.put, lk]
      cases Nat.beq d t
      · exact h t
      · rfl
theorem VOp.look {C : Cx} {tm tm' : List (Nat × X)} {ob : List AObj} {o : Oper} {x : X} (h : VOp C ⟨tm, ob⟩ o x) (he : ∀ t, lk tm' t = lk tm t) : VOp C ⟨tm', ob⟩ o x :=
  StEq.vop (s := ⟨tm, ob⟩) (s' := ⟨tm', ob⟩) ⟨he, rfl⟩ h
theorem EOp.look {C : Cx} {tm tm' : List (Nat × X)} {ob ob' : List AObj} {o : Oper} {x : X} (h : EOp C ⟨tm, ob⟩ o x ob') (he : ∀ t, lk tm' t = lk tm t) : EOp C ⟨tm', ob⟩ o x ob' := by
  intro t2 h2
  refine h t2 fun z hz => (h2 z hz).trans ?_
  cases z with
  | tmp t => exact he t
  | _ => rfl
theorem GuardIs.look {all : Array Oper} {s s' : St} {o : Oper} {b : Bool} (h : GuardIs all s o b) (he : ∀ t, lk s'.tm t = lk s.tm t) : GuardIs all s' o b := by
  unfold GuardIs at *
  cases hgd : o.guard with
  | none => rw [hgd] at h; exact h
  | some jp =>
    rw [hgd] at h
    obtain ⟨t, h1, h2⟩ := h
    exact ⟨t, h1, by rw [he]; exact h2⟩

theorem RD.data {C : Cx} {l : List Oper} {E : List Nat} {wob : List AObj} {i : Nat} {ops : List Oper} {s s' : St} (h : RD C l E wob i ops s s') (hw0 : Wk wob s.ob) :
    ∃ (xs : List (Oper × Option X)) (obT : Nat → List AObj), xs.map (·.1) = ops ∧ obT 0 = s.ob ∧ obT ops.length = s'.ob ∧ (∀ t, lk (stps s xs).tm t = lk s'.tm t) ∧ (∀ j, j ≤ ops.length → Wk wob (obT j)) ∧
      ∀ (j : Nat) o x, xs[j]? = some (o, x) → dstOK C o = true ∧ GuardIs l.toArray (stps s (xs.take j)) o x.isSome ∧
        (E.contains (i + j) = true → ∃ y, x = some y ∧ EOp C ⟨(stps s (xs.take j)).tm, obT j⟩ o y (obT (j + 1))) ∧
        (E.contains (i + j) = false → obT (j + 1) = obT j ∧ ∀ y, x = some y → (FixedP l E (i + j) ∧ VOp C ⟨(stps s (xs.take j)).tm, obT j⟩ o y) ∨ (VOp C ⟨(stps s (xs.take j)).tm, wob⟩ o y ∧ ∀ t, (lk (stps s (xs.take j)).tm t).below wob.length = true)) := by
  induction h with
  | nil i s => exact ⟨[], fun _ => s.ob, rfl, rfl, rfl, fun _ => rfl, fun _ _ => hw0, fun j o x h => by simp at h⟩
  | @same i ops s s1 s' hs hh ih =>
    obtain ⟨xs, obT, h1, h2, h3, h4, h5, h6⟩ := ih (by rw [hs.2]; exact hw0)
    have hst : ∀ ys t, lk (stps s ys).tm t = lk (stps s1 ys).tm t := fun ys => stps_tm ys s s1 fun t => (hs.1 t).symm
    refine ⟨xs, obT, h1, h2.trans hs.2, h3, fun t => (hst xs t).trans (h4 t), h5, fun j o x hj => ?_⟩
    obtain ⟨a1, a2, a3, a4⟩ := h6 j o x hj
    refine ⟨a1, a2.look (hst _), fun he => ?_, fun he => ⟨(a4 he).1, fun y hy => ?_⟩⟩
    · obtain ⟨y, hy, hv⟩ := a3 he
      exact ⟨y, hy, hv.look (hst _)⟩
    · rcases (a4 he).2 y hy with ⟨b1, b2⟩ | ⟨b1, b2⟩
      · exact .inl ⟨b1, b2.look (hst _)⟩
      · exact .inr ⟨b1.look (hst _), fun t => by rw [hst]; exact b2 t⟩
  | @fix i o rest s s' x hg hd hne hf hv hh ih =>
    obtain ⟨xs, obT, h1, h2, h3, h4, h5, h6⟩ := ih (by rw [St.put_ob]; exact hw0)
    rw [St.put_ob] at h2
    refine ⟨(o, some x) :: xs, fun j => match j with | 0 => s.ob | j + 1 => obT j, by simp [h1], rfl, h3, h4, fun j hj => ?_, fun j o' x' hj => ?_⟩
    · cases j with
      | zero => exact hw0
      | succ j => exact h5 j (by simpa using hj)
    · cases j with
      | zero =>
        simp at hj
        obtain ⟨rfl, rfl⟩ := hj
        refine ⟨hd, hg, fun he => ?_, fun _ => ⟨h2, fun y hy => ?_⟩⟩
        · rw [Nat.add_zero, hne] at he; cases he
        · cases hy; exact .inl ⟨hf, hv⟩
      | succ j =>
        have := h6 j o' x' (by simpa using hj)
        rw [show i + 1 + j = i + (j + 1) by omega] at this
        exact this
  | @skip i o rest s s' hg hd hne hh ih =>
    obtain ⟨xs, obT, h1, h2, h3, h4, h5, h6⟩ := ih (by rw [St.put_ob]; exact hw0)
    rw [St.put_ob] at h2
    refine ⟨(o, none) :: xs, fun j => match j with | 0 => s.ob | j + 1 => obT j, by simp [h1], rfl, h3, h4, fun j hj => ?_, fun j o' x' hj => ?_⟩
    · cases j with
      | zero => exact hw0
      | succ j => exact h5 j (by simpa using hj)
    · cases j with
      | zero =>
        simp at hj
        obtain ⟨rfl, rfl⟩ := hj
        refine ⟨hd, hg, fun he => ?_, fun _ => ⟨h2, fun y hy => ?_⟩⟩
        · rw [Nat.add_zero, hne] at he; cases he
        · cases hy
      | succ j =>
        have := h6 j o' x' (by simpa using hj)
        rw [show i + 1 + j = i + (j + 1) by omega] at this
        exact this
  | @weak i o rest s s' x hg hd hne hv hb hh ih =>
    obtain ⟨xs, obT, h1, h2, h3, h4, h5, h6⟩ := ih (by rw [St.put_ob]; exact hw0)
    rw [St.put_ob] at h2
    refine ⟨(o, some x) :: xs, fun j => match j with | 0 => s.ob | j + 1 => obT j, by simp [h1], rfl, h3, h4, fun j hj => ?_, fun j o' x' hj => ?_⟩
    · cases j with
      | zero => exact hw0
      | succ j => exact h5 j (by simpa using hj)
    · cases j with
      | zero =>
        simp at hj
        obtain ⟨rfl, rfl⟩ := hj
        refine ⟨hd, hg, fun he => ?_, fun _ => ⟨h2, fun y hy => ?_⟩⟩
        · rw [Nat.add_zero, hne] at he; cases he
        · cases hy; exact .inr ⟨hv, hb⟩
      | succ j =>
        have := h6 j o' x' (by simpa using hj)
        rw [show i + 1 + j = i + (j + 1) by omega] at this
        exact this
  | @eff i o rest s s' x ob' hg hd hne hv hw hh ih =>
    obtain ⟨xs, obT, h1, h2, h3, h4, h5, h6⟩ := ih (by rw [St.put_ob]; exact hw)
    rw [St.put_ob] at h2
    have hst : ∀ ys t, lk (stps (s.put o.dst x) ys).tm t = lk (stps ((⟨s.tm, ob'⟩ : St).put o.dst x) ys).tm t := fun ys => stps_tm ys _ _ fun t => by cases o.dst <;> rfl
    refine ⟨(o, some x) :: xs, fun j => match j with | 0 => s.ob | j + 1 => obT j, by simp [h1], rfl, h3, fun t => (hst xs t).trans (h4 t), fun j hj => ?_, fun j o' x' hj => ?_⟩
    · cases j with
      | zero => exact hw0
      | succ j => exact h5 j (by simpa using hj)
    · cases j with
      | zero =>
        simp at hj
        obtain ⟨rfl, rfl⟩ := hj
        refine ⟨hd, hg, fun he => ⟨x, rfl, ?_⟩, fun he => ?_⟩
        · show EOp C ⟨s.tm, s.ob⟩ o x (obT 0)
          rw [h2]; exact hv
        · rw [Nat.add_zero, hne] at he; cases he
      | succ j =>
        obtain ⟨a1, a2, a3, a4⟩ := h6 j o' x' (by simpa using hj)
        rw [show i + 1 + j = i + (j + 1) by omega] at a3 a4
        refine ⟨a1, a2.look (hst _), fun he => ?_, fun he => ⟨(a4 he).1, fun y hy => ?_⟩⟩
        · obtain ⟨y, hy, hv'⟩ := a3 he
          exact ⟨y, hy, hv'.look (hst _)⟩
        · rcases (a4 he).2 y hy with ⟨b1, b2⟩ | ⟨b1, b2⟩
          · exact .inl ⟨b1, b2.look (hst _)⟩
          · exact .inr ⟨b1.look (hst _), fun t => by
              have := b2 t
              rw [← hst] at this
              exact this⟩

/-- The goal of such a region: from s, these operations still to do. -/
def RGo (C : Cx) (_id : Nat) (l : List Oper) (E : List Nat) (wob : List AObj) (i : Nat) (ops : List Oper) (s : St) (K : St → Prop) : Prop := ∃ s', RD C l E wob i ops s s' ∧ K s'

theorem SD.obEq {C : Cx} {all : Array Oper} {ops : List Oper} {s s' : St} (h : SD C all true ops s s') : s'.ob = s.ob := by
  obtain ⟨xs, _, h2, _⟩ := h.data
  rw [h2.2, stps_ob]
theorem RD.of_fix_ {C : Cx} {l : List Oper} {E : List Nat} {wob : List AObj} {rest : List Oper} {s' : St} {pu : Bool} {ops : List Oper} {s s1 : St} (h : SD C l.toArray pu ops s s1) : pu = true → ∀ {i : Nat}, (∀ j, j < ops.length → E.contains (i + j) = false ∧ FixedP l E (i + j)) → RD C l E wob (i + ops.length) rest s1 s' → RD C l E wob i (ops ++ rest) s s' := by
  induction h with
  | nil s => exact fun _ _ _ hr => hr
  | @vop o r s s1 x hg hd hv hh ih =>
    intro hpu i hf hr
    refine .fix hg hd (hf 0 (by simp)).1 (hf 0 (by simp)).2 hv (ih hpu (i := i + 1) (fun j hj => ?_) ?_)
    · rw [show i + 1 + j = i + (j + 1) by omega]; exact hf (j + 1) (by simpa using hj)
    · rw [show i + 1 + r.length = i + (o :: r).length by simp; omega]; exact hr
  | @skip o r s s1 hg hd hh ih =>
    intro hpu i hf hr
    refine .skip hg hd (hf 0 (by simp)).1 (ih hpu (i := i + 1) (fun j hj => ?_) ?_)
    · rw [show i + 1 + j = i + (j + 1) by omega]; exact hf (j + 1) (by simpa using hj)
    · rw [show i + 1 + r.length = i + (o :: r).length by simp; omega]; exact hr
  | eff hp => intro hpu; rw [hpu] at hp; cases hp
  | ghost hp => intro hpu; rw [hpu] at hp; cases hp
  | same hs hh ih => exact fun hpu _ hf hr => .same hs (ih hpu hf hr)
theorem RD.of_fix {C : Cx} {l : List Oper} {E : List Nat} {wob : List AObj} {ops rest : List Oper} {s s1 s' : St} (h : SD C l.toArray true ops s s1) {i : Nat} (hf : ∀ j, j < ops.length → E.contains (i + j) = false ∧ FixedP l E (i + j)) (hr : RD C l E wob (i + ops.length) rest s1 s') : RD C l E wob i (ops ++ rest) s s' :=
  RD.of_fix_ h rfl hf hr
theorem SD.keep {C : Cx} {all : Array Oper} {ops : List Oper} {s s' : St} (h : SD C all true ops s s') {t : Nat} (ht : ∀ o ∈ ops, o.dst ≠ some t) : lk s'.tm t = lk s.tm t := by
  obtain ⟨xs, h1, h2, _⟩ := h.data
  rw [h2.1, lk_stps_other s xs t fun p hp => ht p.1 (by rw [← h1]; exact List.mem_map_of_mem hp)]
def dstND : List Oper → Bool
  | [] => true
  | o :: r => (match o.dst with
    | some d => r.all fun p => match p.dst with | some d' => !Nat.beq d d' | none => true
    | none => true) && dstND r
theorem RD.of_weak_ {C : Cx} {l : List Oper} {E : List Nat} {wob ob : List AObj} {rest : List Oper} {s' : St} {pu : Bool} {ops : List Oper} {s0 s1 : St} (h : SD C l.toArray pu ops s0 s1) : pu = true → dstND ops = true → (∀ t, (lk s1.tm t).below wob.length = true) → s0.ob = wob →
    ∀ {i : Nat}, (∀ t, (lk s0.tm t).below wob.length = true) → (∀ j, j < ops.length → E.contains (i + j) = false) → RD C l E wob (i + ops.length) rest ⟨s1.tm, ob⟩ s' → RD C l E wob i (ops ++ rest) ⟨s0.tm, ob⟩ s' := by
  induction h with
  | nil s => exact fun _ _ _ _ _ _ _ hr => hr
  | @vop o r s s1 x hg hd hv hh ih =>
    intro hpu hnd hb1 hob i hb hf hr
    simp only [dstND, Bool.and_eq_true] at hnd
    have hx : ∀ d, o.dst = some d → x.below wob.length = true := by
      intro d hdd
      have := hb1 d
      subst hpu
      rw [hh.keep (t := d) fun p hp hpd => by
        have h1 := hnd.1
        rw [hdd] at h1
        have h2 := List.all_eq_true.1 h1 p hp
        rw [hpd] at h2
        simp at h2] at this
      rwa [hdd, lk_put_same] at this
    have e : (⟨s.tm, ob⟩ : St).put o.dst x = ⟨(s.put o.dst x).tm, ob⟩ := by cases o.dst <;> rfl
    refine .weak (GuardIs.look hg fun _ => rfl) hd (hf 0 (by simp)) (by rw [← hob]; exact hv) hb ?_
    rw [e]
    refine ih hpu hnd.2 hb1 (by rw [St.put_ob]; exact hob) (i := i + 1) (fun t => ?_) (fun j hj => ?_) ?_
    · cases hdd : o.dst with
      | none => exact hb t
      | some d =>
        simp only [St.put, lk]
        cases Nat.beq d t
        · exact hb t
        · exact hx d hdd
    · rw [show i + 1 + j = i + (j + 1) by omega]; exact hf (j + 1) (by simpa using hj)
    · rw [show i + 1 + r.length = i + (o :: r).length by simp; omega]; exact hr
  | @skip o r s s1 hg hd hh ih =>
    intro hpu hnd hb1 hob i hb hf hr
    simp only [dstND, Bool.and_eq_true] at hnd
    have e : (⟨s.tm, ob⟩ : St).put o.dst .und = ⟨(s.put o.dst .und).tm, ob⟩ := by cases o.dst <;> rfl
    refine .skip (GuardIs.look hg fun _ => rfl) hd (hf 0 (by simp)) ?_
    rw [e]
    refine ih hpu hnd.2 hb1 (by rw [St.put_ob]; exact hob) (i := i + 1) (fun t => ?_) (fun j hj => ?_) ?_
    · cases hdd : o.dst with
      | none => exact hb t
      | some d =>
        simp only [St.put, lk]
        cases Nat.beq d t
        · exact hb t
        · rfl
    · rw [show i + 1 + j = i + (j + 1) by omega]; exact hf (j + 1) (by simpa using hj)
    · rw [show i + 1 + r.length = i + (o :: r).length by simp; omega]; exact hr
  | eff hp => intro hpu; rw [hpu] at hp; cases hp
  | ghost hp => intro hpu; rw [hpu] at hp; cases hp
  | @same ops s s2 s1 hs hh ih =>
    intro hpu hnd hb1 hob i hb hf hr
    exact .same (s1 := ⟨s2.tm, ob⟩) ⟨hs.1, rfl⟩ (ih hpu hnd hb1 (by rw [hs.2]; exact hob) (fun t => by rw [hs.1]; exact hb t) hf hr)
theorem RD.of_weak {C : Cx} {l : List Oper} {E : List Nat} {wob ob : List AObj} {ops rest : List Oper} {tm : List (Nat × X)} {s1 s' : St} (h : SD C l.toArray true ops ⟨tm, wob⟩ s1) (hnd : dstND ops = true) (hb1 : ∀ t, (lk s1.tm t).below wob.length = true)
    {i : Nat} (hb : ∀ t, (lk tm t).below wob.length = true) (hf : ∀ j, j < ops.length → E.contains (i + j) = false) (hr : RD C l E wob (i + ops.length) rest ⟨s1.tm, ob⟩ s') : RD C l E wob i (ops ++ rest) ⟨tm, ob⟩ s' :=
  RD.of_weak_ (s0 := ⟨tm, wob⟩) h rfl hnd hb1 rfl hb hf hr

def TmB (n : Nat) : List (Nat × X) → Prop
  | [] => True
  | (_, x) :: r => x.below n = true ∧ TmB n r
theorem TmB.lk {n : Nat} : ∀ {tm : List (Nat × X)}, TmB n tm → ∀ t, (lk tm t).below n = true
  | [], _, t => rfl
  | (k, x) :: r, h, t => by
    simp only [Go.Abs.lk]
    cases Nat.beq k t
    · exact TmB.lk h.2 t
    · exact h.1
def killT : List Nat → List AObj → List AObj
  | [], ob => ob
  | i :: r, ob => killT r (ob.set i .dead)

section
variable {C : Cx} {r : List It} {Q : Exit → St → Prop} {tm : List (Nat × X)} {ob : List AObj} {id : Nat} {l : List Oper} {E : List Nat} {wob : List AObj} {i : Nat} {ops : List Oper} {K : St → Prop}
theorem qR_ (wob : List AObj) (E : List Nat) (ho : ordOK l = true) (hE : chainB (ancs l) E = true) (hn : C.base.n0 ≤ wob.length) (hw : Wk wob ob)
    (h : RGo C id l E wob 0 l ⟨tm, ob⟩ (fun s' => go C r s' Q)) : go C (.code (.region id l.toArray true) :: r) ⟨tm, ob⟩ Q := by
  intro a w hr
  obtain ⟨s', h1, h2⟩ := h
  obtain ⟨xs, obT, e1, e2, e3, e4, e5, e6⟩ := h1.data hw
  have hlen : xs.length = l.length := by rw [← e1]; simp
  have hget : ∀ i, i < l.length → ∃ o x, xs[i]? = some (o, x) := fun i hi => by
    have : i < xs.length := by omega
    exact ⟨xs[i].1, xs[i].2, List.getElem?_eq_getElem this⟩
  have hfin : ∀ a w, C.Rel ⟨(stps ⟨tm, ob⟩ xs).tm, obT l.length⟩ a w → C.Rel s' a w := by
    intro a w hr
    rw [e3] at hr
    exact StEq.rel (s := ⟨(stps ⟨tm, ob⟩ xs).tm, s'.ob⟩) (s' := s') ⟨fun t => (e4 t).symm, rfl⟩ hr
  refine wp_region_any C.E.hM ?_
  refine Dr.all (s := ⟨tm, ob⟩) (xs := xs) (obT := obT) (eff := fun i => E.contains i) e1 (ordOK_spec ho) (fun i hi he => ?_) (fun i j hij hj h3 h4 => ?_) (fun i o x hi => ⟨(e6 i o x hi).1, (e6 i o x hi).2.1⟩) (fun i o x he hi y hy => ?_) (fun i o x he hi => ?_) (fun a w hr => ⟨s', hfin a w hr, h2⟩) _ _ _ _ ?_ ⟨by simp, fun j o' ed ho' hL => ?_, tm, 0, Nat.zero_le _, fun i hi => by omega, fun i _ hi _ => ?_, ?_, fun t _ => rfl, fun j o' x t hj hL => ?_⟩
  · obtain ⟨o, x, hx⟩ := hget i hi
    exact ((e6 i o x hx).2.2.2 (by rw [Nat.zero_add]; exact he)).1
  · exact (fixedB_ok (List.all_eq_true.1 hE j (by simpa using h4)) i h3).1 hij
  · rcases ((e6 i o x hi).2.2.2 (by rw [Nat.zero_add]; exact he)).2 y hy with ⟨h3, h4⟩ | ⟨h3, h4⟩
    · rw [Nat.zero_add] at h3
      exact .inl ⟨fun e _ he' => h3 e he', h4⟩
    · exact .inr fun k hk => h3.wk (e5 k hk) hn h4
  · exact (e6 i o x hi).2.2.1 (by rw [Nat.zero_add]; exact he)
  · refine Nat.le_trans (List.length_filter_le _ _) ?_
    simp
  · exfalso
    by_cases hlt : j < l.length <;> simp [hlt] at hL
  · rw [Array.getD_eq_getD_getElem?, Array.getElem?_replicate]
    split <;> rfl
  · rw [e2]
    obtain ⟨F, σ, r1, r2, r3, hi, r4, r5, hs⟩ := hr
    have hext : Ext w F { w with drawn := w.drawn + 1 } F := ⟨⟨rfl, rfl, rfl, Nat.le_refl _, fun _ _ => rfl⟩, fun _ h => h, fun _ h => .inl h, hi.flt⟩
    exact ⟨F, σ, r1.step hext.below, r2, r3, hi.ext hext, r4, r5, fun t => (hs t).ext hext hi.flt⟩
  · exfalso
    by_cases hlt : j < l.length <;> simp [hlt] at hL
theorem qR (wob : List AObj) (E : List Nat) (T : List Nat) (ho : ordOK l = true) (hE : chainB (ancs l) E = true) (_hwob : killT T ob = wob) (hn : Nat.ble C.base.n0 wob.length = true) (hw : wkP wob.length wob ob)
    (h : RGo C id l E wob 0 l ⟨tm, ob⟩ (fun s' => go C r s' Q)) : go C (.code (.region id l.toArray true) :: r) ⟨tm, ob⟩ Q := qR_ wob E ho hE (Nat.le_of_ble_eq_true hn) (Wk.mk' hw) h
theorem qR0 (E : List Nat) (ho : ordOK l = true) (hE : chainB (ancs l) E = true) (hw : wkP (List.replicate C.base.n0 AObj.dead).length (List.replicate C.base.n0 AObj.dead) ob)
    (h : RGo C id l E (List.replicate C.base.n0 AObj.dead) 0 l ⟨tm, ob⟩ (fun s' => go C r s' Q)) : go C (.code (.region id l.toArray true) :: r) ⟨tm, ob⟩ Q := by
  have hn : C.base.n0 ≤ (List.replicate C.base.n0 AObj.dead).length := by simp
  intro a w hr
  obtain ⟨s', h1, h2⟩ := h
  refine qR_ _ E ho hE hn (Wk.mk' hw) ⟨s', h1, h2⟩ a w hr
theorem qRT (E T : List Nat) (ho : ordOK l = true) (hE : chainB (ancs l) E = true) (hn : Nat.ble C.base.n0 (killT T ob).length = true) (hw : wkP (killT T ob).length (killT T ob) ob)
    (h : RGo C id l E (killT T ob) 0 l ⟨tm, ob⟩ (fun s' => go C r s' Q)) : go C (.code (.region id l.toArray true) :: r) ⟨tm, ob⟩ Q := qR _ E T ho hE rfl hn hw h
theorem rgN (h : K ⟨tm, ob⟩) : RGo C id l E wob i [] ⟨tm, ob⟩ K := ⟨_, .nil _ _, h⟩
def rgFB (l : List Oper) (E : List Nat) (i n : Nat) : Bool := (List.range n).all fun j => fixedB (ancs l) E (i + j) && !E.contains (i + j)
def rgWB (E : List Nat) (i n : Nat) : Bool := (List.range n).all fun j => !E.contains (i + j)
/-- Operations that are apart from every effect in one way only. -/
theorem rgF (n : Nat) (hc : rgFB l E i n = true) (hn : Nat.ble n ops.length = true) (h : SGo C l.toArray true (ops.take n) ⟨tm, ob⟩ (fun s1 => RGo C id l E wob (i + n) (ops.drop n) ⟨s1.tm, ob⟩ K)) : RGo C id l E wob i ops ⟨tm, ob⟩ K := by
  obtain ⟨s1, h1, s', h2, h3⟩ := h
  have hlen : (ops.take n).length = n := by rw [List.length_take]; have := Nat.le_of_ble_eq_true hn; omega
  have e : s1 = ⟨s1.tm, ob⟩ := by have := h1.obEq; cases s1; simp at this; rw [this]
  refine ⟨s', ?_, h3⟩
  rw [← List.take_append_drop n ops]
  rw [← e] at h2
  refine RD.of_fix h1 (fun j hj => ?_) (by rw [hlen]; exact h2)
  have := List.all_eq_true.1 hc j (by rw [List.mem_range]; omega)
  rw [Bool.and_eq_true] at this
  exact ⟨by simpa using this.2, fixedB_ok this.1⟩
/-- Operations that do not look at what the effects write. -/
theorem rgW (n : Nat) (hc : rgWB E i n = true) (hn : Nat.ble n ops.length = true) (hnd : dstND (ops.take n) = true) (hb : TmB wob.length tm) (h : SGo C l.toArray true (ops.take n) ⟨tm, wob⟩ (fun s1 => TmB wob.length s1.tm ∧ RGo C id l E wob (i + n) (ops.drop n) ⟨s1.tm, ob⟩ K)) : RGo C id l E wob i ops ⟨tm, ob⟩ K := by
  obtain ⟨s1, h1, hb1, s', h2, h3⟩ := h
  have hlen : (ops.take n).length = n := by rw [List.length_take]; have := Nat.le_of_ble_eq_true hn; omega
  refine ⟨s', ?_, h3⟩
  rw [← List.take_append_drop n ops]
  refine RD.of_weak h1 hnd (fun t => hb1.lk t) (fun t => hb.lk t) (fun j hj => ?_) (by rw [hlen]; exact h2)
  have := List.all_eq_true.1 hc j (by rw [List.mem_range]; omega)
  simpa using this
theorem rgX {o : Oper} {rest : List Oper} {x : X} {ob' : List AObj} (hne : E.contains i = true) (hg : guardX l.toArray tm o = some true) (hd : dstOK C o = true) (hv : EOp C ⟨tm, ob⟩ o x ob') (hw : wkP wob.length wob ob') (h : RGo C id l E wob (i + 1) rest ((⟨tm, ob'⟩ : St).put o.dst x) K) : RGo C id l E wob i (o :: rest) ⟨tm, ob⟩ K :=
  let ⟨s', h1, h2⟩ := h; ⟨s', .eff (guardX_ok hg) hd hne hv (Wk.mk' hw) h1, h2⟩
end
theorem Dats.look {E : Env} {tm tm' : List (Nat × X)} {ob : List AObj} {args : List Operand} {ds : List D} (h : Dats ⟨tm, ob⟩ E args ds) (he : ∀ z ∈ args, (⟨tm', ob⟩ : St).ev E z = (⟨tm, ob⟩ : St).ev E z) : Dats ⟨tm', ob⟩ E args ds := by
  induction h with
  | nil => exact .nil
  | cons h _ ih => exact .cons (by rw [he _ (by simp)]; exact h) (ih fun z hz => he z (by simp [hz]))
section
variable {C : Cx} {tm : List (Nat × X)} {ob : List AObj} {id : Nat} {l : List Oper} {E : List Nat} {wob : List AObj} {i : Nat} {rest : List Oper} {K : St → Prop} {o : Oper} {d : Nat} {p : Prop} {x : X}
theorem fw_same {y x : X} {p : Prop} (h : fw y = some (p, x)) : y = x := (fw_eq h).symm
theorem rgStore {t ty : TypeId} {y z : Operand} {j off : Nat} {c : VC} {e : TE} (hne : E.contains i = true) (ho : o.op = .store t y z) (hg : guardX l.toArray tm o = some true) (hdst : o.dst = none) (hy : (⟨tm, ob⟩ : St).ev C.E y = .ptr j off) (hz : fw ((⟨tm, ob⟩ : St).ev C.E z) = some (p, x)) (hh : x.held = true) (hob : ob[j]? = some (.var ty c))
    (he : findT C.E.T t = some e) (hsz : Nat.beq x.cells.length e.size = true) (hle : Nat.ble (off + x.cells.length) c.cells.length = true) (hw : wkP wob.length wob (ob.set j (.var ty (storeC c off x)))) (h : RGo C id l E wob (i + 1) rest ⟨tm, ob.set j (.var ty (storeC c off x))⟩ K) : RGo C id l E wob i (o :: rest) ⟨tm, ob⟩ K := by
  refine rgX (x := .und) (ob' := ob.set j (.var ty (storeC c off x))) hne hg (by simp only [dstOK, hdst]) (fun tm' hev => ?_) hw (by rw [hdst]; exact h)
  rw [hdst]
  have e1 := hev y (by simp [ho, Op.operands])
  have e2 := hev z (by simp [ho, Op.operands])
  exact s_store (s := ⟨tm', ob⟩) ho hdst (e1.trans hy) (e2.trans (fw_same hz)) hh hob he hsz hle
theorem rgAlloc {t : TypeId} {e : TE} (hne : E.contains i = true) (ho : o.op = .alloc t) (hg : guardX l.toArray tm o = some true) (hdst : o.dst = some d) (hd : Nat.blt d C.N = true) (he : findT C.E.T t = some e) (h1z : oneAll e.zero.cells.toList = true)
    (hw : wkP wob.length wob (ob ++ [.var t (.cs (e.zero.cells.toList.map ofConst))])) (h : RGo C id l E wob (i + 1) rest ⟨(d, .ptr ob.length 0) :: tm, ob ++ [.var t (.cs (e.zero.cells.toList.map ofConst))]⟩ K) : RGo C id l E wob i (o :: rest) ⟨tm, ob⟩ K := by
  have hdk : dstOK C o = true := by simp only [dstOK, hdst]; exact hd
  refine rgX (x := .ptr ob.length 0) (ob' := ob ++ [.var t (.cs (e.zero.cells.toList.map ofConst))]) hne hg hdk (fun tm' hev => ?_) hw (by rw [hdst]; exact h)
  exact s_alloc (s := ⟨tm', ob⟩) ho he h1z hdk
theorem rgBox {t : TypeId} {y : Operand} (hne : E.contains i = true) (ho : o.op = .box t y) (hg : guardX l.toArray tm o = some true) (hdst : o.dst = some d) (hd : Nat.blt d C.N = true) (hx : fw ((⟨tm, ob⟩ : St).ev C.E y) = some (p, x)) (hh : x.held = true)
    (hw : wkP wob.length wob (ob ++ [.var t (.w x)])) (h : RGo C id l E wob (i + 1) rest ⟨(d, .ptr ob.length 0) :: tm, ob ++ [.var t (.w x)]⟩ K) : RGo C id l E wob i (o :: rest) ⟨tm, ob⟩ K := by
  have hdk : dstOK C o = true := by simp only [dstOK, hdst]; exact hd
  refine rgX (x := .ptr ob.length 0) (ob' := ob ++ [.var t (.w x)]) hne hg hdk (fun tm' hev => ?_) hw (by rw [hdst]; exact h)
  exact s_box (s := ⟨tm', ob⟩) ho ((hev y (by simp [ho, Op.operands])).trans (fw_same hx)) hh hdk
theorem rgStoreP {t te : TypeId} {y z : Operand} {k j off size : Nat} {xs : List D} {e : D} {tt : TE} (d0 : D) (hne : E.contains i = true) (ho : o.op = .store t y z) (hg : guardX l.toArray tm o = some true) (hdst : o.dst = none) (hy : (⟨tm, ob⟩ : St).ev C.E y = .pel k j off size) (hz : toD ((⟨tm, ob⟩ : St).ev C.E z) = some e)
    (hob : ob[k]? = some (.row te size xs)) (hd : xs[j]? = some d0) (he : findT C.E.T t = some tt) (hsz : Nat.beq e.cells.length tt.size = true) (hle : Nat.ble (off + e.cells.length) d0.cells.length = true) (hw : wkP wob.length wob (ob.set k (.row te size (xs.set j (subD d0 off e)))))
    (h : RGo C id l E wob (i + 1) rest ⟨tm, ob.set k (.row te size (xs.set j (subD d0 off e)))⟩ K) : RGo C id l E wob i (o :: rest) ⟨tm, ob⟩ K := by
  refine rgX (x := .und) (ob' := ob.set k (.row te size (xs.set j (subD d0 off e)))) hne hg (by simp only [dstOK, hdst]) (fun tm' hev => ?_) hw (by rw [hdst]; exact h)
  rw [hdst]
  have e1 := hev y (by simp [ho, Op.operands])
  have e2 := hev z (by simp [ho, Op.operands])
  exact s_storeP (s := ⟨tm', ob⟩) ho hdst (e1.trans hy) ((congrArg toD e2).trans hz) hob hd he hsz hle
theorem sop2_look {tm2 tm' : List (Nat × X)} {ob' : List AObj} (h : sop2 C o tm ob = some (p, tm', ob')) (he : ∀ z ∈ o.op.operands.toList, (⟨tm2, ob⟩ : St).ev C.E z = (⟨tm, ob⟩ : St).ev C.E z) :
    ∃ d x, o.dst = some d ∧ tm' = (d, x) :: tm ∧ sop2 C o tm2 ob = some (p, (d, x) :: tm2, ob') := by
  unfold sop2 at h ⊢
  split at h
  · rename_i t y z ho
    have e1 := he y (by simp [ho, Op.operands])
    have e2 := he z (by simp [ho, Op.operands])
    simp only [ho] at *
    split at h
    · rename_i d te ky n kz m hdst hte hy hz
      rw [hdst, hte, e1, e2, hy, hz]
      try simp only
      split at h
      · rename_i zd hzd
        cases hb : Nat.blt d C.N && (oneAll te.zero.cells.toList && Nat.beq te.zero.cells.size te.size) with
        | false => rw [hb] at h; cases h
        | true =>
          rw [hb] at h
          simp only [cond_true, Option.some.injEq, Prod.mk.injEq] at h
          obtain ⟨rfl, rfl, rfl⟩ := h
          exact ⟨_, _, rfl, rfl, rfl⟩
      · cases h
    · cases h
  · rename_i c ho
    obtain ⟨ce, args, tys⟩ := c
    obtain ⟨args⟩ := args
    obtain ⟨tys⟩ := tys
    simp only [ho] at *
    split at h
    · split at h
      · rename_i d y z t t' hdst
        have e1 := he y (by simp [Op.operands, Call.operands])
        have e2 := he z (by simp [Op.operands, Call.operands])
        rw [hdst]
        try simp only
        split at h
        · rename_i te ys hte hz
          rw [hte, e1, e2, hz]
          try simp only
          split at h
          · rename_i oi xs hown
            cases hb : Nat.blt d C.N && (Nat.beq t t' && (Nat.beq te.zero.cells.size te.size && Nat.blt 0 te.size)) with
            | false => rw [hb] at h; cases h
            | true =>
              rw [hb] at h
              simp only [cond_true, Option.some.injEq, Prod.mk.injEq] at h
              obtain ⟨rfl, rfl, rfl⟩ := h
              exact ⟨_, _, rfl, rfl, rfl⟩
          · cases h
        · cases h
      · cases h
    · cases h
  · cases h
/-- A row is made, or grows. -/
theorem rgS {tm' : List (Nat × X)} {ob' : List AObj} (hne : E.contains i = true) (hg : guardX l.toArray tm o = some true) (hd : dstOK C o = true) (hs : sop2 C o tm ob = some (p, tm', ob')) (hp : p) (hw : wkP wob.length wob ob') (h : RGo C id l E wob (i + 1) rest ⟨tm', ob'⟩ K) : RGo C id l E wob i (o :: rest) ⟨tm, ob⟩ K := by
  obtain ⟨d, x, hdst, rfl, -⟩ := sop2_look (tm2 := tm) hs fun _ _ => rfl
  refine rgX (x := x) (ob' := ob') hne hg hd (fun tm2 hev => ?_) hw (by rw [hdst]; exact h)
  obtain ⟨d', x', hdst', e, h2⟩ := sop2_look (tm2 := tm2) hs hev
  rw [hdst] at hdst'
  cases hdst'
  cases e
  rw [hdst]
  exact sop2_ok h2 hp
end
end Go.Abs

/- Calls that are handed objects: data handed back; such calls in a region whose order is drawn. Conditions: each rule's own. -/
namespace Go.Abs
open Go Go.RowKit

theorem WInv.ren2 {E : Env} {B : Base} {F : Nat → Prop} {σ : Sg} {ob ob' : List AObj} {w : World} (hi : WInv E B F σ ob w) (ks : List Nat) (hn : nodupB ks = true) (hob : renObs ks ob ks = some ob') : WInv E ⟨B.O, 0, []⟩ F (ks.map fun k => σ.getD k (0, 0, 0)) ob' w := by
  obtain ⟨r1, r2, r3, hi1⟩ := hi.ren ks hn hob
  refine ⟨hi1.flt, hi1.glob, hi1.len, fun o x p hx hp => ?_, hi1.inj, fun i p h => absurd h (Nat.not_lt_zero _)⟩
  refine (hi1.obs o x p hx hp).own fun hl => ?_
  obtain ⟨k, y, g1, g2, g3⟩ := r3 o x hx
  rw [(r1 o k g1).2] at hp
  exact ((hi.obs k y p g2 hp).notO (by rw [g3]; exact hl)).1
/-- What the result variables read as. -/
def ResD (C : Cx) (fn : Func) (s : St) (rx : X) : Prop := (∃ q d, fn.results = #[q] ∧ resX C s q = some d ∧ rx = .d d) ∨ ∃ q q' d d', fn.results = #[q, q'] ∧ resX C s q = some d ∧ resX C s q' = some d' ∧ rx = .tup [d, d']
theorem ResD.run {C : Cx} {fn : Func} {s : St} {rx : X} {F : Nat → Prop} {σ σ' : Sg} {w : World} {a : Act} (h : ResD C fn s rx) (hi : WInv C.E C.base F σ s.ob w) (hs : ∀ t, RdX w F σ (lk s.tm t) (a.tmps.getD t undef)) :
    ∃ v, (results fn a.tmps).run C.E.P w = .ok v w ∧ RdX w F σ' rx v := by
  rcases h with ⟨q, d, hr, h, rfl⟩ | ⟨q, q', d, d', hr, h, h', rfl⟩
  · obtain ⟨v, h1, h2⟩ := resX_run hi hs h
    exact ⟨v, by rw [results_eq, hr]; simp [h1], h2⟩
  · obtain ⟨v, h1, h2⟩ := resX_run hi hs h
    obtain ⟨v', h1', h2'⟩ := resX_run hi hs h'
    refine ⟨.tuple #[v, v'], by rw [results_eq, hr]; simp [h1, h1'], [v, v'], rfl, rfl, fun i x u hx hu => ?_⟩
    match i with
    | 0 => simp at hx hu; subst hx hu; exact h2
    | 1 => simp at hx hu; subst hx hu; exact h2'
    | i + 2 => simp at hx
def EndSD (C : Cx) (fn : Func) (rx : X) (ob' : List AObj) : Exit → St → Prop
  | .ret, s | .normal, s => ResD C fn s rx ∧ ∃ ks, nodupB ks = true ∧ ((List.range C.base.n0).all fun i => ks[i]? == some i) = true ∧ renObs ks s.ob ks = some ob'
  | _, _ => False
theorem EvS.enterD {E : Env} {f : FuncId} {fn : Func} {c : Code} {xs : List X} {ob ob' : List AObj} {rx : X} {N : Nat} (hf : E.P.funcs[f]? = some fn) (hN : fn.ntmps = N) (hb : fn.body = some c) (hle : Nat.ble xs.length N = true)
    (h : ∀ (w0 : World) (F0 O : Nat → Prop) (σ0 : Sg), go ⟨E, w0, F0, N, ⟨O, ob.length, σ0⟩⟩ [.code c] ⟨(List.range xs.length).zip xs, ob⟩ (EndSD ⟨E, w0, F0, N, ⟨O, ob.length, σ0⟩⟩ fn rx ob')) : EvS E f xs ob rx ob' := by
  intro w F σ vs hi hl hr
  refine calls_of_wp hf hb ?_
  have hgo := h w F (Held w ob σ) σ
  have hlook : ∀ t, RdX w F σ (lk ((List.range xs.length).zip xs) t) ((vs.toArray ++ Array.replicate (fn.ntmps - vs.toArray.size) undef).getD t undef) := by
    intro t
    have key : ∀ (k : Nat) (l : List X), (∀ (i : Nat) d, l[i]? = some d → xs[k + i]? = some d) → RdX w F σ (lk ((List.range' k l.length).zip l) t) ((vs.toArray ++ Array.replicate (fn.ntmps - vs.toArray.size) undef).getD t undef) := by
      intro k l
      induction l generalizing k with
      | nil => intro _; trivial
      | cons d l ih =>
        intro hk
        simp only [List.length_cons, List.range'_succ, List.zip_cons_cons, lk]
        cases hbq : Nat.beq k t with
        | true =>
          obtain rfl := Nat.eq_of_beq_eq_true hbq
          have hd : xs[k]? = some d := by simpa using hk 0 d rfl
          have hlt : k < vs.length := by rw [hl]; exact (List.getElem?_eq_some_iff.1 hd).1
          have e : (vs.toArray ++ Array.replicate (fn.ntmps - vs.toArray.size) undef).getD k undef = vs[k] := by
            simp [Array.getElem?_append, hlt]
          rw [e]
          exact hr k d _ hd (List.getElem?_eq_getElem hlt)
        | false =>
          refine ih (k + 1) fun i d' hi => ?_
          have := hk (i + 1) d' (by simpa using hi)
          rw [← this]
          congr 1
          omega
    have := key 0 xs fun i d hd => by simpa using hd
    rwa [← List.range_eq_range'] at this
  have hle' : xs.length ≤ N := Nat.le_of_ble_eq_true hle
  have hrel : Cx.Rel ⟨E, w, F, N, ⟨Held w ob σ, ob.length, σ⟩⟩ ⟨(List.range xs.length).zip xs, ob⟩ { tmps := vs.toArray ++ Array.replicate (fn.ntmps - vs.toArray.size) undef, defers := [] } w := by
    refine ⟨F, σ, Kept.refl (fun _ h => h.1), fun _ h => h, fun _ h => .inl h, ⟨hi.flt, hi.glob, hi.len, fun k x p hx hp => (hi.obs k x p hx hp).own fun hl ho => ho.2 ⟨k, x, p, hx, hl, hp, rfl⟩, hi.inj, fun i p _ hp => hp⟩, rfl, ?_, hlook⟩
    simp [hN, hl]
    omega
  refine wp_mono (hgo _ w hrel) ?_
  rintro e a' w' ⟨s', hrel', hq⟩
  have fin : (ResD ⟨E, w, F, N, ⟨Held w ob σ, ob.length, σ⟩⟩ fn s' rx ∧ ∃ ks, nodupB ks = true ∧ ((List.range ob.length).all fun i => ks[i]? == some i) = true ∧ renObs ks s'.ob ks = some ob') → a'.defers = [] ∧ ∃ v, (results fn a'.tmps).run E.P w' = .ok v w' ∧
      ∃ v_1 F' σ', Ending.returned v = .returned v_1 ∧ Kept (Held w ob σ) w w' ∧ (∀ b, F b → F' b) ∧ (∀ b, F' b → F b ∨ ¬ Held w ob σ b) ∧ (∀ (i : Nat) p, i < ob.length → σ[i]? = some p → σ'[i]? = some p) ∧ WInv E ⟨Held w ob σ, 0, []⟩ F' σ' ob' w' ∧ RdX w' F' σ' rx v_1 := by
    rintro ⟨hres, ks, hn, hk0, hob'⟩
    obtain ⟨F', σ', h1, h2, h3, hi', h4, h5, hs⟩ := hrel'
    obtain ⟨v, v1, v2⟩ := hres.run (σ' := ks.map fun k => σ'.getD k (0, 0, 0)) hi' hs
    refine ⟨h4, v, v1, v, F', _, rfl, h1, h2, h3, fun i p hlt hp => ?_, hi'.ren2 ks hn hob', v2⟩
    have hk := List.all_eq_true.1 hk0 i (List.mem_range.2 hlt)
    have hk' : ks[i]? = some i := by simpa using hk
    rw [((hi'.ren ks hn hob').1 i i hk').2]
    exact hi'.pre i p hlt hp
  cases e with
  | normal => exact fin hq
  | ret => exact fin hq
  | _ => exact hq.elim
section
variable {C : Cx} {r : List It} {fn : Func} {tm : List (Nat × X)} {ob ob' : List AObj}
theorem retD1 (ks : List Nat) {q : ResultVar} {d d' : D} (hn : nodupB ks = true) (hk0 : ((List.range C.base.n0).all fun i => ks[i]? == some i) = true) (hob : renObs ks ob ks = some ob') (hr : fn.results = #[q]) (h : resX C ⟨tm, ob⟩ q = some d) (he : d = d') :
    go C (.code .ret :: r) ⟨tm, ob⟩ (EndSD C fn (.d d') ob') := go_ret_ ⟨.inl ⟨q, d, hr, h, by rw [he]⟩, ks, hn, hk0, hob⟩
theorem retD2 (ks : List Nat) {q q' : ResultVar} {d d' : D} {l : List D} (hn : nodupB ks = true) (hk0 : ((List.range C.base.n0).all fun i => ks[i]? == some i) = true) (hob : renObs ks ob ks = some ob') (hr : fn.results = #[q, q']) (h : resX C ⟨tm, ob⟩ q = some d) (h' : resX C ⟨tm, ob⟩ q' = some d') (he : [d, d'] = l) :
    go C (.code .ret :: r) ⟨tm, ob⟩ (EndSD C fn (.tup l) ob') := go_ret_ ⟨.inr ⟨q, q', d, d', hr, h, h', by rw [he]⟩, ks, hn, hk0, hob⟩
end
section
variable {C : Cx} {tm : List (Nat × X)} {ob : List AObj} {id : Nat} {l : List Oper} {E : List Nat} {wob : List AObj} {i : Nat} {rest : List Oper} {K : St → Prop} {o : Oper} {d : Nat}
end
end Go.Abs

/- A row that grew out of nil, given up as data. Conditions: each rule's own. -/
namespace Go.Abs
open Go Go.RowKit

/-- A row that grows out of nil, with a number of its own. -/
def rowK (k : Nat) : List D → X
  | [] => .nilS
  | _ :: _ => .own k
theorem frzX_below {k : Nat} {xs : List D} {x : X} (h : x.below k = true) : frzX k xs x = x := by
  cases x with
  | own i =>
    have : ¬ i = k := by have : i < k := by simpa [X.below] using h
                         omega
    simp only [frzX]
    rw [show Nat.beq i k = false by rw [← Bool.not_eq_true]; exact fun e => this (Nat.eq_of_beq_eq_true e)]
    rfl
  | pel i j off z =>
    have : ¬ i = k := by have : i < k := by simpa [X.below] using h
                         omega
    simp only [frzX]
    rw [show Nat.beq i k = false by rw [← Bool.not_eq_true]; exact fun e => this (Nat.eq_of_beq_eq_true e)]
    rfl
  | sub i j off z =>
    have : ¬ i = k := by have : i < k := by simpa [X.below] using h
                         omega
    simp only [frzX]
    rw [show Nat.beq i k = false by rw [← Bool.not_eq_true]; exact fun e => this (Nat.eq_of_beq_eq_true e)]
    rfl
  | st cs =>
    simp only [frzX]
    congr 1
    have : ∀ c ∈ cs, frzP k xs c = c := fun c hc => by
      have h1 := List.all_eq_true.1 h c hc
      cases c with
      | own i =>
        have : ¬ i = k := by have : i < k := by simpa using h1
                             omega
        simp only [frzP]
        rw [show Nat.beq i k = false by rw [← Bool.not_eq_true]; exact fun e => this (Nat.eq_of_beq_eq_true e)]
        rfl
      | _ => rfl
    rw [List.map_congr_left this]
    simp
  | _ => rfl
theorem frzO_below {k : Nat} {xs : List D} {x : AObj} (h : x.below k = true) : frzO k xs x = x := by
  cases x with
  | var t c =>
    simp only [frzO]
    congr 1
    cases c with
    | w y =>
      simp only [frzC]
      congr 1
      cases y with
      | d d => rfl
      | _ => exact frzX_below (List.all_eq_true.1 h _ (by simp [VC.cells, X.cells]))
    | cs l =>
      simp only [frzC]
      congr 1
      have : ∀ y ∈ l, frzX k xs y = y := fun y hy => frzX_below (List.all_eq_true.1 h y hy)
      rw [List.map_congr_left this]
      simp
  | _ => rfl
theorem Le.rowD {C : Cx} {t k : Nat} {te : TypeId} {size : Nat} {ys : List D} {tm : List (Nat × X)} {ob : List AObj} (hk : ob.length = k) (h0 : C.base.n0 ≤ k) (hT : ∀ u, (lk tm u).below k = true) (hO : ∀ x ∈ ob, x.below k = true) :
    Le C ⟨(t, rowK k ys) :: tm, ob ++ rowO te size ys⟩ ⟨(t, .d (.sl ys)) :: tm, ob⟩ := by
  intro a w hr
  cases ys with
  | nil =>
    obtain ⟨F, σ, h1, h2, h3, hi, h4, h5, hs⟩ := hr
    refine ⟨F, σ, h1, h2, h3, by simpa [rowO] using hi, h4, h5, fun u => ?_⟩
    have := hs u
    simp only [lk] at this ⊢
    cases hb : Nat.beq t u with
    | true =>
      rw [hb] at this
      have hv : a.tmps.getD u undef = .slice none 0 0 := this
      rw [hv]
      exact Rd.slnil
    | false => rw [hb] at this; exact this
  | cons y ys =>
    simp only [rowK, rowO] at hr
    have hob : (ob ++ [AObj.row te size (y :: ys)])[k]? = some (.row te size (y :: ys)) := by rw [← hk]; simp
    have hf : frz k ⟨(t, .own k) :: tm, ob ++ [AObj.row te size (y :: ys)]⟩ = some ⟨frzT k (y :: ys) ((t, .own k) :: tm), ((ob ++ [AObj.row te size (y :: ys)]).map (frzO k (y :: ys))).set k .dead⟩ := by
      unfold frz
      simp only [hob]
    obtain ⟨F, σ, h1, h2, h3, hi, h4, h5, hs⟩ := frz_le k hf a w hr
    have hwk : Wk ob (((ob ++ [AObj.row te size (y :: ys)]).map (frzO k (y :: ys))).set k .dead) := by
      refine ⟨by simp, fun i x hx _ => ?_⟩
      have hlt : i < k := by rw [← hk]; exact (List.getElem?_eq_some_iff.1 hx).1
      have hm := List.mem_of_getElem? hx
      refine ⟨?_, by rw [hk]; exact hO x hm⟩
      rw [List.getElem?_set_ne (by omega), List.getElem?_map, List.getElem?_append_left (by omega), hx, Option.map_some, frzO_below (hO x hm)]
    refine ⟨F, σ.take ob.length, h1, h2, h3, hi.wk hwk (by omega), h4, h5, fun u => ?_⟩
    have := hs u
    rw [lk_frz] at this
    simp only [lk] at this ⊢
    cases hb : Nat.beq t u with
    | true =>
      rw [hb] at this
      simp only [cond_true, frzX] at this
      rw [show Nat.beq k k = true by simp] at this
      exact this
    | false =>
      rw [hb] at this
      simp only [cond_false] at this ⊢
      rw [frzX_below (hT u)] at this
      rw [hk]
      exact this.take (hT u)
section
variable {C : Cx} {r : List It} {Q : Exit → St → Prop} {tm : List (Nat × X)} {ob : List AObj}
end
end Go.Abs

/- Laws whose statement bears a bound on how much is read. Conditions: each theorem's own. -/
namespace Go.Abs
open Go Go.RowKit Go.ChangeShapes Go.WideShapes

end Go.Abs

/- Short names for the steps of a walk whose premises say themselves. Conditions: none. -/
namespace Go.Abs
open Go
section
variable {C : Cx} {all : Array Oper} {pu : Bool} {K : St → Prop} {rest : List Oper} {o : Oper} {tm tm' : List (Nat × X)} {ob ob' : List AObj} {r : List It} {s : St} {Q : Exit → St → Prop}
theorem zS {p : Prop} (hv : stepY C all pu o tm ob = some (p, tm', ob')) (h : SGo C all pu rest ⟨tm', ob'⟩ K)
    (hp : p := by first | exact True.intro | rfl | assumption | omega | (simp only [inR]; omega) | ((show _ ≤ (9223372036854775807 : Nat)); (try simp only [ByteArray.size_append]); omega) | exact tmod_ok (by omega) (by omega) | exact tdiv_ok (by omega) (by omega) | exact ⟨rfl, by decide, by decide⟩) :
    SGo C all pu (o :: rest) ⟨tm, ob⟩ K := qS hv hp h
theorem zT {c : Operand} {x y : Code} {b : Bool} (hc : s.ev C.E c = .d (.imm (.bool b))) (ht : go C (.code x :: r) s Q) (hb : b = true := by first | rfl | assumption) : go C (.code (.cond c x y) :: r) s Q := qT hc hb ht
theorem zU {c : Operand} {x y : Code} {b : Bool} (hc : s.ev C.E c = .d (.imm (.bool b))) (hf : go C (.code y :: r) s Q) (hb : b = false := by first | rfl | assumption) : go C (.code (.cond c x y) :: r) s Q := qU hc hb hf
theorem zX {j t : Nat} {pol b : Bool} {q : Oper} (hg : o.guard = some (j, pol)) (hj : all[j]? = some q) (hq : q.dst = some t) (hb : lk tm t = .d (.imm (.bool b)))
    (h : SGo C all pu (o :: rest) ⟨(t, .d (.imm (.bool true))) :: tm, ob⟩ K) (he : b = true := by assumption) : SGo C all pu (o :: rest) ⟨tm, ob⟩ K := qX hg hj hq hb he h
theorem zW {j t : Nat} {pol b : Bool} {q : Oper} (hg : o.guard = some (j, pol)) (hj : all[j]? = some q) (hq : q.dst = some t) (hb : lk tm t = .d (.imm (.bool b)))
    (h : SGo C all pu (o :: rest) ⟨(t, .d (.imm (.bool false))) :: tm, ob⟩ K) (he : b = false := by assumption) : SGo C all pu (o :: rest) ⟨tm, ob⟩ K := qX hg hj hq hb he h
end
theorem zD {d : D} : d = d := rfl
theorem zL {l : List D} : l = l := rfl
theorem zle {C : Cx} {tm tm' : List (Nat × X)} {ob ob' : List AObj} (n : Nat) (hn : Nat.ble C.base.n0 n = true := by exact rfl) (hob : ob' = ob.take n := by exact rfl)
    (ht : TmLe tm n tm' := by repeat (first | exact trivial | refine ⟨⟨rfl, rfl⟩, ?_⟩)) (ho : ObLe n ob' := by repeat (first | exact trivial | refine ⟨rfl, ?_⟩)) : Le C ⟨tm, ob⟩ ⟨tm', ob'⟩ := Le.of' n hn hob ht ho
theorem zren {C : Cx} {tm tm' : List (Nat × X)} {ob ob' : List AObj} (ks : List Nat) (hn : nodupB ks = true := by exact rfl) (hk0 : ((List.range C.base.n0).all fun i => ks[i]? == some i) = true := by exact rfl)
    (hob : renObs ks ob ks = some ob' := by exact rfl) (ht : TmRen tm ks tm' := by repeat (first | exact trivial | refine ⟨rfl, ?_⟩)) : Le C ⟨tm, ob⟩ ⟨tm', ob'⟩ := Le.ren ks hn hk0 hob ht
end Go.Abs

/- In a region whose order is drawn: a literal of a slice as a row of the call's own, and an append whose row is given up as data at once. Conditions: each rule's own. -/
namespace Go.Abs
open Go Go.RowKit

theorem RdX.isBelow {w : World} {F : Nat → Prop} {σ : Sg} {x : X} {v : Value} (h : RdX w F σ x v) : x.below σ.length = true := by
  have key : ∀ (o : Nat) (p : Nat × Nat × Nat), σ[o]? = some p → Nat.blt o σ.length = true := fun o p h => by
    have := (List.getElem?_eq_some_iff.1 h).1
    simpa using this
  have caps : ∀ (cs : List Cap) (us : List Value), cs.length = us.length → (∀ (i : Nat) c u, cs[i]? = some c → us[i]? = some u → CapRd w F σ c u) → ∀ c ∈ cs, c.x.below σ.length = true := by
    intro cs us hl hr c hc
    obtain ⟨i, hi, he⟩ := List.mem_iff_getElem.1 hc
    have h1 := hr i c us[i] (by rw [← he]; exact List.getElem?_eq_getElem hi) (List.getElem?_eq_getElem (by omega))
    cases c with
    | d x => rfl
    | ptr o off => obtain ⟨b, c, n, h2, -⟩ := h1; exact key _ _ h2
    | own o => obtain ⟨b, c, n, h2, -⟩ := h1; exact key _ _ h2
  cases x with
  | ptr o off => obtain ⟨b, c, n, h1, -⟩ := h; exact key _ _ h1
  | own o => obtain ⟨b, c, n, h1, -⟩ := h; exact key _ _ h1
  | mp o => obtain ⟨b, c, n, h1, -⟩ := h; exact key _ _ h1
  | pel o i off size => obtain ⟨b, c, n, h1, -⟩ := h; exact key _ _ h1
  | sub o i off size => obtain ⟨b, c, n, h1, -⟩ := h; exact key _ _ h1
  | clo f cs =>
    obtain ⟨us, -, hl, hr⟩ := h
    refine List.all_eq_true.2 fun c hc => ?_
    have := caps cs us hl hr c hc
    cases c with
    | d x => rfl
    | ptr o off => exact this
    | own o => exact this
  | bnd f cs =>
    obtain ⟨us, -, hl, hr⟩ := h
    refine List.all_eq_true.2 fun c hc => ?_
    have := caps cs us hl hr c hc
    cases c with
    | d x => rfl
    | ptr o off => exact this
    | own o => exact this
  | st cs =>
    obtain ⟨us, -, hl, -, hr⟩ := h
    refine List.all_eq_true.2 fun c hc => ?_
    have := caps cs us hl hr c hc
    cases c with
    | d x => rfl
    | ptr o off => exact this
    | own o => exact this
  | _ => rfl
theorem Cx.Rel.tmBelow {C : Cx} {s : St} {a : Act} {w : World} (h : C.Rel s a w) (t : Nat) : (lk s.tm t).below s.ob.length = true := by
  obtain ⟨F, σ, -, -, -, hi, -, -, hs⟩ := h
  rw [← hi.len]
  exact (hs t).isBelow
theorem ObLe.all {n : Nat} : ∀ {l : List AObj}, ObLe n l → ∀ x ∈ l, x.below n = true
  | a :: r, h, x, hx => by
    rcases List.mem_cons.1 hx with rfl | hx
    · exact h.1
    · exact ObLe.all h.2 x hx
theorem EOp.data {C : Cx} {tm : List (Nat × X)} {ob ob1 : List AObj} {o : Oper} {d : Nat} {te : TypeId} {size : Nat} {xs : List D} (hdst : o.dst = some d) (h0 : C.base.n0 ≤ ob1.length) (hlen : ob1.length = ob.length) (hO : ∀ x ∈ ob1, x.below ob1.length = true) (hx : xs ≠ [])
    (h : EOp C ⟨tm, ob⟩ o (.own ob1.length) (ob1 ++ [.row te size xs])) : EOp C ⟨tm, ob⟩ o (.d (.sl xs)) ob1 := by
  intro tm' hev w a K Q hrel hK
  refine h tm' hev w a K Q hrel fun a' w' hr' => hK a' w' ?_
  rw [hdst] at hr' ⊢
  cases xs with
  | nil => exact absurd rfl hx
  | cons y ys => exact Le.rowD (k := ob1.length) (ys := y :: ys) rfl h0 (fun u => by rw [hlen]; exact hrel.tmBelow u) hO a' w' hr'









section
variable {C : Cx} {r : List It} {Q : Exit → St → Prop} {tm : List (Nat × X)} {ob : List AObj} {id : Nat} {l : List Oper} {E : List Nat} {wob : List AObj} {i : Nat} {ops : List Oper} {K : St → Prop}
end
section
variable {C : Cx} {tm : List (Nat × X)} {ob : List AObj} {id : Nat} {l : List Oper} {E : List Nat} {wob : List AObj} {i : Nat} {rest : List Oper} {K : St → Prop} {o : Oper} {d : Nat} {p : Prop} {x : X}
end
end Go.Abs

/- Drawn regions in which one operation calls a function that is handed objects and leaves them as they are; shifts, masks and sums of signed words. Conditions: each operation's own. -/
namespace Go.Abs
open Go Go.RowKit

/-- Memory after an operation that leaves the objects where they lie and as they are said to be. -/
structure Kp (C : Cx) (ob : List AObj) (σ : Sg) (w : World) (F : Nat → Prop) (w' : World) (F' : Nat → Prop) : Prop where
  kept : Kept C.O C.w0 w'
  more : ∀ b, F b → F' b
  new : ∀ b, F' b → F b ∨ ¬ C.O b
  same : ∀ b, F b → w'.heap[b]? = w.heap[b]?
  inv : WInv C.E C.base F' σ ob w'
theorem Kp.of_ext {C : Cx} {ob : List AObj} {σ : Sg} {w w' : World} {F F' : Nat → Prop} (h1 : Kept C.O C.w0 w) (hi : WInv C.E C.base F σ ob w) (he : Ext w F w' F') : Kp C ob σ w F w' F' :=
  ⟨h1.step he.below, he.more, fun b hb => (he.new b hb).imp id h1.new, he.keep hi.flt, hi.ext he⟩
/-- An operation that yields a value and leaves the objects as they are said to be. -/
def POp (C : Cx) (s : St) (o : Oper) (x : X) : Prop :=
  ∀ (F : Nat → Prop) (σ : Sg) (w : World) (a : Act) (K : Act → World → Prop) (Q : Exit → Act → World → Prop), Kept C.O C.w0 w → WInv C.E C.base F σ s.ob w →
    (∀ y ∈ o.op.operands.toList, RdX w F σ (s.ev C.E y) (a.eval y)) →
    (∀ v w' F', Kp C s.ob σ w F w' F' → RdX w' F' σ x v → K (a.put o.dst v) w') → o.wp C.E.P a w K Q
theorem VOp.pop {C : Cx} {s : St} {o : Oper} {x : X} (h : VOp C s o x) : POp C s o x :=
  fun F σ w a K Q h1 hi hr hK => h F σ w a K Q hi hr fun v w' F' he hv => hK v w' F' (Kp.of_ext h1 hi he) hv
theorem StEq.pop {C : Cx} {s s' : St} (h : StEq s s') {o : Oper} {x : X} (hv : POp C s o x) : POp C s' o x := by
  intro F σ w a K Q h1 hi ho hK
  refine hv F σ w a K Q h1 (by rw [← h.2]; exact hi) (fun y hy => ?_) (fun v w' F' hk hx => hK v w' F' (by rw [h.2]; exact hk) hx)
  rw [← h.ev]
  exact ho y hy


section
variable {C : Cx} {s : St} {o : Oper}
end
section
variable {C : Cx} {s : St} {o : Oper}
end
/-- Operations that stand in no order: plain ones, and calls that leave the objects as they are. -/
inductive SP (C : Cx) (all : Array Oper) : List Oper → St → St → Prop
  | nil (s : St) : SP C all [] s s
  | seg {pre rest : List Oper} {s s1 s' : St} (h : SD C all true pre s s1) (hr : SP C all rest s1 s') : SP C all (pre ++ rest) s s'
  | pop {o : Oper} {rest : List Oper} {s s' : St} {x : X} (hg : o.guard = none) (hd : dstOK C o = true) (hv : POp C s o x) (hr : SP C all rest (s.put o.dst x) s') : SP C all (o :: rest) s s'
theorem SP.data {C : Cx} {all : Array Oper} {ops : List Oper} {s s' : St} (h : SP C all ops s s') :
    ∃ xs : List (Oper × Option X), xs.map (·.1) = ops ∧ StEq (stps s xs) s' ∧ ∀ (i : Nat) o x, xs[i]? = some (o, x) → dstOK C o = true ∧ GuardIs all (stps s (xs.take i)) o x.isSome ∧ ∀ y, x = some y → POp C (stps s (xs.take i)) o y := by
  induction h with
  | nil s => exact ⟨[], rfl, StEq.refl _, fun i o x h => by simp at h⟩
  | @seg pre rest s s1 s' h hr ih =>
    obtain ⟨xs1, e1, q1, v1⟩ := h.data
    obtain ⟨xs2, e2, q2, v2⟩ := ih
    refine ⟨xs1 ++ xs2, by simp [e1, e2], by rw [stps_append]; exact (q1.stps xs2).trans q2, fun i o x hi => ?_⟩
    rcases Nat.lt_or_ge i xs1.length with hlt | hge
    · rw [List.getElem?_append_left hlt] at hi
      rw [List.take_append_of_le_length (by omega)]
      obtain ⟨a1, a2, a3⟩ := v1 i o x hi
      exact ⟨a1, a2, fun y hy => (a3 y hy).pop⟩
    · obtain ⟨m, rfl⟩ : ∃ m, i = xs1.length + m := ⟨i - xs1.length, by omega⟩
      rw [List.getElem?_append_right (by omega), Nat.add_sub_cancel_left] at hi
      rw [List.take_length_add_append, stps_append]
      obtain ⟨a1, a2, a3⟩ := v2 m o x hi
      have hss := (q1.stps (xs2.take m)).symm
      exact ⟨a1, hss.guard a2, fun y hy => hss.pop (a3 y hy)⟩
  | @pop o rest s s' x hg hd hv hr ih =>
    obtain ⟨xs, h1, h2, h3⟩ := ih
    refine ⟨(o, some x) :: xs, by simp [h1], h2, fun i o' x' hi => ?_⟩
    cases i with
    | zero =>
      simp at hi
      obtain ⟨rfl, rfl⟩ := hi
      exact ⟨hd, by unfold GuardIs; rw [hg]; rfl, fun y hy => by cases hy; exact hv⟩
    | succ i => exact h3 i o' x' (by simpa using hi)
section
variable {C : Cx} {r : List It} {s : St} {Q : Exit → St → Prop} {all : Array Oper} {K : St → Prop} {id i : Nat}
end

section
variable {C : Cx} {s : St} {o : Oper}
end
section
variable {C : Cx} {K : St → Prop} {all : Array Oper} {rest : List Oper} {tm : List (Nat × X)} {ob : List AObj} {d : Nat} {o : Oper}
end

section
variable {C : Cx} {r : List It} {Q : Exit → St → Prop} {tm : List (Nat × X)} {ob : List AObj}
end

/-! ## Signed words -/
section
variable {C : Cx} {K : St → Prop} {all : Array Oper} {rest : List Oper} {tm : List (Nat × X)} {ob : List AObj} {d : Nat} {pu : Bool} {o : Oper}
end
end Go.Abs

/- Struct values some of whose cells are rows of the call's own, or variables' addresses: how they are built and put into a variable. Conditions: each operation's own. -/
namespace Go.Abs
open Go Go.RowKit

/-- The cells of what a slot holds, as parts of a struct. -/
def capsOf : X → Option (List Cap)
  | .d d => some (d.cells.map Cap.d)
  | .nilS => some [.d (.sl [])]
  | .own o => some [.own o]
  | .ptr o off => some [.ptr o off]
  | .st cs => some cs
  | _ => none
theorem capsOf_ok {w : World} {F : Nat → Prop} {σ : Sg} {x : X} {v : Value} {ds : List Cap} (h : capsOf x = some ds) (hv : RdX w F σ x v) :
    v.cells.size = ds.length ∧ (∀ (i : Nat) c u, ds[i]? = some c → v.cells.toList[i]? = some u → CapRd w F σ c u) ∧ ∀ u ∈ v.cells.toList, u.oneCell' = true := by
  have one : v.oneCell' = true → ∀ c, CapRd w F σ c v → v.cells.size = [c].length ∧ (∀ (i : Nat) c' u, [c][i]? = some c' → v.cells.toList[i]? = some u → CapRd w F σ c' u) ∧ ∀ u ∈ v.cells.toList, u.oneCell' = true := by
    intro h1 c hc
    have hvc : v.cells = #[v] := by cases v <;> simp_all [Value.oneCell', Value.cells]
    rw [hvc]
    refine ⟨rfl, fun i c' u hi hu => ?_, by simpa using h1⟩
    cases i with
    | zero => simp at hi hu; subst hi hu; exact hc
    | succ i => simp at hi
  cases x with
  | d d =>
    simp only [capsOf] at h
    cases h
    obtain ⟨a1, a2, a3⟩ := RdX.cells_ (x := .d d) hv rfl
    refine ⟨by simpa [X.cells] using a1, fun i c u hi hu => ?_, a2⟩
    rw [List.getElem?_map, Option.map_eq_some_iff] at hi
    obtain ⟨e, he, rfl⟩ := hi
    exact a3 i (.d e) u (by simp [X.cells, he]) hu
  | nilS =>
    simp only [capsOf] at h
    cases h
    refine one (by rw [show v = _ from hv]; rfl) _ ?_
    rw [show v = .slice none 0 0 from hv]
    exact Rd.slnil
  | own o =>
    simp only [capsOf] at h
    cases h
    refine one ?_ _ hv
    obtain ⟨b, c, n, -, rfl⟩ := hv
    rfl
  | ptr o off =>
    simp only [capsOf] at h
    cases h
    refine one ?_ _ hv
    obtain ⟨b, c, n, -, rfl⟩ := hv
    rfl
  | st cs =>
    simp only [capsOf] at h
    cases h
    obtain ⟨us, rfl, hl, h1, hr⟩ := hv
    exact ⟨by simpa [Value.cells] using hl.symm, fun i c u hi hu => hr i c u hi (by simpa [Value.cells] using hu), fun u hu => h1 u (by simpa [Value.cells] using hu)⟩
  | _ => simp [capsOf] at h
structure CellsP (w : World) (F : Nat → Prop) (σ : Sg) (vs : List Value) (cs : List Cap) : Prop where
  len : cs.length = vs.length
  one : ∀ v ∈ vs, v.oneCell' = true
  rd : ∀ (i : Nat) c v, cs[i]? = some c → vs[i]? = some v → CapRd w F σ c v
def setAllC : List Cap → Nat → List Cap → List Cap
  | cs, _, [] => cs
  | cs, k, d :: r => setAllC (cs.set k d) (k + 1) r
theorem setAllC_spec : ∀ (r cs : List Cap) (k : Nat), k + r.length ≤ cs.length → setAllC cs k r = cs.take k ++ r ++ cs.drop (k + r.length)
  | [], cs, k, _ => by simp [setAllC]
  | d :: r, cs, k, h => by
    simp only [setAllC]
    simp only [List.length_cons] at h
    rw [setAllC_spec r (cs.set k d) (k + 1) (by simp; omega)]
    have e1 : (cs.set k d).take (k + 1) = cs.take k ++ [d] := by
      rw [List.take_succ_eq_append_getElem (by simp; omega), List.take_set_of_le (Nat.le_refl _)]
      simp
    have e2 : (cs.set k d).drop (k + 1 + r.length) = cs.drop (k + (d :: r).length) := by
      rw [List.drop_set_of_lt (by omega)]
      simp only [List.length_cons]
      congr 1
      omega
    rw [e1, e2]
    simp
theorem CellsP.set_ {w : World} {F : Nat → Prop} {σ : Sg} {vs : List Value} {cs ds : List Cap} {v : Value} {off : Nat} (h : CellsP w F σ vs cs) (a1 : v.cells.size = ds.length)
    (a2 : ∀ (i : Nat) c u, ds[i]? = some c → v.cells.toList[i]? = some u → CapRd w F σ c u) (a3 : ∀ u ∈ v.cells.toList, u.oneCell' = true) (hle : off + ds.length ≤ cs.length) :
    CellsP w F σ (vs.take off ++ v.cells.toList ++ vs.drop (off + v.cells.toList.length)) (setAllC cs off ds) := by
  have hl : v.cells.toList.length = ds.length := by simpa using a1
  rw [setAllC_spec _ _ _ hle]
  have hlen := h.len
  have h1 : (cs.take off).length = off := by rw [List.length_take]; omega
  have h2 : (vs.take off).length = off := by rw [List.length_take]; omega
  refine ⟨?_, fun u hu => ?_, fun i c u hc hu => ?_⟩
  · simp only [List.length_append, List.length_take, List.length_drop, hl, hlen]
  · rw [List.mem_append, List.mem_append] at hu
    rcases hu with (hu | hu) | hu
    · exact h.one u (List.mem_of_mem_take hu)
    · exact a3 u hu
    · exact h.one u (List.mem_of_mem_drop hu)
  · rcases Nat.lt_or_ge i off with hlt | hge
    · rw [List.append_assoc, List.getElem?_append_left (by omega), List.getElem?_take, if_pos hlt] at hu hc
      exact h.rd i c u hc hu
    · rw [List.append_assoc, List.getElem?_append_right (by omega)] at hu hc
      rw [h2] at hu
      rw [h1] at hc
      rcases Nat.lt_or_ge (i - off) ds.length with hlt | hge2
      · rw [List.getElem?_append_left (by omega)] at hu hc
        exact a2 _ c u hc hu
      · rw [List.getElem?_append_right (by omega), List.getElem?_drop] at hu hc
        rw [hl] at hu
        exact h.rd _ c u hc hu
section
variable {C : Cx} {s : St} {o : Oper} {x : X}
/-- A variable that holds such a struct. -/
theorem s_boxP {t : TypeId} {y : Operand} {cs : List Cap} (ho : o.op = .box t y) (hx : s.ev C.E y = .st cs) (hd : dstOK C o = true) : SOp C s o (s.add o.dst (.var t (.cs (cs.map Cap.x))) (.ptr s.ob.length 0)) := by
  rintro w a K Q ⟨F, σ, h1, h2, h3, hi, h4, h5, hs⟩ hK
  have hv := ev_rd (E := C.E) hi hs y
  rw [hx] at hv
  have hrun : (execOp a.eval o).run C.E.P w = .ok (.value (.pointer (some ⟨w.heap.size, 0, none⟩))) (w.alloc (.cells (a.eval y).cells t)) := by
    simp [execOp, ho, Instr.box, newVar, newRow]
  unfold Oper.wp
  rw [hrun]
  have he := ext_alloc (F := F) (.cells (a.eval y).cells t) hi.flt
  have hv' : RdX (w.alloc (.cells (a.eval y).cells t)) F (σ ++ [(w.heap.size, 0, 0)]) (.st cs) (a.eval y) := (hv.ext he hi.flt).mono (fun _ h => h) (fun _ _ => rfl) σ_app
  obtain ⟨c1, c2, c3⟩ := capsOf_ok (x := .st cs) rfl hv'
  refine hK _ _ (rel_add h1 h2 h3 hi h4 h5 hs hd (x := .var t (.cs (cs.map Cap.x))) (c := 0) (n := 0) ⟨(a.eval y).cells.toList, by simpa using heap_push, by simpa [VC.cells] using c1.symm, c3, fun i x v hx hv => ?_, h1.new (Nat.le_refl _), fun hf => ?_⟩ ⟨w.heap.size, 0, 0, ?_, rfl⟩)
  · simp only [VC.cells, List.getElem?_map, Option.map_eq_some_iff] at hx
    obtain ⟨c, hc, rfl⟩ := hx
    exact Cap.x_rd (c2 i c v hc hv)
  · exact absurd (hi.flt _ hf) (Nat.lt_irrefl _)
  · rw [← hi.len]; simp
end
section
variable {C : Cx} {K : St → Prop} {all : Array Oper} {rest : List Oper} {tm : List (Nat × X)} {ob : List AObj} {d : Nat} {pu : Bool} {o : Oper}
end
section
variable {C : Cx} {id : Nat} {l : List Oper} {E : List Nat} {wob : List AObj} {i : Nat} {rest : List Oper} {o : Oper} {tm : List (Nat × X)} {ob : List AObj} {K : St → Prop} {d : Nat}
theorem rgBoxP {t : TypeId} {y : Operand} {cs : List Cap} {m : List X} (hne : E.contains i = true) (ho : o.op = .box t y) (hg : guardX l.toArray tm o = some true) (hdst : o.dst = some d) (hd : Nat.blt d C.N = true) (hx : (⟨tm, ob⟩ : St).ev C.E y = .st cs) (hm : cs.map Cap.x = m)
    (hw : wkP wob.length wob (ob ++ [.var t (.cs m)])) (h : RGo C id l E wob (i + 1) rest ⟨(d, .ptr ob.length 0) :: tm, ob ++ [.var t (.cs m)]⟩ K) : RGo C id l E wob i (o :: rest) ⟨tm, ob⟩ K := by
  subst hm
  have hdk : dstOK C o = true := by simp only [dstOK, hdst]; exact hd
  refine rgX (x := .ptr ob.length 0) (ob' := ob ++ [.var t (.cs (cs.map Cap.x))]) hne hg hdk (fun tm' hev => ?_) hw (by rw [hdst]; exact h)
  exact s_boxP (s := ⟨tm', ob⟩) ho ((hev y (by simp [ho, Op.operands])).trans hx) hdk
end
end Go.Abs

/- A call that is handed objects, in a drawn region whose floating operations may stand behind it. Conditions: the call's own contract. -/
namespace Go.Abs
open Go Go.RowKit
section
variable {C : Cx} {tm : List (Nat × X)} {ob : List AObj} {id : Nat} {l : List Oper} {E : List Nat} {wob : List AObj} {i : Nat} {rest : List Oper} {K : St → Prop} {o : Oper} {d : Nat}
end
end Go.Abs

/- Maps of the call's own: made, read, written. Conditions: keys that are integers, texts or truth values; nothing is taken out, and nobody ranges over them. -/
namespace Go.Abs
open Go Go.RowKit

section
variable {C : Cx} {s : St} {o : Oper}
end
section
variable {C : Cx} {K : St → Prop} {all : Array Oper} {pu : Bool} {rest : List Oper} {tm : List (Nat × X)} {ob : List AObj} {d : Nat} {o : Oper}
end
end Go.Abs

/- A part that stands at the front of a struct is read. Conditions: none. -/
namespace Go.Abs
open Go Go.RowKit

theorem WInv.recell {E : Env} {B : Base} {F : Nat → Prop} {σ : Sg} {ob : List AObj} {w : World} {k : Nat} {ty : TypeId} {vc : VC} (hi : WInv E B F σ ob w) (hk : ob[k]? = some (.var ty vc)) : WInv E B F σ (ob.set k (.var ty (.cs vc.cells))) w := by
  have hlt : k < ob.length := (List.getElem?_eq_some_iff.1 hk).1
  have hget : ∀ (i : Nat) (y : AObj), (ob.set k (.var ty (.cs vc.cells)))[i]? = some y → (i = k ∧ y = .var ty (.cs vc.cells)) ∨ ob[i]? = some y := by
    intro i y hy
    by_cases h : i = k
    · subst h
      rw [List.getElem?_set_self hlt] at hy
      cases hy
      exact .inl ⟨rfl, rfl⟩
    · rw [List.getElem?_set_ne (Ne.symm h)] at hy
      exact .inr hy
  have hliv : ∀ (i : Nat) (y : AObj), (ob.set k (.var ty (.cs vc.cells)))[i]? = some y → y.live = true → ∃ z, ob[i]? = some z ∧ z.live = true := by
    intro i y hy hl
    rcases hget i y hy with ⟨rfl, rfl⟩ | h
    · exact ⟨_, hk, rfl⟩
    · exact ⟨y, h, hl⟩
  refine ⟨hi.flt, hi.glob, by rw [List.length_set]; exact hi.len, fun o x p hx hp => ?_, fun o o' x x' p p' hne hx hlx hx' hlx' hp hp' => ?_, hi.pre⟩
  · rcases hget o x hx with ⟨rfl, rfl⟩ | hx
    · have hob := hi.obs o _ p hk hp
      obtain ⟨pb, pc, pn⟩ := p
      exact hob
    · exact hi.obs o x p hx hp
  · obtain ⟨z, hz, hzl⟩ := hliv o x hx hlx
    obtain ⟨z', hz', hzl'⟩ := hliv o' x' hx' hlx'
    exact hi.inj o o' z z' p p' hne hz hzl hz' hzl' hp hp'
section
variable {C : Cx} {s : St} {o : Oper} {p : Prop} {x : X}
theorem v_load0 {t : TypeId} {y : Operand} {k off : Nat} {ty : TypeId} {vc : VC} (ho : o.op = .load t y) (hy : s.ev C.E y = .ptr k off) (hob : s.ob[k]? = some (.var ty vc))
    (h : loadX C.E (s.ob.set k (.var ty (.cs vc.cells))) t (.ptr k off) = some (p, x)) : VOp C s o x := by
  refine VOp.pure_ fun F σ w a hi hr => ?_
  have h0 := hr y (by simp [ho, Op.operands])
  rw [hy] at h0
  obtain ⟨v, h1, h2⟩ := load_ok (hi.recell hob) h0 h
  exact ⟨v, by simp [execOp, ho, h1], h2⟩
theorem v_loadA {t : TypeId} {y : Operand} {z : D} (n : Nat) (ho : o.op = .load t y) (hy : s.ev C.E y = .at_ z 0)
    (h : loadX C.E s.ob t (.at_ (.agg (z.cells.take n)) 0) = some (p, x)) : VOp C s o x := by
  refine VOp.pure_ fun F σ w a hi hr => ?_
  have h0 := hr y (by simp [ho, Op.operands])
  rw [hy] at h0
  obtain ⟨ad, ⟨hF, hone, hm⟩, hv⟩ := h0
  have h0' : RdX w F σ (.at_ (.agg (z.cells.take n)) 0) (a.eval y) := by
    refine ⟨ad, ⟨hF, fun c hc => hone c (List.mem_of_mem_take hc), fun j c hj => hm j c ?_⟩, hv⟩
    have hj' : (z.cells.take n)[j]? = some c := hj
    rw [List.getElem?_take] at hj'
    split at hj'
    · exact hj'
    · cases hj'
  obtain ⟨v, h1, h2⟩ := load_ok hi h0' h
  exact ⟨v, by simp [execOp, ho, h1], h2⟩
end
section
variable {C : Cx} {all : Array Oper} {pu : Bool} {rest : List Oper} {tm : List (Nat × X)} {ob : List AObj} {K : St → Prop} {o : Oper} {d : Nat} {p : Prop} {x : X}
theorem go_load0 {t : TypeId} {y : Operand} {k off : Nat} {ty : TypeId} {vc : VC} (ho : o.op = .load t y) (hg : guardX all tm o = some true) (hdst : o.dst = some d) (hd : Nat.blt d C.N = true) (hy : (⟨tm, ob⟩ : St).ev C.E y = .ptr k off) (hob : ob[k]? = some (.var ty vc))
    (hl : loadX C.E (ob.set k (.var ty (.cs vc.cells))) t (.ptr k off) = some (p, x)) (h : SGo C all pu rest ⟨(d, x) :: tm, ob⟩ K) : SGo C all pu (o :: rest) ⟨tm, ob⟩ K :=
  go_vopG hg hdst hd (v_load0 ho hy hob hl) h
theorem go_loadA {t : TypeId} {y : Operand} {z : D} (n : Nat) (ho : o.op = .load t y) (hg : guardX all tm o = some true) (hdst : o.dst = some d) (hd : Nat.blt d C.N = true) (hy : (⟨tm, ob⟩ : St).ev C.E y = .at_ z 0)
    (hl : loadX C.E ob t (.at_ (.agg (z.cells.take n)) 0) = some (p, x)) (h : SGo C all pu rest ⟨(d, x) :: tm, ob⟩ K) : SGo C all pu (o :: rest) ⟨tm, ob⟩ K :=
  go_vopG hg hdst hd (v_loadA n ho hy hl) h
end
end Go.Abs

/- A part of a row of the call's own, as a slice: made, indexed, cleared. Conditions: each rule's own. -/
namespace Go.Abs
open Go Go.RowKit

section
variable {C : Cx} {s : St} {o : Oper} {x : X} {p : Prop}
/-- The bounds of a slice expression: what is left out reads from the row. -/
def loX : Option X → Option Nat
  | none => some 0
  | some (.d (.imm (.int _ (.ofNat i)))) => some i
  | _ => none
def hiX (n : Nat) : Option X → Option Nat
  | none => some n
  | some (.d (.imm (.int _ (.ofNat i)))) => some i
  | _ => none
theorem loX_run {a : Act} {w : World} {F : Nat → Prop} {σ : Sg} {lo : Option Operand} {l : Nat} (hlo : ∀ z, lo = some z → RdX w F σ (s.ev C.E z) (a.eval z)) (h : loX (lo.map (s.ev C.E)) = some l) : (lo = none ∧ l = 0) ∨ ∃ k, lo.map a.eval = some (.int k (l : Int)) := by
  cases lo with
  | none => simp [loX] at h; exact .inl ⟨rfl, h.symm⟩
  | some z =>
    right
    have hz := hlo z rfl
    simp only [Option.map_some] at h ⊢
    unfold loX at h
    split at h
    · cases ‹some _ = none›
    · rename_i k i hq
      cases h
      rw [Option.some.inj hq] at hz
      exact ⟨k, by rw [hz.imm_inv.1]; rfl⟩
    · cases h
theorem hiX_run {a : Act} {w : World} {F : Nat → Prop} {σ : Sg} {n : Nat} {lo : Option Operand} {l : Nat} (hlo : ∀ z, lo = some z → RdX w F σ (s.ev C.E z) (a.eval z)) (h : hiX n (lo.map (s.ev C.E)) = some l) : (lo = none ∧ l = n) ∨ ∃ k, lo.map a.eval = some (.int k (l : Int)) := by
  cases lo with
  | none => simp [hiX] at h; exact .inl ⟨rfl, h.symm⟩
  | some z =>
    right
    have hz := hlo z rfl
    simp only [Option.map_some] at h ⊢
    unfold hiX at h
    split at h
    · cases ‹some _ = none›
    · rename_i k i hq
      cases h
      rw [Option.some.inj hq] at hz
      exact ⟨k, by rw [hz.imm_inv.1]; rfl⟩
    · cases h
theorem v_sliceOwn {t : TypeId} {y : Operand} {lo hi : Option Operand} {te : TE} {k l h : Nat} {xs : List D} (ho : o.op = .slice t y lo hi none) (hy' : s.ev C.E y = .own k) (hob : s.ob[k]? = some (.row te.t te.size xs)) (hte : elemT C.E t = some te)
    (hl : loX (lo.map (s.ev C.E)) = some l) (hh : hiX xs.length (hi.map (s.ev C.E)) = some h) (h1 : l ≤ h) (h2 : h ≤ xs.length) : VOp C s o (.sub k l (h - l) te.size) := by
  obtain ⟨hu, hok⟩ := elemT_ok hte
  refine VOp.pure_ fun F σ w a hi' hr => ?_
  have hy := hr y (by simp [ho, Op.operands])
  have hlo := loX_run (C := C) (s := s) (a := a) (w := w) (F := F) (σ := σ) (fun z hz => hr z (by simp [ho, Op.operands, hz])) hl
  have hhi := hiX_run (C := C) (s := s) (a := a) (w := w) (F := F) (σ := σ) (fun z hz => hr z (by simp [ho, Op.operands, hz])) hh
  rw [hy'] at hy
  obtain ⟨b, c, n, p1, p2⟩ := hy
  obtain ⟨vs, q1, q2, q3, q4, q5, -⟩ := hi'.obs k _ _ hob p1
  have hmx : maxLen = 9223372036854775807 := rfl
  have hb : (Instr.sliceBounds true n c (lo.map a.eval) (hi.map a.eval) none).run C.E.P w = .ok (l, h, c) w := by
    have b1 : 0 ≤ (l : Int) ∧ (l : Int) ≤ (h : Nat) := ⟨by omega, by omega⟩
    have b2 : 0 ≤ (h : Int) ∧ (h : Int) ≤ (c : Nat) := ⟨by omega, by omega⟩
    rcases hlo with ⟨rfl, rfl⟩ | ⟨k1, e1⟩ <;> rcases hhi with ⟨rfl, rfl⟩ | ⟨k2, e2⟩
    · simp [Instr.sliceBounds, q3]
    · simp only [Option.map_none]
      rw [e2]
      simp [Instr.sliceBounds, sliceBound_run b2]
    · simp only [Option.map_none]
      rw [e1]
      have b1' : 0 ≤ (l : Int) ∧ (l : Int) ≤ (xs.length : Nat) := ⟨by omega, by omega⟩
      simp [Instr.sliceBounds, sliceBound_run b1', q3]
    · rw [e1, e2]
      simp [Instr.sliceBounds, sliceBound_run b1, sliceBound_run b2]
  have hrun := slice_run_sl (ad := ⟨b, 0, none⟩) hu hok rfl hb
  refine ⟨_, by simp only [execOp, ho, p2]; simp [hrun], b, c, n, p1, if c = l then ⟨b, 0, none⟩ else (⟨b, 0, none⟩ : Addr).add (l * te.size), ⟨by omega, by omega, ?_⟩, rfl⟩
  by_cases hcl : c = l
  · left; omega
  · right; rw [if_neg hcl, add_mk, Nat.zero_add]
theorem v_indexSub {t : TypeId} {y z : Operand} {kd : IntKind} {i : Int} {te : TE} {k lo n : Nat} (ho : o.op = .indexAddr t y z) (hy' : s.ev C.E y = .sub k lo n te.size) (hz' : s.ev C.E z = .d (.imm (.int kd i)))
    (hte : elemT C.E t = some te) (h0 : 0 ≤ i) (hlt : i < n) : VOp C s o (.pel k (lo + i.toNat) 0 te.size) := by
  obtain ⟨hu, hok⟩ := elemT_ok hte
  refine VOp.pure_ fun F σ w a hi hr => ?_
  have hy := hr y (by simp [ho, Op.operands])
  have hz := hr z (by simp [ho, Op.operands])
  rw [hy'] at hy
  rw [hz'] at hz
  obtain ⟨e2, -⟩ := Rd.imm_inv hz
  obtain ⟨b, c, m, p1, ad, ⟨-, -, hn⟩, p2⟩ := hy
  have had : ad = ⟨b, lo * te.size, none⟩ := by
    rcases hn with hn | hn
    · omega
    · exact hn
  subst had
  refine ⟨.pointer (some (⟨b, lo * te.size + i.toNat * te.size, none⟩)), ?_, b, c, m, p1, by rw [Nat.add_mul]; simp⟩
  have hlt' : 0 ≤ i ∧ i < (n : Int) := ⟨h0, hlt⟩
  simp [execOp, ho, p2, e2, Instr.indexAt, asIntOf, run_underlying hu, hlt', sizeOf_run hok, add_mk]
theorem s_clear {t : TypeId} {y : Operand} {te : TE} {k lo n : Nat} {xs : List D} {zd : D} (ho : o.op = .call { callee := .builtin .clear, args := #[y], argTypes := #[t] }) (hdst : o.dst = none) (hy' : s.ev C.E y = .sub k lo n te.size) (hob : s.ob[k]? = some (.row te.t te.size xs)) (hte : elemT C.E t = some te)
    (hzd : zeroD te = some zd) (h1z : oneAll te.zero.cells.toList = true) (hzs : te.zero.cells.size = te.size) (hle : lo + n ≤ xs.length) : SOp C s o (s.setOb k (.row te.t te.size (xs.take lo ++ List.replicate n zd ++ xs.drop (lo + n)))) := by
  obtain ⟨hu, hok⟩ := elemT_ok hte
  obtain ⟨hdesc, i0, hi0, hsize, hbytes, hzero⟩ := hok
  have hc := zeroD_cells hzd
  rintro w a K Q ⟨F, σ, h1, h2, h3, hi, h4, h5, hs⟩ hK
  have hp := ev_rd (E := C.E) hi hs y
  rw [hy'] at hp
  obtain ⟨b, cc, m, p1, ad, ⟨l1, -, had⟩, p2⟩ := hp
  obtain ⟨vs, q1, q2, q3, q4, q4', q5, q6, q7, q8, q9⟩ := hi.obs k _ _ hob p1
  have hzlen : (Builtin.zeroCells te.zero.cells n).toList.length = n * te.size := by simp [Builtin.zeroCells, hzs]
  have hz0 : ∀ w', CellsRd w' F te.zero.cells.toList zd.cells := fun w' => zeroDs_ok hc fun v hv => oneAll_ok h1z v hv
  have hdl : zd.cells.length = te.size := by rw [(hz0 w).len]; simpa using hzs
  have hone : ∀ v ∈ (Builtin.zeroCells te.zero.cells n).toList, v.oneCell' = true := by
    intro u hu'
    simp only [Builtin.zeroCells, Array.toList_map, Array.toList_range, List.mem_map, List.mem_range] at hu'
    obtain ⟨j, hj, rfl⟩ := hu'
    have hpos : 0 < te.zero.cells.size := by
      rcases Nat.eq_zero_or_pos te.zero.cells.size with h | h
      · rw [h] at hj; simp at hj
      · exact h
    have hlt : j % te.zero.cells.size < te.zero.cells.size := Nat.mod_lt _ hpos
    have : te.zero.cells[j % te.zero.cells.size]! ∈ te.zero.cells.toList := by
      rw [getElem!_pos te.zero.cells _ hlt]; exact Array.getElem_mem_toList hlt
    exact oneAll_ok h1z _ this
  have hroom : (lo + n) * te.size ≤ cc * te.size := Nat.mul_le_mul_right _ (by omega)
  rw [Nat.add_mul] at hroom
  have hrow := run_storeCells_at C.E.P b (lo * te.size) te.t (Builtin.zeroCells te.zero.cells n).toList 0 vs.toArray w q1 (by rw [hzlen]; simp; omega) hone
  have hrun : (execOp a.eval o).run C.E.P w = .ok (.value (.tuple #[])) (w.setRow b (vs.take (lo * te.size) ++ (Builtin.zeroCells te.zero.cells n).toList ++ vs.drop (lo * te.size + n * te.size)).toArray) := by
    rw [hzlen] at hrow
    simp only [Nat.add_zero] at hrow
    have hzv : (zeroValue te.t).run C.E.P w = .ok te.zero w := by simp [zeroValue, typeInfo, hi0, hzero]
    rcases Nat.eq_zero_or_pos n with rfl | hn
    · have : (w.setRow b (vs.take (lo * te.size) ++ (Builtin.zeroCells te.zero.cells 0).toList ++ vs.drop (lo * te.size + 0 * te.size)).toArray) = w := by
        have e0 : (Builtin.zeroCells te.zero.cells 0).toList = [] := List.length_eq_zero_iff.1 (by rw [hzlen, Nat.zero_mul])
        rw [e0, List.append_nil, Nat.zero_mul, Nat.add_zero, List.take_append_drop]
        exact setRow_self w b vs.toArray te.t (0, 0) q1
      rw [this]
      simp [execOp, ho, resolve, invoke, builtin, p2, Builtin.clear_, run_underlying hu]
    · have had' : ad = ⟨b, lo * te.size, none⟩ := by
        rcases had with h | h
        · omega
        · exact h
      subst had'
      obtain ⟨n', rfl⟩ : ∃ n', n = n' + 1 := ⟨n - 1, by omega⟩
      simp [execOp, ho, resolve, invoke, builtin, p2, Builtin.clear_, run_underlying hu, hzv, hrow]
  unfold Oper.wp
  rw [hrun]
  simp only [Oper.upon]
  rw [hdst]
  refine hK _ _ ⟨F, σ, h1.setRow (by assumption) _, h2, h3, ?_, h4, h5, fun t => (hs t).mono (fun _ h => h) (fun k hk => setRow_other w b _ k (fun e => q9 (e ▸ hk))) (fun _ _ h => h)⟩
  refine hi.turn hob rfl p1 q9 ?_
  have keep : ∀ k, F k → (w.setRow b (vs.take (lo * te.size) ++ (Builtin.zeroCells te.zero.cells n).toList ++ vs.drop (lo * te.size + n * te.size)).toArray).heap[k]? = w.heap[k]? := fun k hk => setRow_other w b _ k (fun e => q9 (e ▸ hk))
  have hvl : vs.length = cc * te.size := q2
  have hmem : ∀ x, x ∈ xs.take lo ++ List.replicate n zd ++ xs.drop (lo + n) → x ∈ xs ∨ x = zd := by
    intro x hx
    rw [List.mem_append, List.mem_append] at hx
    rcases hx with (hx | hx) | hx
    · exact .inl (List.mem_of_mem_take hx)
    · exact .inr (List.mem_replicate.1 hx).2
    · exact .inl (List.mem_of_mem_drop hx)
  refine ⟨_, setRow_heap w b vs.toArray _ te.t _ q1, ?_, ?_, q4, q4', fun u hu' => ?_, fun u hu' c hcu => ?_, fun i u j cd hu' hcu => ?_, q8, q9⟩
  · simp only [List.length_append, List.length_take, List.length_drop, hzlen, hvl]
    omega
  · simp only [List.length_append, List.length_take, List.length_drop, List.length_replicate]
    omega
  · rcases hmem u hu' with h | rfl
    · exact q5 u h
    · exact hdl
  · rcases hmem u hu' with h | rfl
    · exact q6 u h c hcu
    · obtain ⟨j, hj⟩ := List.getElem?_of_mem hcu
      have hlt : j < te.zero.cells.toList.length := by rw [← (hz0 w).len]; exact (List.getElem?_eq_some_iff.1 hj).1
      obtain ⟨d', e1, e2⟩ := (hz0 w).rd j _ (List.getElem?_eq_getElem hlt)
      rw [hj] at e1
      cases e1
      exact e2.one_of ((hz0 w).one _ (List.getElem_mem hlt))
  · have hj : j < te.size := by
      have : u.cells.length = te.size := by
        rcases hmem u (List.mem_of_getElem? hu') with h | rfl
        · exact q5 u h
        · exact hdl
      rw [← this]; exact (List.getElem?_eq_some_iff.1 hcu).1
    have e1 : (vs.take (lo * te.size)).length = lo * te.size := by rw [List.length_take]; omega
    have e2 : (xs.take lo).length = lo := by rw [List.length_take]; omega
    rcases Nat.lt_or_ge i lo with hlt | hge
    · rw [List.append_assoc, List.getElem?_append_left (by omega), List.getElem?_take, if_pos hlt] at hu'
      obtain ⟨v, r1, r2⟩ := q7 i u j cd hu' hcu
      have hm : (i + 1) * te.size ≤ lo * te.size := Nat.mul_le_mul_right _ hlt
      rw [Nat.add_mul, Nat.one_mul] at hm
      refine ⟨v, ?_, r2.mono (fun _ h => h) keep⟩
      rw [List.append_assoc, List.getElem?_append_left (by omega), List.getElem?_take, if_pos (by omega)]
      exact r1
    · rw [List.append_assoc, List.getElem?_append_right (by omega), e2] at hu'
      have hm : lo * te.size ≤ i * te.size := Nat.mul_le_mul_right _ hge
      rcases Nat.lt_or_ge (i - lo) n with hlt2 | hge2
      · rw [List.getElem?_append_left (by simpa using hlt2), List.getElem?_replicate, if_pos hlt2] at hu'
        cases hu'
        have hlt : j < te.zero.cells.toList.length := by simpa [hzs] using hj
        obtain ⟨d', e3, e4⟩ := (hz0 w).rd j _ (List.getElem?_eq_getElem hlt)
        rw [hcu] at e3
        cases e3
        refine ⟨_, ?_, (e4.mono (fun _ h => h) keep)⟩
        have hm2 : (i + 1) * te.size ≤ (lo + n) * te.size := Nat.mul_le_mul_right _ (by omega)
        rw [Nat.add_mul, Nat.add_mul, Nat.one_mul] at hm2
        rw [List.append_assoc, List.getElem?_append_right (by omega), e1, List.getElem?_append_left (by rw [hzlen]; omega)]
        have hjj : j < te.zero.cells.size := by simpa using hlt
        have hsub : i * te.size + j - lo * te.size = (i - lo) * te.size + j := by rw [Nat.sub_mul]; omega
        have hmod : ((i - lo) * te.size + j) % te.zero.cells.size = j := by rw [hzs]; exact (div_idx hj).2
        have hin : (i - lo) * te.size + j < n * te.zero.cells.size := by rw [hzs]; exact mul_idx hlt2 hj
        rw [hsub]
        simp only [Builtin.zeroCells, Array.toList_map, Array.toList_range, List.getElem?_map, List.getElem?_range hin, Option.map_some, hmod]
        simp [hjj]
      · rw [List.getElem?_append_right (by simpa using hge2), List.length_replicate, List.getElem?_drop] at hu'
        obtain ⟨v, r1, r2⟩ := q7 _ u j cd hu' hcu
        refine ⟨v, ?_, r2.mono (fun _ h => h) keep⟩
        have hm2 : (lo + n) * te.size ≤ i * te.size := Nat.mul_le_mul_right _ (by omega)
        rw [Nat.add_mul] at hm2
        rw [List.append_assoc, List.getElem?_append_right (by omega), e1, List.getElem?_append_right (by rw [hzlen]; omega), hzlen, List.getElem?_drop, ← r1]
        congr 1
        rw [show lo + n + (i - lo - n) = i by omega]
        omega
end
section
variable {C : Cx} {all : Array Oper} {pu : Bool} {rest : List Oper} {tm : List (Nat × X)} {ob : List AObj} {K : St → Prop} {o : Oper} {d : Nat} {p : Prop} {x : X}
theorem go_sliceOwn {t : TypeId} {y : Operand} {lo hi : Option Operand} {te : TE} {k l h : Nat} {xs : List D} (ho : o.op = .slice t y lo hi none) (hg : guardX all tm o = some true) (hdst : o.dst = some d) (hd : Nat.blt d C.N = true) (hy' : (⟨tm, ob⟩ : St).ev C.E y = .own k)
    (hte : elemT C.E t = some te) (hob : ob[k]? = some (.row te.t te.size xs)) (hl : loX (lo.map ((⟨tm, ob⟩ : St).ev C.E)) = some l) (hh : hiX xs.length (hi.map ((⟨tm, ob⟩ : St).ev C.E)) = some h) (h12 : l ≤ h ∧ h ≤ xs.length)
    (hgo : SGo C all pu rest ⟨(d, .sub k l (h - l) te.size) :: tm, ob⟩ K) : SGo C all pu (o :: rest) ⟨tm, ob⟩ K :=
  go_vopG hg hdst hd (v_sliceOwn ho hy' hob hte hl hh h12.1 h12.2) hgo
theorem go_indexSub {t : TypeId} {y z : Operand} {kd : IntKind} {i : Int} {te : TE} {k lo n : Nat} (ho : o.op = .indexAddr t y z) (hg : guardX all tm o = some true) (hdst : o.dst = some d) (hd : Nat.blt d C.N = true) (hte : elemT C.E t = some te) (hy' : (⟨tm, ob⟩ : St).ev C.E y = .sub k lo n te.size) (hz' : (⟨tm, ob⟩ : St).ev C.E z = .d (.imm (.int kd i)))
    (h0 : 0 ≤ i ∧ i < n) (hgo : SGo C all pu rest ⟨(d, .pel k (lo + i.toNat) 0 te.size) :: tm, ob⟩ K) : SGo C all pu (o :: rest) ⟨tm, ob⟩ K :=
  go_vopG hg hdst hd (v_indexSub ho hy' hz' hte h0.1 h0.2) hgo
theorem go_clear {t : TypeId} {y : Operand} {te : TE} {k lo n : Nat} {xs : List D} {zd : D} (ho : o.op = .call { callee := .builtin .clear, args := #[y], argTypes := #[t] }) (hg : guardX all tm o = some true) (hdst : o.dst = none) (hy' : (⟨tm, ob⟩ : St).ev C.E y = .sub k lo n te.size) (hte : elemT C.E t = some te) (hob : ob[k]? = some (.row te.t te.size xs))
    (hzd : zeroD te = some zd) (h1z : oneAll te.zero.cells.toList = true) (hzs : te.zero.cells.size = te.size) (hle : lo + n ≤ xs.length) (hgo : SGo C all false rest ⟨tm, ob.set k (.row te.t te.size (xs.take lo ++ List.replicate n zd ++ xs.drop (lo + n)))⟩ K) : SGo C all false (o :: rest) ⟨tm, ob⟩ K :=
  SGo.eff (guardX_ok hg) (s_clear ho hdst hy' hob hte hzd h1z hzs hle) hgo
end
end Go.Abs

/- A word without sign halved by a shift. Conditions: the word fits. -/
namespace Go.Abs
open Go Go.RowKit
section
variable {C : Cx} {K : St → Prop} {all : Array Oper} {rest : List Oper} {tm : List (Nat × X)} {ob : List AObj} {d : Nat} {pu : Bool} {o : Oper}
theorem go_half {t u : TypeId} {y z : Operand} {k : IntKind} {m : Int} (h : Int) (ho : o.op = .binOp .shr t y z u) (hg : guardX all tm o = some true) (hdst : o.dst = some d) (hd : Nat.blt d C.N = true) (hy : (⟨tm, ob⟩ : St).ev C.E y = .d (.imm (.int .u64 m)))
    (hz : (⟨tm, ob⟩ : St).ev C.E z = .d (.imm (.int k 1))) (he : m / 2 = h) (h0 : 0 ≤ m) (h1 : m < 18446744073709551616) (hn : SGo C all pu rest ⟨(d, .d (.imm (.int .u64 h))) :: tm, ob⟩ K) : SGo C all pu (o :: rest) ⟨tm, ob⟩ K := by
  obtain ⟨a, rfl⟩ := Int.eq_ofNat_of_zero_le h0
  have e : h = ((a / 2 ^ 1 : Nat) : Int) := by omega
  refine go_vopG hg hdst hd (v_binR ho hy hz (by simp) (by simp) (fun w => ?_) (inR_ok (k := .u64) (by simp only [inR]; omega))) hn
  rw [e]
  exact u64_shr a 1 (by omega) w
end
end Go.Abs

/- An element's place in an array that lies in a variable; a field of a struct at hand. Conditions: the index is within the array; the field fills one cell. -/
namespace Go.Abs
open Go Go.RowKit
section
variable {C : Cx} {s : St} {o : Oper}
end
/-- Where a field of one cell stands. -/
def fieldOne (E : Env) (t : TypeId) (f : Nat) : Option Nat :=
  match findT E.T t with
  | some e => (match e.desc with
    | .struct fs => (match fs[f]? with
      | some fd => (match findT E.T fd.type with | some e2 => bif e2.isAgg then none else some fd.offset | none => none)
      | none => none)
    | _ => none)
  | none => none
theorem fieldOne_ok {E : Env} {t : TypeId} {f k : Nat} (h : fieldOne E t f = some k) : ∃ (fs : Array Field) (fd : Field) (e2 : TE), E.P.underlying t = some (.struct fs) ∧ fs[f]? = some fd ∧ fd.offset = k ∧ e2.ok E.P ∧ e2.t = fd.type ∧ e2.isAgg = false := by
  unfold fieldOne at h
  split at h
  · rename_i e he
    obtain ⟨⟨h1, -⟩, rfl⟩ := findT_ok he
    split at h
    · rename_i fs hd
      split at h
      · rename_i fd hfd
        split at h
        · rename_i e2 he2
          obtain ⟨h2, h3⟩ := findT_ok he2
          cases hb : e2.isAgg with
          | true => rw [hb] at h; cases h
          | false =>
            rw [hb] at h
            exact ⟨fs, fd, e2, by rw [h1, hd], hfd, Option.some.inj h, h2, h3, hb⟩
        · cases h
      · cases h
    · cases h
  · cases h
section
variable {C : Cx} {s : St} {o : Oper}
theorem v_field {t : TypeId} {y : Operand} {f k : Nat} {cs : List D} {x : D} (ho : o.op = .field t y f) (hy' : s.ev C.E y = .d (.agg cs)) (hf : fieldOne C.E t f = some k) (hc : cs[k]? = some x) : VOp C s o (.d x) := by
  obtain ⟨fs, fd, e2, h1, h2, h3, h4, h5, h6⟩ := fieldOne_ok hf
  refine VOp.pure_ fun F σ w a hi hr => ?_
  have hy := hr y (by simp [ho, Op.operands])
  rw [hy'] at hy
  obtain ⟨vs, e1, hl, -, hr1⟩ := Rd.agg_inv hy
  have hlt : k < vs.length := by rw [← hl]; exact (List.getElem?_eq_some_iff.1 hc).1
  have hv := List.getElem?_eq_getElem hlt
  have hag := isAgg_run (w := w) h4
  rw [h5, h6] at hag
  refine ⟨vs[k], ?_, hr1 _ _ _ hc hv⟩
  simp only [execOp, ho, e1, Instr.field, Sem.run_bind, run_underlying h1, Result.andThen_ok, h2, asAgg, part, hag, Sem.run_pure, Bool.false_eq_true, if_false, h3, List.getElem?_toArray, hv]
end
section
variable {C : Cx} {all : Array Oper} {pu : Bool} {K : St → Prop} {rest : List Oper} {tm : List (Nat × X)} {ob : List AObj} {d : Nat} {o : Oper}
theorem go_field {t : TypeId} {y : Operand} {f k : Nat} {cs : List D} {x : D} (ho : o.op = .field t y f) (hg : guardX all tm o = some true) (hdst : o.dst = some d) (hd : Nat.blt d C.N = true) (hy : (⟨tm, ob⟩ : St).ev C.E y = .d (.agg cs)) (hf : fieldOne C.E t f = some k) (hc : cs[k]? = some x)
    (h : SGo C all pu rest ⟨(d, .d x) :: tm, ob⟩ K) : SGo C all pu (o :: rest) ⟨tm, ob⟩ K := go_vopG hg hdst hd (v_field ho hy hf hc) h
end
end Go.Abs

/- An append of nothing to a row of the call's own. Conditions: none. -/
namespace Go.Abs
open Go Go.RowKit
section
variable {C : Cx} {s : St} {o : Oper}
theorem v_append0o {t t' : TypeId} {y z : Operand} {te : TE} {e' : TypeId} {k : Nat} {xs : List D} (ho : o.op = .call { callee := .builtin .append, args := #[y, z], argTypes := #[t, t'] }) (hte : elemT C.E t = some te) (hd' : descOf C.E t' = some (.slice e'))
    (hy' : s.ev C.E y = .own k) (hob : s.ob[k]? = some (.row te.t te.size xs)) (hz' : s.ev C.E z = .d (.sl [])) : VOp C s o (.own k) := by
  obtain ⟨hu, hok⟩ := elemT_ok hte
  refine VOp.pure_ fun F σ w a hi hr => ?_
  have hy := hr y (by simp [ho, Op.operands, Call.operands])
  have hz := hr z (by simp [ho, Op.operands, Call.operands])
  rw [hy'] at hy
  rw [hz'] at hz
  have key : ∀ v, (Builtin.append_ #[t, t'] o.type #[a.eval y, a.eval z]).run C.E.P w = .ok v w → (execOp a.eval o).run C.E.P w = .ok (.value v) w := by
    intro v hv
    simp [execOp, ho, resolve, invoke, builtin, hv]
  have hzv : ∃ zb zc, a.eval z = .slice zb 0 zc := by
    rcases Rd.sl_inv hz with ⟨-, e⟩ | ⟨_, ad, cap, e, -⟩
    · exact ⟨_, _, e⟩
    · exact ⟨_, _, e⟩
  obtain ⟨zb, zc, ez⟩ := hzv
  refine ⟨a.eval y, key _ ?_, hy⟩
  obtain ⟨b, c, n, p1, p2⟩ := hy
  obtain ⟨vs, q1, q2, q3, q4, -⟩ := hi.obs k _ _ hob p1
  rw [p2, ez]
  exact append0_run hu hok (descOf_ok hd') q4
end
section
variable {C : Cx} {all : Array Oper} {pu : Bool} {K : St → Prop} {rest : List Oper} {tm : List (Nat × X)} {ob : List AObj} {d : Nat} {o : Oper}
theorem go_append0o {t t' : TypeId} {y z : Operand} {te : TE} {e' : TypeId} {k : Nat} {xs : List D} (ho : o.op = .call { callee := .builtin .append, args := #[y, z], argTypes := #[t, t'] })
    (hg : guardX all tm o = some true) (hdst : o.dst = some d) (hd : Nat.blt d C.N = true) (hte : elemT C.E t = some te) (hd' : descOf C.E t' = some (.slice e')) (hy' : (⟨tm, ob⟩ : St).ev C.E y = .own k) (hob : ob[k]? = some (.row te.t te.size xs)) (hz' : (⟨tm, ob⟩ : St).ev C.E z = .d (.sl []))
    (h : SGo C all pu rest ⟨(d, .own k) :: tm, ob⟩ K) : SGo C all pu (o :: rest) ⟨tm, ob⟩ K :=
  go_vopG hg hdst hd (v_append0o ho hte hd' hy' hob hz') h
end
end Go.Abs

/- Values as plain trees, how they are written as data, and what the functions of layers 1, 3 and 4 come to. Conditions: none; plain definitions and lemmas. -/
namespace Go.Val
open Go Go.Abs

/-- A value: its kind, its two numbers, its string, its elements. -/
inductive V where
  | mk (k n d : Int) (s : ByteArray) (l : List V)
  deriving Inhabited
def V.k : V → Int | .mk k _ _ _ _ => k
def V.n : V → Int | .mk _ n _ _ _ => n
def V.d : V → Int | .mk _ _ d _ _ => d
def V.s : V → ByteArray | .mk _ _ _ s _ => s
def V.l : V → List V | .mk _ _ _ _ l => l
theorem V.eta (v : V) : V.mk v.k v.n v.d v.s v.l = v := by cases v; rfl

mutual
def kids : V → List D
  | .mk _ _ _ _ l => encL l
def encL : List V → List D
  | [] => []
  | v :: r => .agg [.int v.k, .int v.n, .int v.d, .str v.s, .sl (kids v)] :: encL r
end
def enc (v : V) : D := .agg [.int v.k, .int v.n, .int v.d, .str v.s, .sl (kids v)]
theorem encL_map (l : List V) : encL l = l.map enc := by
  induction l with
  | nil => simp [encL]
  | cons v r ih => simp [encL, ih, enc]
theorem kids_eq (v : V) : kids v = v.l.map enc := by
  cases v
  simp [kids, encL_map, V.l]
theorem kids_get {v : V} {i : Nat} {x : V} (h : v.l[i]? = some x) : (kids v)[i]? = some (enc x) := by
  rw [kids_eq, List.getElem?_map, h]; rfl
theorem encL_get {l : List V} {i : Nat} {x : V} (h : l[i]? = some x) : (encL l)[i]? = some (enc x) := by
  rw [encL_map, List.getElem?_map, h]; rfl
theorem kids_len (v : V) : (kids v).length = v.l.length := by rw [kids_eq]; simp
theorem encL_len (l : List V) : (encL l).length = l.length := by rw [encL_map]; simp
def encR (l : List (List V)) : List D := l.map fun r => .sl (encL r)

theorem fit_enc {v : V} (h : Fit (enc v)) : inR .i64 v.k ∧ inR .i64 v.n ∧ inR .i64 v.d ∧ v.s.size ≤ 9223372036854775807 ∧ v.l.length ≤ 9223372036854775807 ∧ ∀ x ∈ v.l, Fit (enc x) := by
  have hc := h.aggs
  have h5 := (hc (.sl (kids v)) (by simp)).sls
  rw [kids_len] at h5
  refine ⟨(hc (.int v.k) (by simp)).int, (hc (.int v.n) (by simp)).int, (hc (.int v.d) (by simp)).int, (hc (.str v.s) (by simp)).str, h5.1, fun x hx => h5.2 _ ?_⟩
  rw [kids_eq]
  exact List.mem_map_of_mem hx
theorem fit_encL {l : List V} (h : Fit (.sl (encL l))) : l.length ≤ 9223372036854775807 ∧ ∀ x ∈ l, Fit (enc x) := by
  have h5 := h.sls
  rw [encL_len] at h5
  refine ⟨h5.1, fun x hx => h5.2 _ ?_⟩
  rw [encL_map]
  exact List.mem_map_of_mem hx
/-! ## Layer 1 and layer 3 -/
def inM (n : Int) : Bool := decide (n ≥ -1000000000000000) && decide (n ≤ 1000000000000000)
theorem inM_iff (n : Int) : inM n = true ↔ -1000000000000000 ≤ n ∧ n ≤ 1000000000000000 := by simp [inM]
def gcdF (a b : Int) : Int := bif inM a && inM b then (Int.gcd a b : Int) else 0
def fval (n d : Int) : Bool := decide (d ≥ 1) && (decide (d ≤ 1000000000000000) && (inM n && ((Int.gcd n d : Int) == 1)))
/-! ## Layer 4: Kleene's logic -/
def tt (b : Bool) : Int := bif b then 2 else 0
def vInt (n : Int) : V := .mk 2 n 0 ⟨#[]⟩ []
def vRat (n d : Int) : V := bif d == 1 then vInt n else .mk 3 n d ⟨#[]⟩ []
def vNull : V := .mk 0 0 0 ⟨#[]⟩ []
/-! ## Which values are valid -/
def s0 (s : ByteArray) : Bool := s.toList == (⟨#[]⟩ : ByteArray).toList
def strOK (s : ByteArray) : Bool := s.data.toList.all (fun b => !(decide (b.toNat < 32) || decide (b.toNat > 126))) && decide (s.size ≤ 100)
def okFlat (v : V) : Bool :=
  (v.k == 0 && (v.d == 0 && s0 v.s && v.l.length == 0) && v.n == 0) ||
  (v.k == 1 && (v.d == 0 && s0 v.s && v.l.length == 0) && (v.n == 0 || v.n == 1)) ||
  (v.k == 2 && (v.d == 0 && s0 v.s && v.l.length == 0) && inM v.n) ||
  (v.k == 3 && (s0 v.s && v.l.length == 0) && (decide (v.d ≥ 2) && fval v.n v.d)) ||
  (v.k == 4 && (v.d == 0 && v.l.length == 0) && (v.n == 0 && strOK v.s)) ||
  ((v.k == 5 || v.k == 6) && (v.d == 0 && s0 v.s && v.l.length == 0) && (decide (v.n ≥ 1) && decide (v.n ≤ 1000000)))
def okStep (i : Nat) (v : V) : Bool := v.k == (bif i % 2 == 0 then 5 else 6) && okFlat v
def okSteps : Nat → List V → Bool
  | _, [] => true
  | i, v :: r => okStep i v && okSteps (i + 1) r
def okPath (l : List V) : Bool := l.length % 2 == 1 && decide (l.length ≤ 25) && okSteps 0 l
/-- Valid where so many more lists may be nested. -/
def okN : Nat → V → Bool
  | 0, v => okFlat v || (v.k == 7 && (v.d == 0 && s0 v.s) && (v.n == 0 && okPath v.l))
  | m + 1, v => okFlat v || (v.k == 7 && (v.d == 0 && s0 v.s) && (v.n == 0 && okPath v.l)) || (v.k == 8 && (v.d == 0 && s0 v.s) && (v.n == 0 && decide (v.l.length ≤ 64) && v.l.all (okN m)))
def okV (v : V) : Bool := okN 8 v
def isNum (v : V) : Bool := (v.k == 2 || v.k == 3) && okV v
def numN (v : V) : Int := bif isNum v then v.n else 0
def numD (v : V) : Int := bif isNum v then (bif v.k == 2 then 1 else v.d) else 0
end Go.Val

/- The table of the seat's types and listed variables, off the loaded program. Conditions: none. -/
namespace Go.Proofs.YtjgmakalledclaaGreatDoor
open Go Go.Abs
set_option maxRecDepth 100000
def te3 : TE := { t := 3, desc := Go.TypeDesc.int Go.IntKind.i64, size := 1, bytes := 8, zero := Go.Value.int Go.IntKind.i64 0 }
def te4 : TE := { t := 4, desc := Go.TypeDesc.bool, size := 1, bytes := 1, zero := Go.Value.bool false }
def te9 : TE := { t := 9, desc := Go.TypeDesc.string, size := 1, bytes := 16, zero := Go.Value.string { data := #[] } }
def te34 : TE := { t := 34, desc := Go.TypeDesc.struct #[{ name := "Kind", type := 3, offset := 0, embedded := false, tag := "", pkgPath := "", byteOffset := 0 }, { name := "N", type := 3, offset := 1, embedded := false, tag := "", pkgPath := "", byteOffset := 8 }, { name := "D", type := 3, offset := 2, embedded := false, tag := "", pkgPath := "", byteOffset := 16 }, { name := "S", type := 9, offset := 3, embedded := false, tag := "", pkgPath := "", byteOffset := 24 }, { name := "L", type := 22, offset := 4, embedded := false, tag := "", pkgPath := "", byteOffset := 40 }], size := 5, bytes := 64, zero := Go.Value.agg #[Go.Value.int Go.IntKind.i64 0, Go.Value.int Go.IntKind.i64 0, Go.Value.int Go.IntKind.i64 0, Go.Value.string { data := #[] }, Go.Value.slice Option.none 0 0] }
def te35 : TE := { t := 35, desc := Go.TypeDesc.struct #[{ name := "Kind", type := 3, offset := 0, embedded := false, tag := "", pkgPath := "", byteOffset := 0 }, { name := "N", type := 3, offset := 1, embedded := false, tag := "", pkgPath := "", byteOffset := 8 }, { name := "D", type := 3, offset := 2, embedded := false, tag := "", pkgPath := "", byteOffset := 16 }, { name := "S", type := 9, offset := 3, embedded := false, tag := "", pkgPath := "", byteOffset := 24 }, { name := "L", type := 22, offset := 4, embedded := false, tag := "", pkgPath := "", byteOffset := 40 }], size := 5, bytes := 64, zero := Go.Value.agg #[Go.Value.int Go.IntKind.i64 0, Go.Value.int Go.IntKind.i64 0, Go.Value.int Go.IntKind.i64 0, Go.Value.string { data := #[] }, Go.Value.slice Option.none 0 0] }
def te40 : TE := { t := 40, desc := Go.TypeDesc.struct #[{ name := "Nodes", type := 38, offset := 0, embedded := false, tag := "", pkgPath := "", byteOffset := 0 }, { name := "Edges", type := 39, offset := 1, embedded := false, tag := "", pkgPath := "", byteOffset := 24 }, { name := "NextNode", type := 3, offset := 2, embedded := false, tag := "", pkgPath := "", byteOffset := 48 }, { name := "NextEdge", type := 3, offset := 3, embedded := false, tag := "", pkgPath := "", byteOffset := 56 }], size := 4, bytes := 64, zero := Go.Value.agg #[Go.Value.slice Option.none 0 0, Go.Value.slice Option.none 0 0, Go.Value.int Go.IntKind.i64 0, Go.Value.int Go.IntKind.i64 0] }
def te41 : TE := { t := 41, desc := Go.TypeDesc.struct #[{ name := "Nodes", type := 38, offset := 0, embedded := false, tag := "", pkgPath := "", byteOffset := 0 }, { name := "Edges", type := 39, offset := 1, embedded := false, tag := "", pkgPath := "", byteOffset := 24 }, { name := "NextNode", type := 3, offset := 2, embedded := false, tag := "", pkgPath := "", byteOffset := 48 }, { name := "NextEdge", type := 3, offset := 3, embedded := false, tag := "", pkgPath := "", byteOffset := 56 }], size := 4, bytes := 64, zero := Go.Value.agg #[Go.Value.slice Option.none 0 0, Go.Value.slice Option.none 0 0, Go.Value.int Go.IntKind.i64 0, Go.Value.int Go.IntKind.i64 0] }
def te44 : TE := { t := 44, desc := Go.TypeDesc.struct #[{ name := "Cols", type := 43, offset := 0, embedded := false, tag := "", pkgPath := "", byteOffset := 0 }, { name := "Rows", type := 25, offset := 1, embedded := false, tag := "", pkgPath := "", byteOffset := 24 }], size := 2, bytes := 48, zero := Go.Value.agg #[Go.Value.slice Option.none 0 0, Go.Value.slice Option.none 0 0] }
def te45 : TE := { t := 45, desc := Go.TypeDesc.struct #[{ name := "Cols", type := 43, offset := 0, embedded := false, tag := "", pkgPath := "", byteOffset := 0 }, { name := "Rows", type := 25, offset := 1, embedded := false, tag := "", pkgPath := "", byteOffset := 24 }], size := 2, bytes := 48, zero := Go.Value.agg #[Go.Value.slice Option.none 0 0, Go.Value.slice Option.none 0 0] }
def te51 : TE := { t := 51, desc := Go.TypeDesc.struct #[{ name := "Op", type := 3, offset := 0, embedded := false, tag := "", pkgPath := "", byteOffset := 0 }, { name := "V", type := 35, offset := 1, embedded := false, tag := "", pkgPath := "", byteOffset := 8 }, { name := "Name", type := 9, offset := 6, embedded := false, tag := "", pkgPath := "", byteOffset := 72 }, { name := "Distinct", type := 4, offset := 7, embedded := false, tag := "", pkgPath := "", byteOffset := 88 }, { name := "Kids", type := 50, offset := 8, embedded := false, tag := "", pkgPath := "", byteOffset := 96 }], size := 9, bytes := 120, zero := Go.Value.agg #[Go.Value.int Go.IntKind.i64 0, Go.Value.int Go.IntKind.i64 0, Go.Value.int Go.IntKind.i64 0, Go.Value.int Go.IntKind.i64 0, Go.Value.string { data := #[] }, Go.Value.slice Option.none 0 0, Go.Value.string { data := #[] }, Go.Value.bool false, Go.Value.slice Option.none 0 0] }
def te52 : TE := { t := 52, desc := Go.TypeDesc.struct #[{ name := "Op", type := 3, offset := 0, embedded := false, tag := "", pkgPath := "", byteOffset := 0 }, { name := "V", type := 35, offset := 1, embedded := false, tag := "", pkgPath := "", byteOffset := 8 }, { name := "Name", type := 9, offset := 6, embedded := false, tag := "", pkgPath := "", byteOffset := 72 }, { name := "Distinct", type := 4, offset := 7, embedded := false, tag := "", pkgPath := "", byteOffset := 88 }, { name := "Kids", type := 50, offset := 8, embedded := false, tag := "", pkgPath := "", byteOffset := 96 }], size := 9, bytes := 120, zero := Go.Value.agg #[Go.Value.int Go.IntKind.i64 0, Go.Value.int Go.IntKind.i64 0, Go.Value.int Go.IntKind.i64 0, Go.Value.int Go.IntKind.i64 0, Go.Value.string { data := #[] }, Go.Value.slice Option.none 0 0, Go.Value.string { data := #[] }, Go.Value.bool false, Go.Value.slice Option.none 0 0] }
def te53 : TE := { t := 53, desc := Go.TypeDesc.struct #[{ name := "E", type := 52, offset := 0, embedded := false, tag := "", pkgPath := "", byteOffset := 0 }, { name := "As", type := 9, offset := 9, embedded := false, tag := "", pkgPath := "", byteOffset := 120 }], size := 10, bytes := 136, zero := Go.Value.agg #[Go.Value.int Go.IntKind.i64 0, Go.Value.int Go.IntKind.i64 0, Go.Value.int Go.IntKind.i64 0, Go.Value.int Go.IntKind.i64 0, Go.Value.string { data := #[] }, Go.Value.slice Option.none 0 0, Go.Value.string { data := #[] }, Go.Value.bool false, Go.Value.slice Option.none 0 0, Go.Value.string { data := #[] }] }
def te54 : TE := { t := 54, desc := Go.TypeDesc.struct #[{ name := "E", type := 52, offset := 0, embedded := false, tag := "", pkgPath := "", byteOffset := 0 }, { name := "As", type := 9, offset := 9, embedded := false, tag := "", pkgPath := "", byteOffset := 120 }], size := 10, bytes := 136, zero := Go.Value.agg #[Go.Value.int Go.IntKind.i64 0, Go.Value.int Go.IntKind.i64 0, Go.Value.int Go.IntKind.i64 0, Go.Value.int Go.IntKind.i64 0, Go.Value.string { data := #[] }, Go.Value.slice Option.none 0 0, Go.Value.string { data := #[] }, Go.Value.bool false, Go.Value.slice Option.none 0 0, Go.Value.string { data := #[] }] }
def te57 : TE := { t := 57, desc := Go.TypeDesc.struct #[{ name := "N", type := 3, offset := 0, embedded := false, tag := "", pkgPath := "", byteOffset := 0 }, { name := "D", type := 3, offset := 1, embedded := false, tag := "", pkgPath := "", byteOffset := 8 }], size := 2, bytes := 16, zero := Go.Value.agg #[Go.Value.int Go.IntKind.i64 0, Go.Value.int Go.IntKind.i64 0] }
def te58 : TE := { t := 58, desc := Go.TypeDesc.struct #[{ name := "N", type := 3, offset := 0, embedded := false, tag := "", pkgPath := "", byteOffset := 0 }, { name := "D", type := 3, offset := 1, embedded := false, tag := "", pkgPath := "", byteOffset := 8 }], size := 2, bytes := 16, zero := Go.Value.agg #[Go.Value.int Go.IntKind.i64 0, Go.Value.int Go.IntKind.i64 0] }
def te83 : TE := { t := 83, desc := Go.TypeDesc.struct #[{ name := "key", type := 23, offset := 0, embedded := false, tag := "", pkgPath := "graphdb/aggregate", byteOffset := 0 }, { name := "env", type := 81, offset := 1, embedded := false, tag := "", pkgPath := "graphdb/aggregate", byteOffset := 24 }], size := 2, bytes := 48, zero := Go.Value.agg #[Go.Value.slice Option.none 0 0, Go.Value.slice Option.none 0 0] }
def te84 : TE := { t := 84, desc := Go.TypeDesc.struct #[{ name := "key", type := 23, offset := 0, embedded := false, tag := "", pkgPath := "graphdb/aggregate", byteOffset := 0 }, { name := "env", type := 81, offset := 1, embedded := false, tag := "", pkgPath := "graphdb/aggregate", byteOffset := 24 }], size := 2, bytes := 48, zero := Go.Value.agg #[Go.Value.slice Option.none 0 0, Go.Value.slice Option.none 0 0] }
def te93 : TE := { t := 93, desc := Go.TypeDesc.struct #[{ name := "Keys", type := 23, offset := 0, embedded := false, tag := "", pkgPath := "", byteOffset := 0 }, { name := "Envs", type := 92, offset := 1, embedded := false, tag := "", pkgPath := "", byteOffset := 24 }], size := 2, bytes := 48, zero := Go.Value.agg #[Go.Value.slice Option.none 0 0, Go.Value.slice Option.none 0 0] }
def te94 : TE := { t := 94, desc := Go.TypeDesc.struct #[{ name := "Keys", type := 23, offset := 0, embedded := false, tag := "", pkgPath := "", byteOffset := 0 }, { name := "Envs", type := 92, offset := 1, embedded := false, tag := "", pkgPath := "", byteOffset := 24 }], size := 2, bytes := 48, zero := Go.Value.agg #[Go.Value.slice Option.none 0 0, Go.Value.slice Option.none 0 0] }
def te114 : TE := { t := 114, desc := Go.TypeDesc.struct #[{ name := "Id", type := 3, offset := 0, embedded := false, tag := "", pkgPath := "", byteOffset := 0 }, { name := "Labels", type := 43, offset := 1, embedded := false, tag := "", pkgPath := "", byteOffset := 8 }, { name := "Props", type := 113, offset := 2, embedded := false, tag := "", pkgPath := "", byteOffset := 32 }], size := 3, bytes := 56, zero := Go.Value.agg #[Go.Value.int Go.IntKind.i64 0, Go.Value.slice Option.none 0 0, Go.Value.slice Option.none 0 0] }
def te115 : TE := { t := 115, desc := Go.TypeDesc.struct #[{ name := "Id", type := 3, offset := 0, embedded := false, tag := "", pkgPath := "", byteOffset := 0 }, { name := "Labels", type := 43, offset := 1, embedded := false, tag := "", pkgPath := "", byteOffset := 8 }, { name := "Props", type := 113, offset := 2, embedded := false, tag := "", pkgPath := "", byteOffset := 32 }], size := 3, bytes := 56, zero := Go.Value.agg #[Go.Value.int Go.IntKind.i64 0, Go.Value.slice Option.none 0 0, Go.Value.slice Option.none 0 0] }
def te117 : TE := { t := 117, desc := Go.TypeDesc.struct #[{ name := "Id", type := 3, offset := 0, embedded := false, tag := "", pkgPath := "", byteOffset := 0 }, { name := "From", type := 3, offset := 1, embedded := false, tag := "", pkgPath := "", byteOffset := 8 }, { name := "To", type := 3, offset := 2, embedded := false, tag := "", pkgPath := "", byteOffset := 16 }, { name := "Type", type := 9, offset := 3, embedded := false, tag := "", pkgPath := "", byteOffset := 24 }, { name := "Props", type := 113, offset := 4, embedded := false, tag := "", pkgPath := "", byteOffset := 40 }], size := 5, bytes := 64, zero := Go.Value.agg #[Go.Value.int Go.IntKind.i64 0, Go.Value.int Go.IntKind.i64 0, Go.Value.int Go.IntKind.i64 0, Go.Value.string { data := #[] }, Go.Value.slice Option.none 0 0] }
def te118 : TE := { t := 118, desc := Go.TypeDesc.struct #[{ name := "Id", type := 3, offset := 0, embedded := false, tag := "", pkgPath := "", byteOffset := 0 }, { name := "From", type := 3, offset := 1, embedded := false, tag := "", pkgPath := "", byteOffset := 8 }, { name := "To", type := 3, offset := 2, embedded := false, tag := "", pkgPath := "", byteOffset := 16 }, { name := "Type", type := 9, offset := 3, embedded := false, tag := "", pkgPath := "", byteOffset := 24 }, { name := "Props", type := 113, offset := 4, embedded := false, tag := "", pkgPath := "", byteOffset := 40 }], size := 5, bytes := 64, zero := Go.Value.agg #[Go.Value.int Go.IntKind.i64 0, Go.Value.int Go.IntKind.i64 0, Go.Value.int Go.IntKind.i64 0, Go.Value.string { data := #[] }, Go.Value.slice Option.none 0 0] }
def te119 : TE := { t := 119, desc := Go.TypeDesc.struct #[{ name := "Name", type := 9, offset := 0, embedded := false, tag := "", pkgPath := "", byteOffset := 0 }, { name := "V", type := 35, offset := 1, embedded := false, tag := "", pkgPath := "", byteOffset := 16 }], size := 6, bytes := 80, zero := Go.Value.agg #[Go.Value.string { data := #[] }, Go.Value.int Go.IntKind.i64 0, Go.Value.int Go.IntKind.i64 0, Go.Value.int Go.IntKind.i64 0, Go.Value.string { data := #[] }, Go.Value.slice Option.none 0 0] }
def te120 : TE := { t := 120, desc := Go.TypeDesc.struct #[{ name := "Name", type := 9, offset := 0, embedded := false, tag := "", pkgPath := "", byteOffset := 0 }, { name := "V", type := 35, offset := 1, embedded := false, tag := "", pkgPath := "", byteOffset := 16 }], size := 6, bytes := 80, zero := Go.Value.agg #[Go.Value.string { data := #[] }, Go.Value.int Go.IntKind.i64 0, Go.Value.int Go.IntKind.i64 0, Go.Value.int Go.IntKind.i64 0, Go.Value.string { data := #[] }, Go.Value.slice Option.none 0 0] }
def te125 : TE := { t := 125, desc := Go.TypeDesc.struct #[{ name := "g", type := 41, offset := 0, embedded := false, tag := "", pkgPath := "graphdb/eval", byteOffset := 0 }, { name := "env", type := 81, offset := 4, embedded := false, tag := "", pkgPath := "graphdb/eval", byteOffset := 64 }, { name := "call", type := 124, offset := 5, embedded := false, tag := "", pkgPath := "graphdb/eval", byteOffset := 88 }], size := 6, bytes := 96, zero := Go.Value.agg #[Go.Value.slice Option.none 0 0, Go.Value.slice Option.none 0 0, Go.Value.int Go.IntKind.i64 0, Go.Value.int Go.IntKind.i64 0, Go.Value.slice Option.none 0 0, Go.Value.nilFunc] }
def te126 : TE := { t := 126, desc := Go.TypeDesc.struct #[{ name := "g", type := 41, offset := 0, embedded := false, tag := "", pkgPath := "graphdb/eval", byteOffset := 0 }, { name := "env", type := 81, offset := 4, embedded := false, tag := "", pkgPath := "graphdb/eval", byteOffset := 64 }, { name := "call", type := 124, offset := 5, embedded := false, tag := "", pkgPath := "graphdb/eval", byteOffset := 88 }], size := 6, bytes := 96, zero := Go.Value.agg #[Go.Value.slice Option.none 0 0, Go.Value.slice Option.none 0 0, Go.Value.int Go.IntKind.i64 0, Go.Value.int Go.IntKind.i64 0, Go.Value.slice Option.none 0 0, Go.Value.nilFunc] }
def te134 : TE := { t := 134, desc := Go.TypeDesc.struct #[{ name := "neg", type := 4, offset := 0, embedded := false, tag := "", pkgPath := "graphdb/frac", byteOffset := 0 }, { name := "hi", type := 133, offset := 1, embedded := false, tag := "", pkgPath := "graphdb/frac", byteOffset := 8 }, { name := "lo", type := 133, offset := 2, embedded := false, tag := "", pkgPath := "graphdb/frac", byteOffset := 16 }], size := 3, bytes := 24, zero := Go.Value.agg #[Go.Value.bool false, Go.Value.int Go.IntKind.u64 0, Go.Value.int Go.IntKind.u64 0] }
def te135 : TE := { t := 135, desc := Go.TypeDesc.struct #[{ name := "neg", type := 4, offset := 0, embedded := false, tag := "", pkgPath := "graphdb/frac", byteOffset := 0 }, { name := "hi", type := 133, offset := 1, embedded := false, tag := "", pkgPath := "graphdb/frac", byteOffset := 8 }, { name := "lo", type := 133, offset := 2, embedded := false, tag := "", pkgPath := "graphdb/frac", byteOffset := 16 }], size := 3, bytes := 24, zero := Go.Value.agg #[Go.Value.bool false, Go.Value.int Go.IntKind.u64 0, Go.Value.int Go.IntKind.u64 0] }
def te162 : TE := { t := 162, desc := Go.TypeDesc.struct #[{ name := "Key", type := 9, offset := 0, embedded := false, tag := "", pkgPath := "", byteOffset := 0 }, { name := "V", type := 35, offset := 1, embedded := false, tag := "", pkgPath := "", byteOffset := 16 }], size := 6, bytes := 80, zero := Go.Value.agg #[Go.Value.string { data := #[] }, Go.Value.int Go.IntKind.i64 0, Go.Value.int Go.IntKind.i64 0, Go.Value.int Go.IntKind.i64 0, Go.Value.string { data := #[] }, Go.Value.slice Option.none 0 0] }
def te163 : TE := { t := 163, desc := Go.TypeDesc.struct #[{ name := "Key", type := 9, offset := 0, embedded := false, tag := "", pkgPath := "", byteOffset := 0 }, { name := "V", type := 35, offset := 1, embedded := false, tag := "", pkgPath := "", byteOffset := 16 }], size := 6, bytes := 80, zero := Go.Value.agg #[Go.Value.string { data := #[] }, Go.Value.int Go.IntKind.i64 0, Go.Value.int Go.IntKind.i64 0, Go.Value.int Go.IntKind.i64 0, Go.Value.string { data := #[] }, Go.Value.slice Option.none 0 0] }
def te182 : TE := { t := 182, desc := Go.TypeDesc.struct #[{ name := "addr", type := 180, offset := 0, embedded := false, tag := "", pkgPath := "strings", byteOffset := 0 }, { name := "buf", type := 181, offset := 1, embedded := false, tag := "", pkgPath := "strings", byteOffset := 8 }], size := 2, bytes := 32, zero := Go.Value.agg #[Go.Value.pointer Option.none, Go.Value.slice Option.none 0 0] }
def te183 : TE := { t := 183, desc := Go.TypeDesc.struct #[{ name := "addr", type := 180, offset := 0, embedded := false, tag := "", pkgPath := "strings", byteOffset := 0 }, { name := "buf", type := 181, offset := 1, embedded := false, tag := "", pkgPath := "strings", byteOffset := 8 }], size := 2, bytes := 32, zero := Go.Value.agg #[Go.Value.pointer Option.none, Go.Value.slice Option.none 0 0] }
def te234 : TE := { t := 234, desc := Go.TypeDesc.struct #[{ name := "lo", type := 5, offset := 0, embedded := false, tag := "", pkgPath := "unicode/utf8", byteOffset := 0 }, { name := "hi", type := 5, offset := 1, embedded := false, tag := "", pkgPath := "unicode/utf8", byteOffset := 1 }], size := 2, bytes := 2, zero := Go.Value.agg #[Go.Value.int Go.IntKind.u8 0, Go.Value.int Go.IntKind.u8 0] }
def te235 : TE := { t := 235, desc := Go.TypeDesc.struct #[{ name := "lo", type := 5, offset := 0, embedded := false, tag := "", pkgPath := "unicode/utf8", byteOffset := 0 }, { name := "hi", type := 5, offset := 1, embedded := false, tag := "", pkgPath := "unicode/utf8", byteOffset := 1 }], size := 2, bytes := 2, zero := Go.Value.agg #[Go.Value.int Go.IntKind.u8 0, Go.Value.int Go.IntKind.u8 0] }
def te260 : TE := { t := 260, desc := Go.TypeDesc.struct #[{ name := "s", type := 9, offset := 0, embedded := false, tag := "", pkgPath := "errors", byteOffset := 0 }], size := 1, bytes := 16, zero := Go.Value.agg #[Go.Value.string { data := #[] }] }
def te261 : TE := { t := 261, desc := Go.TypeDesc.struct #[{ name := "s", type := 9, offset := 0, embedded := false, tag := "", pkgPath := "errors", byteOffset := 0 }], size := 1, bytes := 16, zero := Go.Value.agg #[Go.Value.string { data := #[] }] }
def te22 : TE := { t := 22, desc := Go.TypeDesc.slice 35, size := 1, bytes := 24, zero := Go.Value.slice Option.none 0 0 }
def te23 : TE := { t := 23, desc := Go.TypeDesc.slice 35, size := 1, bytes := 24, zero := Go.Value.slice Option.none 0 0 }
def te25 : TE := { t := 25, desc := Go.TypeDesc.slice 23, size := 1, bytes := 24, zero := Go.Value.slice Option.none 0 0 }
def te38 : TE := { t := 38, desc := Go.TypeDesc.slice 115, size := 1, bytes := 24, zero := Go.Value.slice Option.none 0 0 }
def te39 : TE := { t := 39, desc := Go.TypeDesc.slice 118, size := 1, bytes := 24, zero := Go.Value.slice Option.none 0 0 }
def te42 : TE := { t := 42, desc := Go.TypeDesc.slice 54, size := 1, bytes := 24, zero := Go.Value.slice Option.none 0 0 }
def te43 : TE := { t := 43, desc := Go.TypeDesc.slice 9, size := 1, bytes := 24, zero := Go.Value.slice Option.none 0 0 }
def te50 : TE := { t := 50, desc := Go.TypeDesc.slice 52, size := 1, bytes := 24, zero := Go.Value.slice Option.none 0 0 }
def te80 : TE := { t := 80, desc := Go.TypeDesc.slice 84, size := 1, bytes := 24, zero := Go.Value.slice Option.none 0 0 }
def te81 : TE := { t := 81, desc := Go.TypeDesc.slice 120, size := 1, bytes := 24, zero := Go.Value.slice Option.none 0 0 }
def te89 : TE := { t := 89, desc := Go.TypeDesc.slice 94, size := 1, bytes := 24, zero := Go.Value.slice Option.none 0 0 }
def te92 : TE := { t := 92, desc := Go.TypeDesc.slice 81, size := 1, bytes := 24, zero := Go.Value.slice Option.none 0 0 }
def te113 : TE := { t := 113, desc := Go.TypeDesc.slice 163, size := 1, bytes := 24, zero := Go.Value.slice Option.none 0 0 }
def te140 : TE := { t := 140, desc := Go.TypeDesc.slice 3, size := 1, bytes := 24, zero := Go.Value.slice Option.none 0 0 }
def te181 : TE := { t := 181, desc := Go.TypeDesc.slice 5, size := 1, bytes := 24, zero := Go.Value.slice Option.none 0 0 }
def te1 : TE := { t := 1, desc := Go.TypeDesc.func #[] #[] false, size := 1, bytes := 8, zero := Go.Value.nilFunc }
def te2 : TE := { t := 2, desc := Go.TypeDesc.int Go.IntKind.i64, size := 1, bytes := 8, zero := Go.Value.int Go.IntKind.i64 0 }
def te5 : TE := { t := 5, desc := Go.TypeDesc.int Go.IntKind.u8, size := 1, bytes := 1, zero := Go.Value.int Go.IntKind.u8 0 }
def te12 : TE := { t := 12, desc := Go.TypeDesc.int Go.IntKind.u64, size := 1, bytes := 8, zero := Go.Value.int Go.IntKind.u64 0 }
def te21 : TE := { t := 21, desc := Go.TypeDesc.int Go.IntKind.i32, size := 1, bytes := 4, zero := Go.Value.int Go.IntKind.i32 0 }
def te24 : TE := { t := 24, desc := Go.TypeDesc.array 2 23, size := 2, bytes := 48, zero := Go.Value.agg #[Go.Value.slice Option.none 0 0, Go.Value.slice Option.none 0 0] }
def te26 : TE := { t := 26, desc := Go.TypeDesc.func #[25, 3] #[4] false, size := 1, bytes := 8, zero := Go.Value.nilFunc }
def te27 : TE := { t := 27, desc := Go.TypeDesc.func #[] #[4] false, size := 1, bytes := 8, zero := Go.Value.nilFunc }
def te28 : TE := { t := 28, desc := Go.TypeDesc.func #[25] #[25] false, size := 1, bytes := 8, zero := Go.Value.nilFunc }
def te29 : TE := { t := 29, desc := Go.TypeDesc.func #[23, 23] #[3] false, size := 1, bytes := 8, zero := Go.Value.nilFunc }
def te30 : TE := { t := 30, desc := Go.TypeDesc.func #[25, 25] #[4] false, size := 1, bytes := 8, zero := Go.Value.nilFunc }
def te31 : TE := { t := 31, desc := Go.TypeDesc.func #[24, 25, 25] #[4] false, size := 1, bytes := 8, zero := Go.Value.nilFunc }
def te32 : TE := { t := 32, desc := Go.TypeDesc.func #[22] #[4] false, size := 1, bytes := 8, zero := Go.Value.nilFunc }
def te33 : TE := { t := 33, desc := Go.TypeDesc.func #[35, 35] #[4] false, size := 1, bytes := 8, zero := Go.Value.nilFunc }
def te36 : TE := { t := 36, desc := Go.TypeDesc.func #[9, 4, 22] #[35] false, size := 1, bytes := 8, zero := Go.Value.nilFunc }
def te37 : TE := { t := 37, desc := Go.TypeDesc.func #[9, 4, 22] #[4] false, size := 1, bytes := 8, zero := Go.Value.nilFunc }
def te46 : TE := { t := 46, desc := Go.TypeDesc.func #[41, 42, 45] #[4] false, size := 1, bytes := 8, zero := Go.Value.nilFunc }
def te47 : TE := { t := 47, desc := Go.TypeDesc.func #[45, 45] #[4] false, size := 1, bytes := 8, zero := Go.Value.nilFunc }
def te48 : TE := { t := 48, desc := Go.TypeDesc.func #[41, 42, 45] #[45] false, size := 1, bytes := 8, zero := Go.Value.nilFunc }
def te49 : TE := { t := 49, desc := Go.TypeDesc.func #[22, 22] #[4] false, size := 1, bytes := 8, zero := Go.Value.nilFunc }
def te55 : TE := { t := 55, desc := Go.TypeDesc.func #[35, 3, 3] #[3] false, size := 1, bytes := 8, zero := Go.Value.nilFunc }
def te56 : TE := { t := 56, desc := Go.TypeDesc.func #[58] #[35] false, size := 1, bytes := 8, zero := Go.Value.nilFunc }
def te59 : TE := { t := 59, desc := Go.TypeDesc.func #[22] #[35] false, size := 1, bytes := 8, zero := Go.Value.nilFunc }
def te60 : TE := { t := 60, desc := Go.TypeDesc.func #[3] #[35] false, size := 1, bytes := 8, zero := Go.Value.nilFunc }
def te61 : TE := { t := 61, desc := Go.TypeDesc.func #[] #[35] false, size := 1, bytes := 8, zero := Go.Value.nilFunc }
def te62 : TE := { t := 62, desc := Go.TypeDesc.func #[9] #[35] false, size := 1, bytes := 8, zero := Go.Value.nilFunc }
def te63 : TE := { t := 63, desc := Go.TypeDesc.func #[35, 35] #[3] false, size := 1, bytes := 8, zero := Go.Value.nilFunc }
def te64 : TE := { t := 64, desc := Go.TypeDesc.func #[35] #[9] false, size := 1, bytes := 8, zero := Go.Value.nilFunc }
def te65 : TE := { t := 65, desc := Go.TypeDesc.func #[4] #[35] false, size := 1, bytes := 8, zero := Go.Value.nilFunc }
def te66 : TE := { t := 66, desc := Go.TypeDesc.func #[35] #[4] false, size := 1, bytes := 8, zero := Go.Value.nilFunc }
def te67 : TE := { t := 67, desc := Go.TypeDesc.func #[22] #[22] false, size := 1, bytes := 8, zero := Go.Value.nilFunc }
def te68 : TE := { t := 68, desc := Go.TypeDesc.func #[25, 29] #[] false, size := 1, bytes := 8, zero := Go.Value.nilFunc }
def te69 : TE := { t := 69, desc := Go.TypeDesc.func #[23, 23, 63] #[3] false, size := 1, bytes := 8, zero := Go.Value.nilFunc }
def te70 : TE := { t := 70, desc := Go.TypeDesc.func #[22, 22] #[3] false, size := 1, bytes := 8, zero := Go.Value.nilFunc }
def te71 : TE := { t := 71, desc := Go.TypeDesc.func #[25, 25, 72] #[4] false, size := 1, bytes := 8, zero := Go.Value.nilFunc }
def te72 : TE := { t := 72, desc := Go.TypeDesc.func #[23, 23] #[4] false, size := 1, bytes := 8, zero := Go.Value.nilFunc }
def te73 : TE := { t := 73, desc := Go.TypeDesc.func #[4, 22] #[22] false, size := 1, bytes := 8, zero := Go.Value.nilFunc }
def te74 : TE := { t := 74, desc := Go.TypeDesc.func #[58, 4] #[35] false, size := 1, bytes := 8, zero := Go.Value.nilFunc }
def te76 : TE := { t := 76, desc := Go.TypeDesc.func #[22] #[58, 4] false, size := 1, bytes := 8, zero := Go.Value.nilFunc }
def te77 : TE := { t := 77, desc := Go.TypeDesc.func #[58, 58] #[58, 4] false, size := 1, bytes := 8, zero := Go.Value.nilFunc }
def te78 : TE := { t := 78, desc := Go.TypeDesc.func #[41, 3, 3] #[4] false, size := 1, bytes := 8, zero := Go.Value.nilFunc }
def te79 : TE := { t := 79, desc := Go.TypeDesc.func #[52, 3] #[4] false, size := 1, bytes := 8, zero := Go.Value.nilFunc }
def te82 : TE := { t := 82, desc := Go.TypeDesc.func #[43, 23] #[81] false, size := 1, bytes := 8, zero := Go.Value.nilFunc }
def te85 : TE := { t := 85, desc := Go.TypeDesc.func #[41, 52, 81] #[35] false, size := 1, bytes := 8, zero := Go.Value.nilFunc }
def te86 : TE := { t := 86, desc := Go.TypeDesc.func #[41, 42, 80] #[23] false, size := 1, bytes := 8, zero := Go.Value.nilFunc }
def te87 : TE := { t := 87, desc := Go.TypeDesc.func #[80, 88] #[] false, size := 1, bytes := 8, zero := Go.Value.nilFunc }
def te88 : TE := { t := 88, desc := Go.TypeDesc.func #[84, 84] #[3] false, size := 1, bytes := 8, zero := Go.Value.nilFunc }
def te90 : TE := { t := 90, desc := Go.TypeDesc.func #[41, 42, 45] #[89] false, size := 1, bytes := 8, zero := Go.Value.nilFunc }
def te91 : TE := { t := 91, desc := Go.TypeDesc.func #[41, 52, 94] #[35] false, size := 1, bytes := 8, zero := Go.Value.nilFunc }
def te95 : TE := { t := 95, desc := Go.TypeDesc.func #[35] #[58, 4] false, size := 1, bytes := 8, zero := Go.Value.nilFunc }
def te96 : TE := { t := 96, desc := Go.TypeDesc.func #[4] #[3] false, size := 1, bytes := 8, zero := Go.Value.nilFunc }
def te97 : TE := { t := 97, desc := Go.TypeDesc.func #[58, 58] #[3] false, size := 1, bytes := 8, zero := Go.Value.nilFunc }
def te98 : TE := { t := 98, desc := Go.TypeDesc.func #[140] #[3] true, size := 1, bytes := 8, zero := Go.Value.nilFunc }
def te99 : TE := { t := 99, desc := Go.TypeDesc.func #[3, 3] #[3] false, size := 1, bytes := 8, zero := Go.Value.nilFunc }
def te100 : TE := { t := 100, desc := Go.TypeDesc.func #[9, 9] #[3] false, size := 1, bytes := 8, zero := Go.Value.nilFunc }
def te101 : TE := { t := 101, desc := Go.TypeDesc.func #[22, 22, 63] #[3] false, size := 1, bytes := 8, zero := Go.Value.nilFunc }
def te102 : TE := { t := 102, desc := Go.TypeDesc.func #[4] #[9] false, size := 1, bytes := 8, zero := Go.Value.nilFunc }
def te103 : TE := { t := 103, desc := Go.TypeDesc.func #[3] #[9] false, size := 1, bytes := 8, zero := Go.Value.nilFunc }
def te104 : TE := { t := 104, desc := Go.TypeDesc.func #[58] #[9] false, size := 1, bytes := 8, zero := Go.Value.nilFunc }
def te105 : TE := { t := 105, desc := Go.TypeDesc.func #[9, 9, 9] #[9] false, size := 1, bytes := 8, zero := Go.Value.nilFunc }
def te106 : TE := { t := 106, desc := Go.TypeDesc.func #[22, 9] #[9] false, size := 1, bytes := 8, zero := Go.Value.nilFunc }
def te107 : TE := { t := 107, desc := Go.TypeDesc.func #[35, 3] #[4] false, size := 1, bytes := 8, zero := Go.Value.nilFunc }
def te108 : TE := { t := 108, desc := Go.TypeDesc.func #[25, 3, 29] #[] false, size := 1, bytes := 8, zero := Go.Value.nilFunc }
def te109 : TE := { t := 109, desc := Go.TypeDesc.func #[3] #[3] false, size := 1, bytes := 8, zero := Go.Value.nilFunc }
def te110 : TE := { t := 110, desc := Go.TypeDesc.func #[22, 63] #[] false, size := 1, bytes := 8, zero := Go.Value.nilFunc }
def te111 : TE := { t := 111, desc := Go.TypeDesc.func #[22, 33] #[22] false, size := 1, bytes := 8, zero := Go.Value.nilFunc }
def te112 : TE := { t := 112, desc := Go.TypeDesc.func #[58] #[4] false, size := 1, bytes := 8, zero := Go.Value.nilFunc }
def te116 : TE := { t := 116, desc := Go.TypeDesc.func #[113, 3] #[3] false, size := 1, bytes := 8, zero := Go.Value.nilFunc }
def te121 : TE := { t := 121, desc := Go.TypeDesc.int Go.IntKind.i64, size := 1, bytes := 8, zero := Go.Value.int Go.IntKind.i64 0 }
def te122 : TE := { t := 122, desc := Go.TypeDesc.func #[52] #[121] false, size := 1, bytes := 8, zero := Go.Value.nilFunc }
def te123 : TE := { t := 123, desc := Go.TypeDesc.pointer 126, size := 1, bytes := 8, zero := Go.Value.pointer Option.none }
def te124 : TE := { t := 124, desc := Go.TypeDesc.func #[9, 22] #[35] false, size := 1, bytes := 8, zero := Go.Value.nilFunc }
def te127 : TE := { t := 127, desc := Go.TypeDesc.func #[35] #[35] false, size := 1, bytes := 8, zero := Go.Value.nilFunc }
def te128 : TE := { t := 128, desc := Go.TypeDesc.func #[52] #[35] false, size := 1, bytes := 8, zero := Go.Value.nilFunc }
def te129 : TE := { t := 129, desc := Go.TypeDesc.func #[41, 52, 80] #[35] false, size := 1, bytes := 8, zero := Go.Value.nilFunc }
def te130 : TE := { t := 130, desc := Go.TypeDesc.func #[80, 3, 88] #[] false, size := 1, bytes := 8, zero := Go.Value.nilFunc }
def te131 : TE := { t := 131, desc := Go.TypeDesc.func #[41, 42, 81] #[23] false, size := 1, bytes := 8, zero := Go.Value.nilFunc }
def te132 : TE := { t := 132, desc := Go.TypeDesc.func #[89, 23] #[3] false, size := 1, bytes := 8, zero := Go.Value.nilFunc }
def te133 : TE := { t := 133, desc := Go.TypeDesc.int Go.IntKind.u64, size := 1, bytes := 8, zero := Go.Value.int Go.IntKind.u64 0 }
def te136 : TE := { t := 136, desc := Go.TypeDesc.func #[3, 3] #[135] false, size := 1, bytes := 8, zero := Go.Value.nilFunc }
def te137 : TE := { t := 137, desc := Go.TypeDesc.func #[135] #[135] false, size := 1, bytes := 8, zero := Go.Value.nilFunc }
def te138 : TE := { t := 138, desc := Go.TypeDesc.func #[] #[3] false, size := 1, bytes := 8, zero := Go.Value.nilFunc }
def te139 : TE := { t := 139, desc := Go.TypeDesc.func #[35] #[3] false, size := 1, bytes := 8, zero := Go.Value.nilFunc }
def te141 : TE := { t := 141, desc := Go.TypeDesc.func #[3] #[4] false, size := 1, bytes := 8, zero := Go.Value.nilFunc }
def te142 : TE := { t := 142, desc := Go.TypeDesc.func #[9] #[4] false, size := 1, bytes := 8, zero := Go.Value.nilFunc }
def te143 : TE := { t := 143, desc := Go.TypeDesc.func #[9, 9, 9, 3] #[9] false, size := 1, bytes := 8, zero := Go.Value.nilFunc }
def te144 : TE := { t := 144, desc := Go.TypeDesc.func #[43, 9] #[9] false, size := 1, bytes := 8, zero := Go.Value.nilFunc }
def te145 : TE := { t := 145, desc := Go.TypeDesc.func #[9, 146] #[3] false, size := 1, bytes := 8, zero := Go.Value.nilFunc }
def te146 : TE := { t := 146, desc := Go.TypeDesc.func #[21] #[4] false, size := 1, bytes := 8, zero := Go.Value.nilFunc }
def te147 : TE := { t := 147, desc := Go.TypeDesc.func #[25, 3, 3, 29] #[] false, size := 1, bytes := 8, zero := Go.Value.nilFunc }
def te148 : TE := { t := 148, desc := Go.TypeDesc.func #[25, 3, 3, 3, 29] #[] false, size := 1, bytes := 8, zero := Go.Value.nilFunc }
def te150 : TE := { t := 150, desc := Go.TypeDesc.func #[3, 140, 3, 140] #[3, 140] false, size := 1, bytes := 8, zero := Go.Value.nilFunc }
def te151 : TE := { t := 151, desc := Go.TypeDesc.func #[3, 3] #[140] false, size := 1, bytes := 8, zero := Go.Value.nilFunc }
def te152 : TE := { t := 152, desc := Go.TypeDesc.func #[22, 3, 63] #[] false, size := 1, bytes := 8, zero := Go.Value.nilFunc }
def te153 : TE := { t := 153, desc := Go.TypeDesc.func #[133] #[133] false, size := 1, bytes := 8, zero := Go.Value.nilFunc }
def te155 : TE := { t := 155, desc := Go.TypeDesc.func #[133] #[3, 4] false, size := 1, bytes := 8, zero := Go.Value.nilFunc }
def te156 : TE := { t := 156, desc := Go.TypeDesc.func #[3, 3] #[3, 4] false, size := 1, bytes := 8, zero := Go.Value.nilFunc }
def te158 : TE := { t := 158, desc := Go.TypeDesc.func #[140, 3] #[140, 3] false, size := 1, bytes := 8, zero := Go.Value.nilFunc }
def te159 : TE := { t := 159, desc := Go.TypeDesc.func #[140] #[3, 4] false, size := 1, bytes := 8, zero := Go.Value.nilFunc }
def te160 : TE := { t := 160, desc := Go.TypeDesc.func #[35, 4, 4, 4, 4] #[4] false, size := 1, bytes := 8, zero := Go.Value.nilFunc }
def te161 : TE := { t := 161, desc := Go.TypeDesc.func #[22, 3] #[4] false, size := 1, bytes := 8, zero := Go.Value.nilFunc }
def te164 : TE := { t := 164, desc := Go.TypeDesc.func #[52] #[3] false, size := 1, bytes := 8, zero := Go.Value.nilFunc }
def te165 : TE := { t := 165, desc := Go.TypeDesc.func #[52, 4] #[121] false, size := 1, bytes := 8, zero := Go.Value.nilFunc }
def te167 : TE := { t := 167, desc := Go.TypeDesc.func #[35] #[118, 4] false, size := 1, bytes := 8, zero := Go.Value.nilFunc }
def te168 : TE := { t := 168, desc := Go.TypeDesc.func #[9, 118] #[35] false, size := 1, bytes := 8, zero := Go.Value.nilFunc }
def te170 : TE := { t := 170, desc := Go.TypeDesc.func #[35] #[115, 4] false, size := 1, bytes := 8, zero := Go.Value.nilFunc }
def te171 : TE := { t := 171, desc := Go.TypeDesc.func #[52, 22] #[35] false, size := 1, bytes := 8, zero := Go.Value.nilFunc }
def te172 : TE := { t := 172, desc := Go.TypeDesc.func #[80, 3, 3, 88] #[] false, size := 1, bytes := 8, zero := Go.Value.nilFunc }
def te173 : TE := { t := 173, desc := Go.TypeDesc.func #[80, 3, 3, 3, 88] #[] false, size := 1, bytes := 8, zero := Go.Value.nilFunc }
def te175 : TE := { t := 175, desc := Go.TypeDesc.func #[133, 133] #[133, 133] false, size := 1, bytes := 8, zero := Go.Value.nilFunc }
def te176 : TE := { t := 176, desc := Go.TypeDesc.func #[3] #[133] false, size := 1, bytes := 8, zero := Go.Value.nilFunc }
def te177 : TE := { t := 177, desc := Go.TypeDesc.func #[133, 133, 133] #[133, 133] false, size := 1, bytes := 8, zero := Go.Value.nilFunc }
def te178 : TE := { t := 178, desc := Go.TypeDesc.func #[135] #[4] false, size := 1, bytes := 8, zero := Go.Value.nilFunc }
def te179 : TE := { t := 179, desc := Go.TypeDesc.func #[2, 3] #[9] false, size := 1, bytes := 8, zero := Go.Value.nilFunc }
def te180 : TE := { t := 180, desc := Go.TypeDesc.pointer 183, size := 1, bytes := 8, zero := Go.Value.pointer Option.none }
def te184 : TE := { t := 184, desc := Go.TypeDesc.func #[3] #[] false, size := 1, bytes := 8, zero := Go.Value.nilFunc }
def te188 : TE := { t := 188, desc := Go.TypeDesc.func #[9] #[3, 186] false, size := 1, bytes := 8, zero := Go.Value.nilFunc }
def te190 : TE := { t := 190, desc := Go.TypeDesc.func #[9] #[21, 3] false, size := 1, bytes := 8, zero := Go.Value.nilFunc }
def te191 : TE := { t := 191, desc := Go.TypeDesc.func #[] #[9] false, size := 1, bytes := 8, zero := Go.Value.nilFunc }
def te192 : TE := { t := 192, desc := Go.TypeDesc.func #[9, 146, 4] #[3] false, size := 1, bytes := 8, zero := Go.Value.nilFunc }
def te193 : TE := { t := 193, desc := Go.TypeDesc.int Go.IntKind.u64, size := 1, bytes := 8, zero := Go.Value.int Go.IntKind.u64 0 }
def te194 : TE := { t := 194, desc := Go.TypeDesc.func #[140, 140] #[140] false, size := 1, bytes := 8, zero := Go.Value.nilFunc }
def te195 : TE := { t := 195, desc := Go.TypeDesc.func #[140, 140] #[3] false, size := 1, bytes := 8, zero := Go.Value.nilFunc }
def te196 : TE := { t := 196, desc := Go.TypeDesc.func #[22, 3, 3, 63] #[] false, size := 1, bytes := 8, zero := Go.Value.nilFunc }
def te197 : TE := { t := 197, desc := Go.TypeDesc.func #[22, 3, 3, 3, 63] #[] false, size := 1, bytes := 8, zero := Go.Value.nilFunc }
def te198 : TE := { t := 198, desc := Go.TypeDesc.func #[52] #[4] false, size := 1, bytes := 8, zero := Go.Value.nilFunc }
def te199 : TE := { t := 199, desc := Go.TypeDesc.func #[41, 3] #[118, 4] false, size := 1, bytes := 8, zero := Go.Value.nilFunc }
def te200 : TE := { t := 200, desc := Go.TypeDesc.func #[41, 3] #[115, 4] false, size := 1, bytes := 8, zero := Go.Value.nilFunc }
def te201 : TE := { t := 201, desc := Go.TypeDesc.func #[35, 9] #[35] false, size := 1, bytes := 8, zero := Go.Value.nilFunc }
def te202 : TE := { t := 202, desc := Go.TypeDesc.func #[115, 9] #[4] false, size := 1, bytes := 8, zero := Go.Value.nilFunc }
def te203 : TE := { t := 203, desc := Go.TypeDesc.func #[3, 35, 35] #[35] false, size := 1, bytes := 8, zero := Go.Value.nilFunc }
def te204 : TE := { t := 204, desc := Go.TypeDesc.func #[3, 35, 35] #[3] false, size := 1, bytes := 8, zero := Go.Value.nilFunc }
def te205 : TE := { t := 205, desc := Go.TypeDesc.func #[41, 9, 22] #[35] false, size := 1, bytes := 8, zero := Go.Value.nilFunc }
def te206 : TE := { t := 206, desc := Go.TypeDesc.func #[41, 52, 35] #[35] false, size := 1, bytes := 8, zero := Go.Value.nilFunc }
def te208 : TE := { t := 208, desc := Go.TypeDesc.func #[133] #[3] false, size := 1, bytes := 8, zero := Go.Value.nilFunc }
def te209 : TE := { t := 209, desc := Go.TypeDesc.func #[181, 133] #[] false, size := 1, bytes := 8, zero := Go.Value.nilFunc }
def te211 : TE := { t := 211, desc := Go.TypeDesc.func #[181, 133, 3, 4, 4] #[181, 9] false, size := 1, bytes := 8, zero := Go.Value.nilFunc }
def te212 : TE := { t := 212, desc := Go.TypeDesc.func #[9] #[3] false, size := 1, bytes := 8, zero := Go.Value.nilFunc }
def te213 : TE := { t := 213, desc := Go.TypeDesc.func #[9, 5] #[3] false, size := 1, bytes := 8, zero := Go.Value.nilFunc }
def te214 : TE := { t := 214, desc := Go.TypeDesc.pointer 5, size := 1, bytes := 8, zero := Go.Value.pointer Option.none }
def te216 : TE := { t := 216, desc := Go.TypeDesc.func #[9] #[3, 3] false, size := 1, bytes := 8, zero := Go.Value.nilFunc }
def te217 : TE := { t := 217, desc := Go.TypeDesc.func #[113] #[113] false, size := 1, bytes := 8, zero := Go.Value.nilFunc }
def te218 : TE := { t := 218, desc := Go.TypeDesc.func #[43] #[43] false, size := 1, bytes := 8, zero := Go.Value.nilFunc }
def te219 : TE := { t := 219, desc := Go.TypeDesc.func #[113, 9] #[35] false, size := 1, bytes := 8, zero := Go.Value.nilFunc }
def te220 : TE := { t := 220, desc := Go.TypeDesc.func #[43, 9] #[4] false, size := 1, bytes := 8, zero := Go.Value.nilFunc }
def te221 : TE := { t := 221, desc := Go.TypeDesc.func #[41, 9, 35] #[35] false, size := 1, bytes := 8, zero := Go.Value.nilFunc }
def te222 : TE := { t := 222, desc := Go.TypeDesc.func #[41, 35] #[35] false, size := 1, bytes := 8, zero := Go.Value.nilFunc }
def te223 : TE := { t := 223, desc := Go.TypeDesc.func #[9, 35] #[35] false, size := 1, bytes := 8, zero := Go.Value.nilFunc }
def te224 : TE := { t := 224, desc := Go.TypeDesc.func #[41, 35] #[113] false, size := 1, bytes := 8, zero := Go.Value.nilFunc }
def te225 : TE := { t := 225, desc := Go.TypeDesc.func #[35, 35] #[35] false, size := 1, bytes := 8, zero := Go.Value.nilFunc }
def te227 : TE := { t := 227, desc := Go.TypeDesc.int Go.IntKind.u32, size := 1, bytes := 4, zero := Go.Value.int Go.IntKind.u32 0 }
def te229 : TE := { t := 229, desc := Go.TypeDesc.func #[193] #[3] false, size := 1, bytes := 8, zero := Go.Value.nilFunc }
def te231 : TE := { t := 231, desc := Go.TypeDesc.func #[230] #[230] false, size := 1, bytes := 8, zero := Go.Value.nilFunc }
def te232 : TE := { t := 232, desc := Go.TypeDesc.func #[3] #[181] false, size := 1, bytes := 8, zero := Go.Value.nilFunc }
def te237 : TE := { t := 237, desc := Go.TypeDesc.func #[43, 9] #[3] false, size := 1, bytes := 8, zero := Go.Value.nilFunc }
def te238 : TE := { t := 238, desc := Go.TypeDesc.func #[9] #[9] false, size := 1, bytes := 8, zero := Go.Value.nilFunc }
def te239 : TE := { t := 239, desc := Go.TypeDesc.func #[227] #[3] false, size := 1, bytes := 8, zero := Go.Value.nilFunc }
def te241 : TE := { t := 241, desc := Go.TypeDesc.func #[9] #[227, 227] false, size := 1, bytes := 8, zero := Go.Value.nilFunc }
def te242 : TE := { t := 242, desc := Go.TypeDesc.func #[5] #[4] false, size := 1, bytes := 8, zero := Go.Value.nilFunc }
def te243 : TE := { t := 243, desc := Go.TypeDesc.func #[9, 9] #[4] false, size := 1, bytes := 8, zero := Go.Value.nilFunc }
def te246 : TE := { t := 246, desc := Go.TypeDesc.func #[] #[43] false, size := 1, bytes := 8, zero := Go.Value.nilFunc }
def te247 : TE := { t := 247, desc := Go.TypeDesc.pointer 261, size := 1, bytes := 8, zero := Go.Value.pointer Option.none }
def te255 : TE := { t := 255, desc := Go.TypeDesc.func #[230, 230] #[4] false, size := 1, bytes := 8, zero := Go.Value.nilFunc }
theorem ok3 : te3.ok Tryz.prog := ⟨Tryz.underlying3, Tryz.t3, Tryz.type3, rfl, rfl, rfl⟩
theorem ok4 : te4.ok Tryz.prog := ⟨Tryz.underlying4, Tryz.t4, Tryz.type4, rfl, rfl, rfl⟩
theorem ok9 : te9.ok Tryz.prog := ⟨Tryz.underlying9, Tryz.t9, Tryz.type9, rfl, rfl, rfl⟩
theorem ok34 : te34.ok Tryz.prog := ⟨Tryz.underlying34, Tryz.t34, Tryz.type34, rfl, rfl, rfl⟩
theorem ok35 : te35.ok Tryz.prog := ⟨Tryz.underlying35, Tryz.t35, Tryz.type35, rfl, rfl, rfl⟩
theorem ok40 : te40.ok Tryz.prog := ⟨Tryz.underlying40, Tryz.t40, Tryz.type40, rfl, rfl, rfl⟩
theorem ok41 : te41.ok Tryz.prog := ⟨Tryz.underlying41, Tryz.t41, Tryz.type41, rfl, rfl, rfl⟩
theorem ok44 : te44.ok Tryz.prog := ⟨Tryz.underlying44, Tryz.t44, Tryz.type44, rfl, rfl, rfl⟩
theorem ok45 : te45.ok Tryz.prog := ⟨Tryz.underlying45, Tryz.t45, Tryz.type45, rfl, rfl, rfl⟩
theorem ok51 : te51.ok Tryz.prog := ⟨Tryz.underlying51, Tryz.t51, Tryz.type51, rfl, rfl, rfl⟩
theorem ok52 : te52.ok Tryz.prog := ⟨Tryz.underlying52, Tryz.t52, Tryz.type52, rfl, rfl, rfl⟩
theorem ok53 : te53.ok Tryz.prog := ⟨Tryz.underlying53, Tryz.t53, Tryz.type53, rfl, rfl, rfl⟩
theorem ok54 : te54.ok Tryz.prog := ⟨Tryz.underlying54, Tryz.t54, Tryz.type54, rfl, rfl, rfl⟩
theorem ok57 : te57.ok Tryz.prog := ⟨Tryz.underlying57, Tryz.t57, Tryz.type57, rfl, rfl, rfl⟩
theorem ok58 : te58.ok Tryz.prog := ⟨Tryz.underlying58, Tryz.t58, Tryz.type58, rfl, rfl, rfl⟩
theorem ok83 : te83.ok Tryz.prog := ⟨Tryz.underlying83, Tryz.t83, Tryz.type83, rfl, rfl, rfl⟩
theorem ok84 : te84.ok Tryz.prog := ⟨Tryz.underlying84, Tryz.t84, Tryz.type84, rfl, rfl, rfl⟩
theorem ok93 : te93.ok Tryz.prog := ⟨Tryz.underlying93, Tryz.t93, Tryz.type93, rfl, rfl, rfl⟩
theorem ok94 : te94.ok Tryz.prog := ⟨Tryz.underlying94, Tryz.t94, Tryz.type94, rfl, rfl, rfl⟩
theorem ok114 : te114.ok Tryz.prog := ⟨Tryz.underlying114, Tryz.t114, Tryz.type114, rfl, rfl, rfl⟩
theorem ok115 : te115.ok Tryz.prog := ⟨Tryz.underlying115, Tryz.t115, Tryz.type115, rfl, rfl, rfl⟩
theorem ok117 : te117.ok Tryz.prog := ⟨Tryz.underlying117, Tryz.t117, Tryz.type117, rfl, rfl, rfl⟩
theorem ok118 : te118.ok Tryz.prog := ⟨Tryz.underlying118, Tryz.t118, Tryz.type118, rfl, rfl, rfl⟩
theorem ok119 : te119.ok Tryz.prog := ⟨Tryz.underlying119, Tryz.t119, Tryz.type119, rfl, rfl, rfl⟩
theorem ok120 : te120.ok Tryz.prog := ⟨Tryz.underlying120, Tryz.t120, Tryz.type120, rfl, rfl, rfl⟩
theorem ok125 : te125.ok Tryz.prog := ⟨Tryz.underlying125, Tryz.t125, Tryz.type125, rfl, rfl, rfl⟩
theorem ok126 : te126.ok Tryz.prog := ⟨Tryz.underlying126, Tryz.t126, Tryz.type126, rfl, rfl, rfl⟩
theorem ok134 : te134.ok Tryz.prog := ⟨Tryz.underlying134, Tryz.t134, Tryz.type134, rfl, rfl, rfl⟩
theorem ok135 : te135.ok Tryz.prog := ⟨Tryz.underlying135, Tryz.t135, Tryz.type135, rfl, rfl, rfl⟩
theorem ok162 : te162.ok Tryz.prog := ⟨Tryz.underlying162, Tryz.t162, Tryz.type162, rfl, rfl, rfl⟩
theorem ok163 : te163.ok Tryz.prog := ⟨Tryz.underlying163, Tryz.t163, Tryz.type163, rfl, rfl, rfl⟩
theorem ok182 : te182.ok Tryz.prog := ⟨Tryz.underlying182, Tryz.t182, Tryz.type182, rfl, rfl, rfl⟩
theorem ok183 : te183.ok Tryz.prog := ⟨Tryz.underlying183, Tryz.t183, Tryz.type183, rfl, rfl, rfl⟩
theorem ok234 : te234.ok Tryz.prog := ⟨Tryz.underlying234, Tryz.t234, Tryz.type234, rfl, rfl, rfl⟩
theorem ok235 : te235.ok Tryz.prog := ⟨Tryz.underlying235, Tryz.t235, Tryz.type235, rfl, rfl, rfl⟩
theorem ok260 : te260.ok Tryz.prog := ⟨Tryz.underlying260, Tryz.t260, Tryz.type260, rfl, rfl, rfl⟩
theorem ok261 : te261.ok Tryz.prog := ⟨Tryz.underlying261, Tryz.t261, Tryz.type261, rfl, rfl, rfl⟩
theorem ok22 : te22.ok Tryz.prog := ⟨Tryz.underlying22, Tryz.t22, Tryz.type22, rfl, rfl, rfl⟩
theorem ok23 : te23.ok Tryz.prog := ⟨Tryz.underlying23, Tryz.t23, Tryz.type23, rfl, rfl, rfl⟩
theorem ok25 : te25.ok Tryz.prog := ⟨Tryz.underlying25, Tryz.t25, Tryz.type25, rfl, rfl, rfl⟩
theorem ok38 : te38.ok Tryz.prog := ⟨Tryz.underlying38, Tryz.t38, Tryz.type38, rfl, rfl, rfl⟩
theorem ok39 : te39.ok Tryz.prog := ⟨Tryz.underlying39, Tryz.t39, Tryz.type39, rfl, rfl, rfl⟩
theorem ok42 : te42.ok Tryz.prog := ⟨Tryz.underlying42, Tryz.t42, Tryz.type42, rfl, rfl, rfl⟩
theorem ok43 : te43.ok Tryz.prog := ⟨Tryz.underlying43, Tryz.t43, Tryz.type43, rfl, rfl, rfl⟩
theorem ok50 : te50.ok Tryz.prog := ⟨Tryz.underlying50, Tryz.t50, Tryz.type50, rfl, rfl, rfl⟩
theorem ok80 : te80.ok Tryz.prog := ⟨Tryz.underlying80, Tryz.t80, Tryz.type80, rfl, rfl, rfl⟩
theorem ok81 : te81.ok Tryz.prog := ⟨Tryz.underlying81, Tryz.t81, Tryz.type81, rfl, rfl, rfl⟩
theorem ok89 : te89.ok Tryz.prog := ⟨Tryz.underlying89, Tryz.t89, Tryz.type89, rfl, rfl, rfl⟩
theorem ok92 : te92.ok Tryz.prog := ⟨Tryz.underlying92, Tryz.t92, Tryz.type92, rfl, rfl, rfl⟩
theorem ok113 : te113.ok Tryz.prog := ⟨Tryz.underlying113, Tryz.t113, Tryz.type113, rfl, rfl, rfl⟩
theorem ok140 : te140.ok Tryz.prog := ⟨Tryz.underlying140, Tryz.t140, Tryz.type140, rfl, rfl, rfl⟩
theorem ok181 : te181.ok Tryz.prog := ⟨Tryz.underlying181, Tryz.t181, Tryz.type181, rfl, rfl, rfl⟩
theorem ok1 : te1.ok Tryz.prog := ⟨Tryz.underlying1, Tryz.t1, Tryz.type1, rfl, rfl, rfl⟩
theorem ok2 : te2.ok Tryz.prog := ⟨Tryz.underlying2, Tryz.t2, Tryz.type2, rfl, rfl, rfl⟩
theorem ok5 : te5.ok Tryz.prog := ⟨Tryz.underlying5, Tryz.t5, Tryz.type5, rfl, rfl, rfl⟩
theorem ok12 : te12.ok Tryz.prog := ⟨Tryz.underlying12, Tryz.t12, Tryz.type12, rfl, rfl, rfl⟩
theorem ok21 : te21.ok Tryz.prog := ⟨Tryz.underlying21, Tryz.t21, Tryz.type21, rfl, rfl, rfl⟩
theorem ok24 : te24.ok Tryz.prog := ⟨Tryz.underlying24, Tryz.t24, Tryz.type24, rfl, rfl, rfl⟩
theorem ok26 : te26.ok Tryz.prog := ⟨Tryz.underlying26, Tryz.t26, Tryz.type26, rfl, rfl, rfl⟩
theorem ok27 : te27.ok Tryz.prog := ⟨Tryz.underlying27, Tryz.t27, Tryz.type27, rfl, rfl, rfl⟩
theorem ok28 : te28.ok Tryz.prog := ⟨Tryz.underlying28, Tryz.t28, Tryz.type28, rfl, rfl, rfl⟩
theorem ok29 : te29.ok Tryz.prog := ⟨Tryz.underlying29, Tryz.t29, Tryz.type29, rfl, rfl, rfl⟩
theorem ok30 : te30.ok Tryz.prog := ⟨Tryz.underlying30, Tryz.t30, Tryz.type30, rfl, rfl, rfl⟩
theorem ok31 : te31.ok Tryz.prog := ⟨Tryz.underlying31, Tryz.t31, Tryz.type31, rfl, rfl, rfl⟩
theorem ok32 : te32.ok Tryz.prog := ⟨Tryz.underlying32, Tryz.t32, Tryz.type32, rfl, rfl, rfl⟩
theorem ok33 : te33.ok Tryz.prog := ⟨Tryz.underlying33, Tryz.t33, Tryz.type33, rfl, rfl, rfl⟩
theorem ok36 : te36.ok Tryz.prog := ⟨Tryz.underlying36, Tryz.t36, Tryz.type36, rfl, rfl, rfl⟩
theorem ok37 : te37.ok Tryz.prog := ⟨Tryz.underlying37, Tryz.t37, Tryz.type37, rfl, rfl, rfl⟩
theorem ok46 : te46.ok Tryz.prog := ⟨Tryz.underlying46, Tryz.t46, Tryz.type46, rfl, rfl, rfl⟩
theorem ok47 : te47.ok Tryz.prog := ⟨Tryz.underlying47, Tryz.t47, Tryz.type47, rfl, rfl, rfl⟩
theorem ok48 : te48.ok Tryz.prog := ⟨Tryz.underlying48, Tryz.t48, Tryz.type48, rfl, rfl, rfl⟩
theorem ok49 : te49.ok Tryz.prog := ⟨Tryz.underlying49, Tryz.t49, Tryz.type49, rfl, rfl, rfl⟩
theorem ok55 : te55.ok Tryz.prog := ⟨Tryz.underlying55, Tryz.t55, Tryz.type55, rfl, rfl, rfl⟩
theorem ok56 : te56.ok Tryz.prog := ⟨Tryz.underlying56, Tryz.t56, Tryz.type56, rfl, rfl, rfl⟩
theorem ok59 : te59.ok Tryz.prog := ⟨Tryz.underlying59, Tryz.t59, Tryz.type59, rfl, rfl, rfl⟩
theorem ok60 : te60.ok Tryz.prog := ⟨Tryz.underlying60, Tryz.t60, Tryz.type60, rfl, rfl, rfl⟩
theorem ok61 : te61.ok Tryz.prog := ⟨Tryz.underlying61, Tryz.t61, Tryz.type61, rfl, rfl, rfl⟩
theorem ok62 : te62.ok Tryz.prog := ⟨Tryz.underlying62, Tryz.t62, Tryz.type62, rfl, rfl, rfl⟩
theorem ok63 : te63.ok Tryz.prog := ⟨Tryz.underlying63, Tryz.t63, Tryz.type63, rfl, rfl, rfl⟩
theorem ok64 : te64.ok Tryz.prog := ⟨Tryz.underlying64, Tryz.t64, Tryz.type64, rfl, rfl, rfl⟩
theorem ok65 : te65.ok Tryz.prog := ⟨Tryz.underlying65, Tryz.t65, Tryz.type65, rfl, rfl, rfl⟩
theorem ok66 : te66.ok Tryz.prog := ⟨Tryz.underlying66, Tryz.t66, Tryz.type66, rfl, rfl, rfl⟩
theorem ok67 : te67.ok Tryz.prog := ⟨Tryz.underlying67, Tryz.t67, Tryz.type67, rfl, rfl, rfl⟩
theorem ok68 : te68.ok Tryz.prog := ⟨Tryz.underlying68, Tryz.t68, Tryz.type68, rfl, rfl, rfl⟩
theorem ok69 : te69.ok Tryz.prog := ⟨Tryz.underlying69, Tryz.t69, Tryz.type69, rfl, rfl, rfl⟩
theorem ok70 : te70.ok Tryz.prog := ⟨Tryz.underlying70, Tryz.t70, Tryz.type70, rfl, rfl, rfl⟩
theorem ok71 : te71.ok Tryz.prog := ⟨Tryz.underlying71, Tryz.t71, Tryz.type71, rfl, rfl, rfl⟩
theorem ok72 : te72.ok Tryz.prog := ⟨Tryz.underlying72, Tryz.t72, Tryz.type72, rfl, rfl, rfl⟩
theorem ok73 : te73.ok Tryz.prog := ⟨Tryz.underlying73, Tryz.t73, Tryz.type73, rfl, rfl, rfl⟩
theorem ok74 : te74.ok Tryz.prog := ⟨Tryz.underlying74, Tryz.t74, Tryz.type74, rfl, rfl, rfl⟩
theorem ok76 : te76.ok Tryz.prog := ⟨Tryz.underlying76, Tryz.t76, Tryz.type76, rfl, rfl, rfl⟩
theorem ok77 : te77.ok Tryz.prog := ⟨Tryz.underlying77, Tryz.t77, Tryz.type77, rfl, rfl, rfl⟩
theorem ok78 : te78.ok Tryz.prog := ⟨Tryz.underlying78, Tryz.t78, Tryz.type78, rfl, rfl, rfl⟩
theorem ok79 : te79.ok Tryz.prog := ⟨Tryz.underlying79, Tryz.t79, Tryz.type79, rfl, rfl, rfl⟩
theorem ok82 : te82.ok Tryz.prog := ⟨Tryz.underlying82, Tryz.t82, Tryz.type82, rfl, rfl, rfl⟩
theorem ok85 : te85.ok Tryz.prog := ⟨Tryz.underlying85, Tryz.t85, Tryz.type85, rfl, rfl, rfl⟩
theorem ok86 : te86.ok Tryz.prog := ⟨Tryz.underlying86, Tryz.t86, Tryz.type86, rfl, rfl, rfl⟩
theorem ok87 : te87.ok Tryz.prog := ⟨Tryz.underlying87, Tryz.t87, Tryz.type87, rfl, rfl, rfl⟩
theorem ok88 : te88.ok Tryz.prog := ⟨Tryz.underlying88, Tryz.t88, Tryz.type88, rfl, rfl, rfl⟩
theorem ok90 : te90.ok Tryz.prog := ⟨Tryz.underlying90, Tryz.t90, Tryz.type90, rfl, rfl, rfl⟩
theorem ok91 : te91.ok Tryz.prog := ⟨Tryz.underlying91, Tryz.t91, Tryz.type91, rfl, rfl, rfl⟩
theorem ok95 : te95.ok Tryz.prog := ⟨Tryz.underlying95, Tryz.t95, Tryz.type95, rfl, rfl, rfl⟩
theorem ok96 : te96.ok Tryz.prog := ⟨Tryz.underlying96, Tryz.t96, Tryz.type96, rfl, rfl, rfl⟩
theorem ok97 : te97.ok Tryz.prog := ⟨Tryz.underlying97, Tryz.t97, Tryz.type97, rfl, rfl, rfl⟩
theorem ok98 : te98.ok Tryz.prog := ⟨Tryz.underlying98, Tryz.t98, Tryz.type98, rfl, rfl, rfl⟩
theorem ok99 : te99.ok Tryz.prog := ⟨Tryz.underlying99, Tryz.t99, Tryz.type99, rfl, rfl, rfl⟩
theorem ok100 : te100.ok Tryz.prog := ⟨Tryz.underlying100, Tryz.t100, Tryz.type100, rfl, rfl, rfl⟩
theorem ok101 : te101.ok Tryz.prog := ⟨Tryz.underlying101, Tryz.t101, Tryz.type101, rfl, rfl, rfl⟩
theorem ok102 : te102.ok Tryz.prog := ⟨Tryz.underlying102, Tryz.t102, Tryz.type102, rfl, rfl, rfl⟩
theorem ok103 : te103.ok Tryz.prog := ⟨Tryz.underlying103, Tryz.t103, Tryz.type103, rfl, rfl, rfl⟩
theorem ok104 : te104.ok Tryz.prog := ⟨Tryz.underlying104, Tryz.t104, Tryz.type104, rfl, rfl, rfl⟩
theorem ok105 : te105.ok Tryz.prog := ⟨Tryz.underlying105, Tryz.t105, Tryz.type105, rfl, rfl, rfl⟩
theorem ok106 : te106.ok Tryz.prog := ⟨Tryz.underlying106, Tryz.t106, Tryz.type106, rfl, rfl, rfl⟩
theorem ok107 : te107.ok Tryz.prog := ⟨Tryz.underlying107, Tryz.t107, Tryz.type107, rfl, rfl, rfl⟩
theorem ok108 : te108.ok Tryz.prog := ⟨Tryz.underlying108, Tryz.t108, Tryz.type108, rfl, rfl, rfl⟩
theorem ok109 : te109.ok Tryz.prog := ⟨Tryz.underlying109, Tryz.t109, Tryz.type109, rfl, rfl, rfl⟩
theorem ok110 : te110.ok Tryz.prog := ⟨Tryz.underlying110, Tryz.t110, Tryz.type110, rfl, rfl, rfl⟩
theorem ok111 : te111.ok Tryz.prog := ⟨Tryz.underlying111, Tryz.t111, Tryz.type111, rfl, rfl, rfl⟩
theorem ok112 : te112.ok Tryz.prog := ⟨Tryz.underlying112, Tryz.t112, Tryz.type112, rfl, rfl, rfl⟩
theorem ok116 : te116.ok Tryz.prog := ⟨Tryz.underlying116, Tryz.t116, Tryz.type116, rfl, rfl, rfl⟩
theorem ok121 : te121.ok Tryz.prog := ⟨Tryz.underlying121, Tryz.t121, Tryz.type121, rfl, rfl, rfl⟩
theorem ok122 : te122.ok Tryz.prog := ⟨Tryz.underlying122, Tryz.t122, Tryz.type122, rfl, rfl, rfl⟩
theorem ok123 : te123.ok Tryz.prog := ⟨Tryz.underlying123, Tryz.t123, Tryz.type123, rfl, rfl, rfl⟩
theorem ok124 : te124.ok Tryz.prog := ⟨Tryz.underlying124, Tryz.t124, Tryz.type124, rfl, rfl, rfl⟩
theorem ok127 : te127.ok Tryz.prog := ⟨Tryz.underlying127, Tryz.t127, Tryz.type127, rfl, rfl, rfl⟩
theorem ok128 : te128.ok Tryz.prog := ⟨Tryz.underlying128, Tryz.t128, Tryz.type128, rfl, rfl, rfl⟩
theorem ok129 : te129.ok Tryz.prog := ⟨Tryz.underlying129, Tryz.t129, Tryz.type129, rfl, rfl, rfl⟩
theorem ok130 : te130.ok Tryz.prog := ⟨Tryz.underlying130, Tryz.t130, Tryz.type130, rfl, rfl, rfl⟩
theorem ok131 : te131.ok Tryz.prog := ⟨Tryz.underlying131, Tryz.t131, Tryz.type131, rfl, rfl, rfl⟩
theorem ok132 : te132.ok Tryz.prog := ⟨Tryz.underlying132, Tryz.t132, Tryz.type132, rfl, rfl, rfl⟩
theorem ok133 : te133.ok Tryz.prog := ⟨Tryz.underlying133, Tryz.t133, Tryz.type133, rfl, rfl, rfl⟩
theorem ok136 : te136.ok Tryz.prog := ⟨Tryz.underlying136, Tryz.t136, Tryz.type136, rfl, rfl, rfl⟩
theorem ok137 : te137.ok Tryz.prog := ⟨Tryz.underlying137, Tryz.t137, Tryz.type137, rfl, rfl, rfl⟩
theorem ok138 : te138.ok Tryz.prog := ⟨Tryz.underlying138, Tryz.t138, Tryz.type138, rfl, rfl, rfl⟩
theorem ok139 : te139.ok Tryz.prog := ⟨Tryz.underlying139, Tryz.t139, Tryz.type139, rfl, rfl, rfl⟩
theorem ok141 : te141.ok Tryz.prog := ⟨Tryz.underlying141, Tryz.t141, Tryz.type141, rfl, rfl, rfl⟩
theorem ok142 : te142.ok Tryz.prog := ⟨Tryz.underlying142, Tryz.t142, Tryz.type142, rfl, rfl, rfl⟩
theorem ok143 : te143.ok Tryz.prog := ⟨Tryz.underlying143, Tryz.t143, Tryz.type143, rfl, rfl, rfl⟩
theorem ok144 : te144.ok Tryz.prog := ⟨Tryz.underlying144, Tryz.t144, Tryz.type144, rfl, rfl, rfl⟩
theorem ok145 : te145.ok Tryz.prog := ⟨Tryz.underlying145, Tryz.t145, Tryz.type145, rfl, rfl, rfl⟩
theorem ok146 : te146.ok Tryz.prog := ⟨Tryz.underlying146, Tryz.t146, Tryz.type146, rfl, rfl, rfl⟩
theorem ok147 : te147.ok Tryz.prog := ⟨Tryz.underlying147, Tryz.t147, Tryz.type147, rfl, rfl, rfl⟩
theorem ok148 : te148.ok Tryz.prog := ⟨Tryz.underlying148, Tryz.t148, Tryz.type148, rfl, rfl, rfl⟩
theorem ok150 : te150.ok Tryz.prog := ⟨Tryz.underlying150, Tryz.t150, Tryz.type150, rfl, rfl, rfl⟩
theorem ok151 : te151.ok Tryz.prog := ⟨Tryz.underlying151, Tryz.t151, Tryz.type151, rfl, rfl, rfl⟩
theorem ok152 : te152.ok Tryz.prog := ⟨Tryz.underlying152, Tryz.t152, Tryz.type152, rfl, rfl, rfl⟩
theorem ok153 : te153.ok Tryz.prog := ⟨Tryz.underlying153, Tryz.t153, Tryz.type153, rfl, rfl, rfl⟩
theorem ok155 : te155.ok Tryz.prog := ⟨Tryz.underlying155, Tryz.t155, Tryz.type155, rfl, rfl, rfl⟩
theorem ok156 : te156.ok Tryz.prog := ⟨Tryz.underlying156, Tryz.t156, Tryz.type156, rfl, rfl, rfl⟩
theorem ok158 : te158.ok Tryz.prog := ⟨Tryz.underlying158, Tryz.t158, Tryz.type158, rfl, rfl, rfl⟩
theorem ok159 : te159.ok Tryz.prog := ⟨Tryz.underlying159, Tryz.t159, Tryz.type159, rfl, rfl, rfl⟩
theorem ok160 : te160.ok Tryz.prog := ⟨Tryz.underlying160, Tryz.t160, Tryz.type160, rfl, rfl, rfl⟩
theorem ok161 : te161.ok Tryz.prog := ⟨Tryz.underlying161, Tryz.t161, Tryz.type161, rfl, rfl, rfl⟩
theorem ok164 : te164.ok Tryz.prog := ⟨Tryz.underlying164, Tryz.t164, Tryz.type164, rfl, rfl, rfl⟩
theorem ok165 : te165.ok Tryz.prog := ⟨Tryz.underlying165, Tryz.t165, Tryz.type165, rfl, rfl, rfl⟩
theorem ok167 : te167.ok Tryz.prog := ⟨Tryz.underlying167, Tryz.t167, Tryz.type167, rfl, rfl, rfl⟩
theorem ok168 : te168.ok Tryz.prog := ⟨Tryz.underlying168, Tryz.t168, Tryz.type168, rfl, rfl, rfl⟩
theorem ok170 : te170.ok Tryz.prog := ⟨Tryz.underlying170, Tryz.t170, Tryz.type170, rfl, rfl, rfl⟩
theorem ok171 : te171.ok Tryz.prog := ⟨Tryz.underlying171, Tryz.t171, Tryz.type171, rfl, rfl, rfl⟩
theorem ok172 : te172.ok Tryz.prog := ⟨Tryz.underlying172, Tryz.t172, Tryz.type172, rfl, rfl, rfl⟩
theorem ok173 : te173.ok Tryz.prog := ⟨Tryz.underlying173, Tryz.t173, Tryz.type173, rfl, rfl, rfl⟩
theorem ok175 : te175.ok Tryz.prog := ⟨Tryz.underlying175, Tryz.t175, Tryz.type175, rfl, rfl, rfl⟩
theorem ok176 : te176.ok Tryz.prog := ⟨Tryz.underlying176, Tryz.t176, Tryz.type176, rfl, rfl, rfl⟩
theorem ok177 : te177.ok Tryz.prog := ⟨Tryz.underlying177, Tryz.t177, Tryz.type177, rfl, rfl, rfl⟩
theorem ok178 : te178.ok Tryz.prog := ⟨Tryz.underlying178, Tryz.t178, Tryz.type178, rfl, rfl, rfl⟩
theorem ok179 : te179.ok Tryz.prog := ⟨Tryz.underlying179, Tryz.t179, Tryz.type179, rfl, rfl, rfl⟩
theorem ok180 : te180.ok Tryz.prog := ⟨Tryz.underlying180, Tryz.t180, Tryz.type180, rfl, rfl, rfl⟩
theorem ok184 : te184.ok Tryz.prog := ⟨Tryz.underlying184, Tryz.t184, Tryz.type184, rfl, rfl, rfl⟩
theorem ok188 : te188.ok Tryz.prog := ⟨Tryz.underlying188, Tryz.t188, Tryz.type188, rfl, rfl, rfl⟩
theorem ok190 : te190.ok Tryz.prog := ⟨Tryz.underlying190, Tryz.t190, Tryz.type190, rfl, rfl, rfl⟩
theorem ok191 : te191.ok Tryz.prog := ⟨Tryz.underlying191, Tryz.t191, Tryz.type191, rfl, rfl, rfl⟩
theorem ok192 : te192.ok Tryz.prog := ⟨Tryz.underlying192, Tryz.t192, Tryz.type192, rfl, rfl, rfl⟩
theorem ok193 : te193.ok Tryz.prog := ⟨Tryz.underlying193, Tryz.t193, Tryz.type193, rfl, rfl, rfl⟩
theorem ok194 : te194.ok Tryz.prog := ⟨Tryz.underlying194, Tryz.t194, Tryz.type194, rfl, rfl, rfl⟩
theorem ok195 : te195.ok Tryz.prog := ⟨Tryz.underlying195, Tryz.t195, Tryz.type195, rfl, rfl, rfl⟩
theorem ok196 : te196.ok Tryz.prog := ⟨Tryz.underlying196, Tryz.t196, Tryz.type196, rfl, rfl, rfl⟩
theorem ok197 : te197.ok Tryz.prog := ⟨Tryz.underlying197, Tryz.t197, Tryz.type197, rfl, rfl, rfl⟩
theorem ok198 : te198.ok Tryz.prog := ⟨Tryz.underlying198, Tryz.t198, Tryz.type198, rfl, rfl, rfl⟩
theorem ok199 : te199.ok Tryz.prog := ⟨Tryz.underlying199, Tryz.t199, Tryz.type199, rfl, rfl, rfl⟩
theorem ok200 : te200.ok Tryz.prog := ⟨Tryz.underlying200, Tryz.t200, Tryz.type200, rfl, rfl, rfl⟩
theorem ok201 : te201.ok Tryz.prog := ⟨Tryz.underlying201, Tryz.t201, Tryz.type201, rfl, rfl, rfl⟩
theorem ok202 : te202.ok Tryz.prog := ⟨Tryz.underlying202, Tryz.t202, Tryz.type202, rfl, rfl, rfl⟩
theorem ok203 : te203.ok Tryz.prog := ⟨Tryz.underlying203, Tryz.t203, Tryz.type203, rfl, rfl, rfl⟩
theorem ok204 : te204.ok Tryz.prog := ⟨Tryz.underlying204, Tryz.t204, Tryz.type204, rfl, rfl, rfl⟩
theorem ok205 : te205.ok Tryz.prog := ⟨Tryz.underlying205, Tryz.t205, Tryz.type205, rfl, rfl, rfl⟩
theorem ok206 : te206.ok Tryz.prog := ⟨Tryz.underlying206, Tryz.t206, Tryz.type206, rfl, rfl, rfl⟩
theorem ok208 : te208.ok Tryz.prog := ⟨Tryz.underlying208, Tryz.t208, Tryz.type208, rfl, rfl, rfl⟩
theorem ok209 : te209.ok Tryz.prog := ⟨Tryz.underlying209, Tryz.t209, Tryz.type209, rfl, rfl, rfl⟩
theorem ok211 : te211.ok Tryz.prog := ⟨Tryz.underlying211, Tryz.t211, Tryz.type211, rfl, rfl, rfl⟩
theorem ok212 : te212.ok Tryz.prog := ⟨Tryz.underlying212, Tryz.t212, Tryz.type212, rfl, rfl, rfl⟩
theorem ok213 : te213.ok Tryz.prog := ⟨Tryz.underlying213, Tryz.t213, Tryz.type213, rfl, rfl, rfl⟩
theorem ok214 : te214.ok Tryz.prog := ⟨Tryz.underlying214, Tryz.t214, Tryz.type214, rfl, rfl, rfl⟩
theorem ok216 : te216.ok Tryz.prog := ⟨Tryz.underlying216, Tryz.t216, Tryz.type216, rfl, rfl, rfl⟩
theorem ok217 : te217.ok Tryz.prog := ⟨Tryz.underlying217, Tryz.t217, Tryz.type217, rfl, rfl, rfl⟩
theorem ok218 : te218.ok Tryz.prog := ⟨Tryz.underlying218, Tryz.t218, Tryz.type218, rfl, rfl, rfl⟩
theorem ok219 : te219.ok Tryz.prog := ⟨Tryz.underlying219, Tryz.t219, Tryz.type219, rfl, rfl, rfl⟩
theorem ok220 : te220.ok Tryz.prog := ⟨Tryz.underlying220, Tryz.t220, Tryz.type220, rfl, rfl, rfl⟩
theorem ok221 : te221.ok Tryz.prog := ⟨Tryz.underlying221, Tryz.t221, Tryz.type221, rfl, rfl, rfl⟩
theorem ok222 : te222.ok Tryz.prog := ⟨Tryz.underlying222, Tryz.t222, Tryz.type222, rfl, rfl, rfl⟩
theorem ok223 : te223.ok Tryz.prog := ⟨Tryz.underlying223, Tryz.t223, Tryz.type223, rfl, rfl, rfl⟩
theorem ok224 : te224.ok Tryz.prog := ⟨Tryz.underlying224, Tryz.t224, Tryz.type224, rfl, rfl, rfl⟩
theorem ok225 : te225.ok Tryz.prog := ⟨Tryz.underlying225, Tryz.t225, Tryz.type225, rfl, rfl, rfl⟩
theorem ok227 : te227.ok Tryz.prog := ⟨Tryz.underlying227, Tryz.t227, Tryz.type227, rfl, rfl, rfl⟩
theorem ok229 : te229.ok Tryz.prog := ⟨Tryz.underlying229, Tryz.t229, Tryz.type229, rfl, rfl, rfl⟩
theorem ok231 : te231.ok Tryz.prog := ⟨Tryz.underlying231, Tryz.t231, Tryz.type231, rfl, rfl, rfl⟩
theorem ok232 : te232.ok Tryz.prog := ⟨Tryz.underlying232, Tryz.t232, Tryz.type232, rfl, rfl, rfl⟩
theorem ok237 : te237.ok Tryz.prog := ⟨Tryz.underlying237, Tryz.t237, Tryz.type237, rfl, rfl, rfl⟩
theorem ok238 : te238.ok Tryz.prog := ⟨Tryz.underlying238, Tryz.t238, Tryz.type238, rfl, rfl, rfl⟩
theorem ok239 : te239.ok Tryz.prog := ⟨Tryz.underlying239, Tryz.t239, Tryz.type239, rfl, rfl, rfl⟩
theorem ok241 : te241.ok Tryz.prog := ⟨Tryz.underlying241, Tryz.t241, Tryz.type241, rfl, rfl, rfl⟩
theorem ok242 : te242.ok Tryz.prog := ⟨Tryz.underlying242, Tryz.t242, Tryz.type242, rfl, rfl, rfl⟩
theorem ok243 : te243.ok Tryz.prog := ⟨Tryz.underlying243, Tryz.t243, Tryz.type243, rfl, rfl, rfl⟩
theorem ok246 : te246.ok Tryz.prog := ⟨Tryz.underlying246, Tryz.t246, Tryz.type246, rfl, rfl, rfl⟩
theorem ok247 : te247.ok Tryz.prog := ⟨Tryz.underlying247, Tryz.t247, Tryz.type247, rfl, rfl, rfl⟩
theorem ok255 : te255.ok Tryz.prog := ⟨Tryz.underlying255, Tryz.t255, Tryz.type255, rfl, rfl, rfl⟩
def seatT : List TE := [te3, te4, te9, te34, te35, te40, te41, te44, te45, te51, te52, te53, te54, te57, te58, te83, te84, te93, te94, te114, te115, te117, te118, te119, te120, te125, te126, te134, te135, te162, te163, te182, te183, te234, te235, te260, te261, te22, te23, te25, te38, te39, te42, te43, te50, te80, te81, te89, te92, te113, te140, te181, te1, te2, te5, te12, te21, te24, te26, te27, te28, te29, te30, te31, te32, te33, te36, te37, te46, te47, te48, te49, te55, te56, te59, te60, te61, te62, te63, te64, te65, te66, te67, te68, te69, te70, te71, te72, te73, te74, te76, te77, te78, te79, te82, te85, te86, te87, te88, te90, te91, te95, te96, te97, te98, te99, te100, te101, te102, te103, te104, te105, te106, te107, te108, te109, te110, te111, te112, te116, te121, te122, te123, te124, te127, te128, te129, te130, te131, te132, te133, te136, te137, te138, te139, te141, te142, te143, te144, te145, te146, te147, te148, te150, te151, te152, te153, te155, te156, te158, te159, te160, te161, te164, te165, te167, te168, te170, te171, te172, te173, te175, te176, te177, te178, te179, te180, te184, te188, te190, te191, te192, te193, te194, te195, te196, te197, te198, te199, te200, te201, te202, te203, te204, te205, te206, te208, te209, te211, te212, te213, te214, te216, te217, te218, te219, te220, te221, te222, te223, te224, te225, te227, te229, te231, te232, te237, te238, te239, te241, te242, te243, te246, te247, te255]
theorem seatT_ok : ∀ e ∈ seatT, e.ok Tryz.prog := by
  unfold seatT
  refine List.forall_mem_cons.2 ⟨ok3, ?_⟩
  refine List.forall_mem_cons.2 ⟨ok4, ?_⟩
  refine List.forall_mem_cons.2 ⟨ok9, ?_⟩
  refine List.forall_mem_cons.2 ⟨ok34, ?_⟩
  refine List.forall_mem_cons.2 ⟨ok35, ?_⟩
  refine List.forall_mem_cons.2 ⟨ok40, ?_⟩
  refine List.forall_mem_cons.2 ⟨ok41, ?_⟩
  refine List.forall_mem_cons.2 ⟨ok44, ?_⟩
  refine List.forall_mem_cons.2 ⟨ok45, ?_⟩
  refine List.forall_mem_cons.2 ⟨ok51, ?_⟩
  refine List.forall_mem_cons.2 ⟨ok52, ?_⟩
  refine List.forall_mem_cons.2 ⟨ok53, ?_⟩
  refine List.forall_mem_cons.2 ⟨ok54, ?_⟩
  refine List.forall_mem_cons.2 ⟨ok57, ?_⟩
  refine List.forall_mem_cons.2 ⟨ok58, ?_⟩
  refine List.forall_mem_cons.2 ⟨ok83, ?_⟩
  refine List.forall_mem_cons.2 ⟨ok84, ?_⟩
  refine List.forall_mem_cons.2 ⟨ok93, ?_⟩
  refine List.forall_mem_cons.2 ⟨ok94, ?_⟩
  refine List.forall_mem_cons.2 ⟨ok114, ?_⟩
  refine List.forall_mem_cons.2 ⟨ok115, ?_⟩
  refine List.forall_mem_cons.2 ⟨ok117, ?_⟩
  refine List.forall_mem_cons.2 ⟨ok118, ?_⟩
  refine List.forall_mem_cons.2 ⟨ok119, ?_⟩
  refine List.forall_mem_cons.2 ⟨ok120, ?_⟩
  refine List.forall_mem_cons.2 ⟨ok125, ?_⟩
  refine List.forall_mem_cons.2 ⟨ok126, ?_⟩
  refine List.forall_mem_cons.2 ⟨ok134, ?_⟩
  refine List.forall_mem_cons.2 ⟨ok135, ?_⟩
  refine List.forall_mem_cons.2 ⟨ok162, ?_⟩
  refine List.forall_mem_cons.2 ⟨ok163, ?_⟩
  refine List.forall_mem_cons.2 ⟨ok182, ?_⟩
  refine List.forall_mem_cons.2 ⟨ok183, ?_⟩
  refine List.forall_mem_cons.2 ⟨ok234, ?_⟩
  refine List.forall_mem_cons.2 ⟨ok235, ?_⟩
  refine List.forall_mem_cons.2 ⟨ok260, ?_⟩
  refine List.forall_mem_cons.2 ⟨ok261, ?_⟩
  refine List.forall_mem_cons.2 ⟨ok22, ?_⟩
  refine List.forall_mem_cons.2 ⟨ok23, ?_⟩
  refine List.forall_mem_cons.2 ⟨ok25, ?_⟩
  refine List.forall_mem_cons.2 ⟨ok38, ?_⟩
  refine List.forall_mem_cons.2 ⟨ok39, ?_⟩
  refine List.forall_mem_cons.2 ⟨ok42, ?_⟩
  refine List.forall_mem_cons.2 ⟨ok43, ?_⟩
  refine List.forall_mem_cons.2 ⟨ok50, ?_⟩
  refine List.forall_mem_cons.2 ⟨ok80, ?_⟩
  refine List.forall_mem_cons.2 ⟨ok81, ?_⟩
  refine List.forall_mem_cons.2 ⟨ok89, ?_⟩
  refine List.forall_mem_cons.2 ⟨ok92, ?_⟩
  refine List.forall_mem_cons.2 ⟨ok113, ?_⟩
  refine List.forall_mem_cons.2 ⟨ok140, ?_⟩
  refine List.forall_mem_cons.2 ⟨ok181, ?_⟩
  refine List.forall_mem_cons.2 ⟨ok1, ?_⟩
  refine List.forall_mem_cons.2 ⟨ok2, ?_⟩
  refine List.forall_mem_cons.2 ⟨ok5, ?_⟩
  refine List.forall_mem_cons.2 ⟨ok12, ?_⟩
  refine List.forall_mem_cons.2 ⟨ok21, ?_⟩
  refine List.forall_mem_cons.2 ⟨ok24, ?_⟩
  refine List.forall_mem_cons.2 ⟨ok26, ?_⟩
  refine List.forall_mem_cons.2 ⟨ok27, ?_⟩
  refine List.forall_mem_cons.2 ⟨ok28, ?_⟩
  refine List.forall_mem_cons.2 ⟨ok29, ?_⟩
  refine List.forall_mem_cons.2 ⟨ok30, ?_⟩
  refine List.forall_mem_cons.2 ⟨ok31, ?_⟩
  refine List.forall_mem_cons.2 ⟨ok32, ?_⟩
  refine List.forall_mem_cons.2 ⟨ok33, ?_⟩
  refine List.forall_mem_cons.2 ⟨ok36, ?_⟩
  refine List.forall_mem_cons.2 ⟨ok37, ?_⟩
  refine List.forall_mem_cons.2 ⟨ok46, ?_⟩
  refine List.forall_mem_cons.2 ⟨ok47, ?_⟩
  refine List.forall_mem_cons.2 ⟨ok48, ?_⟩
  refine List.forall_mem_cons.2 ⟨ok49, ?_⟩
  refine List.forall_mem_cons.2 ⟨ok55, ?_⟩
  refine List.forall_mem_cons.2 ⟨ok56, ?_⟩
  refine List.forall_mem_cons.2 ⟨ok59, ?_⟩
  refine List.forall_mem_cons.2 ⟨ok60, ?_⟩
  refine List.forall_mem_cons.2 ⟨ok61, ?_⟩
  refine List.forall_mem_cons.2 ⟨ok62, ?_⟩
  refine List.forall_mem_cons.2 ⟨ok63, ?_⟩
  refine List.forall_mem_cons.2 ⟨ok64, ?_⟩
  refine List.forall_mem_cons.2 ⟨ok65, ?_⟩
  refine List.forall_mem_cons.2 ⟨ok66, ?_⟩
  refine List.forall_mem_cons.2 ⟨ok67, ?_⟩
  refine List.forall_mem_cons.2 ⟨ok68, ?_⟩
  refine List.forall_mem_cons.2 ⟨ok69, ?_⟩
  refine List.forall_mem_cons.2 ⟨ok70, ?_⟩
  refine List.forall_mem_cons.2 ⟨ok71, ?_⟩
  refine List.forall_mem_cons.2 ⟨ok72, ?_⟩
  refine List.forall_mem_cons.2 ⟨ok73, ?_⟩
  refine List.forall_mem_cons.2 ⟨ok74, ?_⟩
  refine List.forall_mem_cons.2 ⟨ok76, ?_⟩
  refine List.forall_mem_cons.2 ⟨ok77, ?_⟩
  refine List.forall_mem_cons.2 ⟨ok78, ?_⟩
  refine List.forall_mem_cons.2 ⟨ok79, ?_⟩
  refine List.forall_mem_cons.2 ⟨ok82, ?_⟩
  refine List.forall_mem_cons.2 ⟨ok85, ?_⟩
  refine List.forall_mem_cons.2 ⟨ok86, ?_⟩
  refine List.forall_mem_cons.2 ⟨ok87, ?_⟩
  refine List.forall_mem_cons.2 ⟨ok88, ?_⟩
  refine List.forall_mem_cons.2 ⟨ok90, ?_⟩
  refine List.forall_mem_cons.2 ⟨ok91, ?_⟩
  refine List.forall_mem_cons.2 ⟨ok95, ?_⟩
  refine List.forall_mem_cons.2 ⟨ok96, ?_⟩
  refine List.forall_mem_cons.2 ⟨ok97, ?_⟩
  refine List.forall_mem_cons.2 ⟨ok98, ?_⟩
  refine List.forall_mem_cons.2 ⟨ok99, ?_⟩
  refine List.forall_mem_cons.2 ⟨ok100, ?_⟩
  refine List.forall_mem_cons.2 ⟨ok101, ?_⟩
  refine List.forall_mem_cons.2 ⟨ok102, ?_⟩
  refine List.forall_mem_cons.2 ⟨ok103, ?_⟩
  refine List.forall_mem_cons.2 ⟨ok104, ?_⟩
  refine List.forall_mem_cons.2 ⟨ok105, ?_⟩
  refine List.forall_mem_cons.2 ⟨ok106, ?_⟩
  refine List.forall_mem_cons.2 ⟨ok107, ?_⟩
  refine List.forall_mem_cons.2 ⟨ok108, ?_⟩
  refine List.forall_mem_cons.2 ⟨ok109, ?_⟩
  refine List.forall_mem_cons.2 ⟨ok110, ?_⟩
  refine List.forall_mem_cons.2 ⟨ok111, ?_⟩
  refine List.forall_mem_cons.2 ⟨ok112, ?_⟩
  refine List.forall_mem_cons.2 ⟨ok116, ?_⟩
  refine List.forall_mem_cons.2 ⟨ok121, ?_⟩
  refine List.forall_mem_cons.2 ⟨ok122, ?_⟩
  refine List.forall_mem_cons.2 ⟨ok123, ?_⟩
  refine List.forall_mem_cons.2 ⟨ok124, ?_⟩
  refine List.forall_mem_cons.2 ⟨ok127, ?_⟩
  refine List.forall_mem_cons.2 ⟨ok128, ?_⟩
  refine List.forall_mem_cons.2 ⟨ok129, ?_⟩
  refine List.forall_mem_cons.2 ⟨ok130, ?_⟩
  refine List.forall_mem_cons.2 ⟨ok131, ?_⟩
  refine List.forall_mem_cons.2 ⟨ok132, ?_⟩
  refine List.forall_mem_cons.2 ⟨ok133, ?_⟩
  refine List.forall_mem_cons.2 ⟨ok136, ?_⟩
  refine List.forall_mem_cons.2 ⟨ok137, ?_⟩
  refine List.forall_mem_cons.2 ⟨ok138, ?_⟩
  refine List.forall_mem_cons.2 ⟨ok139, ?_⟩
  refine List.forall_mem_cons.2 ⟨ok141, ?_⟩
  refine List.forall_mem_cons.2 ⟨ok142, ?_⟩
  refine List.forall_mem_cons.2 ⟨ok143, ?_⟩
  refine List.forall_mem_cons.2 ⟨ok144, ?_⟩
  refine List.forall_mem_cons.2 ⟨ok145, ?_⟩
  refine List.forall_mem_cons.2 ⟨ok146, ?_⟩
  refine List.forall_mem_cons.2 ⟨ok147, ?_⟩
  refine List.forall_mem_cons.2 ⟨ok148, ?_⟩
  refine List.forall_mem_cons.2 ⟨ok150, ?_⟩
  refine List.forall_mem_cons.2 ⟨ok151, ?_⟩
  refine List.forall_mem_cons.2 ⟨ok152, ?_⟩
  refine List.forall_mem_cons.2 ⟨ok153, ?_⟩
  refine List.forall_mem_cons.2 ⟨ok155, ?_⟩
  refine List.forall_mem_cons.2 ⟨ok156, ?_⟩
  refine List.forall_mem_cons.2 ⟨ok158, ?_⟩
  refine List.forall_mem_cons.2 ⟨ok159, ?_⟩
  refine List.forall_mem_cons.2 ⟨ok160, ?_⟩
  refine List.forall_mem_cons.2 ⟨ok161, ?_⟩
  refine List.forall_mem_cons.2 ⟨ok164, ?_⟩
  refine List.forall_mem_cons.2 ⟨ok165, ?_⟩
  refine List.forall_mem_cons.2 ⟨ok167, ?_⟩
  refine List.forall_mem_cons.2 ⟨ok168, ?_⟩
  refine List.forall_mem_cons.2 ⟨ok170, ?_⟩
  refine List.forall_mem_cons.2 ⟨ok171, ?_⟩
  refine List.forall_mem_cons.2 ⟨ok172, ?_⟩
  refine List.forall_mem_cons.2 ⟨ok173, ?_⟩
  refine List.forall_mem_cons.2 ⟨ok175, ?_⟩
  refine List.forall_mem_cons.2 ⟨ok176, ?_⟩
  refine List.forall_mem_cons.2 ⟨ok177, ?_⟩
  refine List.forall_mem_cons.2 ⟨ok178, ?_⟩
  refine List.forall_mem_cons.2 ⟨ok179, ?_⟩
  refine List.forall_mem_cons.2 ⟨ok180, ?_⟩
  refine List.forall_mem_cons.2 ⟨ok184, ?_⟩
  refine List.forall_mem_cons.2 ⟨ok188, ?_⟩
  refine List.forall_mem_cons.2 ⟨ok190, ?_⟩
  refine List.forall_mem_cons.2 ⟨ok191, ?_⟩
  refine List.forall_mem_cons.2 ⟨ok192, ?_⟩
  refine List.forall_mem_cons.2 ⟨ok193, ?_⟩
  refine List.forall_mem_cons.2 ⟨ok194, ?_⟩
  refine List.forall_mem_cons.2 ⟨ok195, ?_⟩
  refine List.forall_mem_cons.2 ⟨ok196, ?_⟩
  refine List.forall_mem_cons.2 ⟨ok197, ?_⟩
  refine List.forall_mem_cons.2 ⟨ok198, ?_⟩
  refine List.forall_mem_cons.2 ⟨ok199, ?_⟩
  refine List.forall_mem_cons.2 ⟨ok200, ?_⟩
  refine List.forall_mem_cons.2 ⟨ok201, ?_⟩
  refine List.forall_mem_cons.2 ⟨ok202, ?_⟩
  refine List.forall_mem_cons.2 ⟨ok203, ?_⟩
  refine List.forall_mem_cons.2 ⟨ok204, ?_⟩
  refine List.forall_mem_cons.2 ⟨ok205, ?_⟩
  refine List.forall_mem_cons.2 ⟨ok206, ?_⟩
  refine List.forall_mem_cons.2 ⟨ok208, ?_⟩
  refine List.forall_mem_cons.2 ⟨ok209, ?_⟩
  refine List.forall_mem_cons.2 ⟨ok211, ?_⟩
  refine List.forall_mem_cons.2 ⟨ok212, ?_⟩
  refine List.forall_mem_cons.2 ⟨ok213, ?_⟩
  refine List.forall_mem_cons.2 ⟨ok214, ?_⟩
  refine List.forall_mem_cons.2 ⟨ok216, ?_⟩
  refine List.forall_mem_cons.2 ⟨ok217, ?_⟩
  refine List.forall_mem_cons.2 ⟨ok218, ?_⟩
  refine List.forall_mem_cons.2 ⟨ok219, ?_⟩
  refine List.forall_mem_cons.2 ⟨ok220, ?_⟩
  refine List.forall_mem_cons.2 ⟨ok221, ?_⟩
  refine List.forall_mem_cons.2 ⟨ok222, ?_⟩
  refine List.forall_mem_cons.2 ⟨ok223, ?_⟩
  refine List.forall_mem_cons.2 ⟨ok224, ?_⟩
  refine List.forall_mem_cons.2 ⟨ok225, ?_⟩
  refine List.forall_mem_cons.2 ⟨ok227, ?_⟩
  refine List.forall_mem_cons.2 ⟨ok229, ?_⟩
  refine List.forall_mem_cons.2 ⟨ok231, ?_⟩
  refine List.forall_mem_cons.2 ⟨ok232, ?_⟩
  refine List.forall_mem_cons.2 ⟨ok237, ?_⟩
  refine List.forall_mem_cons.2 ⟨ok238, ?_⟩
  refine List.forall_mem_cons.2 ⟨ok239, ?_⟩
  refine List.forall_mem_cons.2 ⟨ok241, ?_⟩
  refine List.forall_mem_cons.2 ⟨ok242, ?_⟩
  refine List.forall_mem_cons.2 ⟨ok243, ?_⟩
  refine List.forall_mem_cons.2 ⟨ok246, ?_⟩
  refine List.forall_mem_cons.2 ⟨ok247, ?_⟩
  refine List.forall_mem_cons.2 ⟨ok255, ?_⟩
  intro e h; cases h
def seatG : List GE := [{ g := 0, x := .agg [.int 0, .int 1] }]
/-- The table of powers of ten is as laid, and the library's bound on lengths is some int. -/
def seatI (w : World) (F : Nat → Prop) : Prop := (F 3 ∧ Lib.TabIs Tryz.prog w "internal/strconv.uint64pow10" .u64 Lib.pow10Tab) ∧ (F 4 ∧ ∃ m : Int, w.cell? ⟨4, 0, none⟩ = some (.int .i64 m))
theorem seatI_mono : ∀ (w w' : World) (F F' : Nat → Prop), (∀ b, F b → F' b) → (∀ b, F b → w'.heap[b]? = w.heap[b]?) → seatI w F → seatI w' F' := by
  rintro w w' F F' hF hw ⟨h1, h2⟩
  refine ⟨?_, ?_⟩
  · obtain ⟨a, b⟩ := h1
    have hg : Program.globalNamed Tryz.prog "internal/strconv.uint64pow10" = some 3 := by kernel_rfl
    refine ⟨hF _ a, ?_⟩
    unfold Lib.TabIs World.var? at b ⊢
    rw [hg] at b ⊢
    simp only [Option.bind_some] at b ⊢
    rw [hw _ a]
    exact b
  · obtain ⟨a, m, b⟩ := h2
    exact ⟨hF _ a, m, by rw [World.cell?_of_block (hw _ a)]; exact b⟩
theorem seatM : Tryz.prog.follows .mixedOrders = true := by kernel_rfl
noncomputable def E : Env := { P := Tryz.prog, T := seatT, G := seatG, hT := seatT_ok, hM := seatM, I := seatI, hI := seatI_mono }
theorem b2 : HasBody E 2 := by intro args w; dsimp only [E]; exact Tryz.call2 args w
theorem b3 : HasBody E 3 := by intro args w; dsimp only [E]; exact Tryz.call3 args w
theorem b4 : HasBody E 4 := by intro args w; dsimp only [E]; exact Tryz.call4 args w
theorem b5 : HasBody E 5 := by intro args w; dsimp only [E]; exact Tryz.call5 args w
theorem b10 : HasBody E 10 := by intro args w; dsimp only [E]; exact Tryz.call10 args w
theorem b14 : HasBody E 14 := by intro args w; dsimp only [E]; exact Tryz.call14 args w
theorem b16 : HasBody E 16 := by intro args w; dsimp only [E]; exact Tryz.call16 args w
theorem b19 : HasBody E 19 := by intro args w; dsimp only [E]; exact Tryz.call19 args w
theorem b20 : HasBody E 20 := by intro args w; dsimp only [E]; exact Tryz.call20 args w
theorem b21 : HasBody E 21 := by intro args w; dsimp only [E]; exact Tryz.call21 args w
theorem b22 : HasBody E 22 := by intro args w; dsimp only [E]; exact Tryz.call22 args w
theorem b23 : HasBody E 23 := by intro args w; dsimp only [E]; exact Tryz.call23 args w
theorem b26 : HasBody E 26 := by intro args w; dsimp only [E]; exact Tryz.call26 args w
theorem b28 : HasBody E 28 := by intro args w; dsimp only [E]; exact Tryz.call28 args w
theorem b29 : HasBody E 29 := by intro args w; dsimp only [E]; exact Tryz.call29 args w
theorem b30 : HasBody E 30 := by intro args w; dsimp only [E]; exact Tryz.call30 args w
theorem b31 : HasBody E 31 := by intro args w; dsimp only [E]; exact Tryz.call31 args w
theorem b32 : HasBody E 32 := by intro args w; dsimp only [E]; exact Tryz.call32 args w
theorem b37 : HasBody E 37 := by intro args w; dsimp only [E]; exact Tryz.call37 args w
theorem b40 : HasBody E 40 := by intro args w; dsimp only [E]; exact Tryz.call40 args w
theorem b41 : HasBody E 41 := by intro args w; dsimp only [E]; exact Tryz.call41 args w
theorem b44 : HasBody E 44 := by intro args w; dsimp only [E]; exact Tryz.call44 args w
theorem b45 : HasBody E 45 := by intro args w; dsimp only [E]; exact Tryz.call45 args w
theorem b48 : HasBody E 48 := by intro args w; dsimp only [E]; exact Tryz.call48 args w
theorem b49 : HasBody E 49 := by intro args w; dsimp only [E]; exact Tryz.call49 args w
theorem b50 : HasBody E 50 := by intro args w; dsimp only [E]; exact Tryz.call50 args w
theorem b51 : HasBody E 51 := by intro args w; dsimp only [E]; exact Tryz.call51 args w
theorem b52 : HasBody E 52 := by intro args w; dsimp only [E]; exact Tryz.call52 args w
theorem b53 : HasBody E 53 := by intro args w; dsimp only [E]; exact Tryz.call53 args w
theorem b54 : HasBody E 54 := by intro args w; dsimp only [E]; exact Tryz.call54 args w
theorem b55 : HasBody E 55 := by intro args w; dsimp only [E]; exact Tryz.call55 args w
theorem b56 : HasBody E 56 := by intro args w; dsimp only [E]; exact Tryz.call56 args w
theorem b57 : HasBody E 57 := by intro args w; dsimp only [E]; exact Tryz.call57 args w
theorem b58 : HasBody E 58 := by intro args w; dsimp only [E]; exact Tryz.call58 args w
theorem b59 : HasBody E 59 := by intro args w; dsimp only [E]; exact Tryz.call59 args w
theorem b60 : HasBody E 60 := by intro args w; dsimp only [E]; exact Tryz.call60 args w
theorem b61 : HasBody E 61 := by intro args w; dsimp only [E]; exact Tryz.call61 args w
theorem b62 : HasBody E 62 := by intro args w; dsimp only [E]; exact Tryz.call62 args w
theorem b67 : HasBody E 67 := by intro args w; dsimp only [E]; exact Tryz.call67 args w
theorem b73 : HasBody E 73 := by intro args w; dsimp only [E]; exact Tryz.call73 args w
theorem b75 : HasBody E 75 := by intro args w; dsimp only [E]; exact Tryz.call75 args w
theorem b76 : HasBody E 76 := by intro args w; dsimp only [E]; exact Tryz.call76 args w
theorem b77 : HasBody E 77 := by intro args w; dsimp only [E]; exact Tryz.call77 args w
theorem b78 : HasBody E 78 := by intro args w; dsimp only [E]; exact Tryz.call78 args w
theorem b79 : HasBody E 79 := by intro args w; dsimp only [E]; exact Tryz.call79 args w
theorem b80 : HasBody E 80 := by intro args w; dsimp only [E]; exact Tryz.call80 args w
theorem b86 : HasBody E 86 := by intro args w; dsimp only [E]; exact Tryz.call86 args w
theorem b87 : HasBody E 87 := by intro args w; dsimp only [E]; exact Tryz.call87 args w
theorem b89 : HasBody E 89 := by intro args w; dsimp only [E]; exact Tryz.call89 args w
theorem b90 : HasBody E 90 := by intro args w; dsimp only [E]; exact Tryz.call90 args w
theorem b91 : HasBody E 91 := by intro args w; dsimp only [E]; exact Tryz.call91 args w
theorem b92 : HasBody E 92 := by intro args w; dsimp only [E]; exact Tryz.call92 args w
theorem b93 : HasBody E 93 := by intro args w; dsimp only [E]; exact Tryz.call93 args w
theorem b94 : HasBody E 94 := by intro args w; dsimp only [E]; exact Tryz.call94 args w
theorem b95 : HasBody E 95 := by intro args w; dsimp only [E]; exact Tryz.call95 args w
theorem b96 : HasBody E 96 := by intro args w; dsimp only [E]; exact Tryz.call96 args w
theorem b97 : HasBody E 97 := by intro args w; dsimp only [E]; exact Tryz.call97 args w
theorem b98 : HasBody E 98 := by intro args w; dsimp only [E]; exact Tryz.call98 args w
theorem b99 : HasBody E 99 := by intro args w; dsimp only [E]; exact Tryz.call99 args w
theorem b100 : HasBody E 100 := by intro args w; dsimp only [E]; exact Tryz.call100 args w
theorem b101 : HasBody E 101 := by intro args w; dsimp only [E]; exact Tryz.call101 args w
theorem b102 : HasBody E 102 := by intro args w; dsimp only [E]; exact Tryz.call102 args w
theorem b103 : HasBody E 103 := by intro args w; dsimp only [E]; exact Tryz.call103 args w
theorem b109 : HasBody E 109 := by intro args w; dsimp only [E]; exact Tryz.call109 args w
theorem b116 : HasBody E 116 := by intro args w; dsimp only [E]; exact Tryz.call116 args w
theorem b117 : HasBody E 117 := by intro args w; dsimp only [E]; exact Tryz.call117 args w
theorem b118 : HasBody E 118 := by intro args w; dsimp only [E]; exact Tryz.call118 args w
theorem b119 : HasBody E 119 := by intro args w; dsimp only [E]; exact Tryz.call119 args w
theorem b121 : HasBody E 121 := by intro args w; dsimp only [E]; exact Tryz.call121 args w
theorem b126 : HasBody E 126 := by intro args w; dsimp only [E]; exact Tryz.call126 args w
theorem b127 : HasBody E 127 := by intro args w; dsimp only [E]; exact Tryz.call127 args w
theorem b129 : HasBody E 129 := by intro args w; dsimp only [E]; exact Tryz.call129 args w
theorem b132 : HasBody E 132 := by intro args w; dsimp only [E]; exact Tryz.call132 args w
theorem b133 : HasBody E 133 := by intro args w; dsimp only [E]; exact Tryz.call133 args w
theorem b134 : HasBody E 134 := by intro args w; dsimp only [E]; exact Tryz.call134 args w
theorem b135 : HasBody E 135 := by intro args w; dsimp only [E]; exact Tryz.call135 args w
theorem b136 : HasBody E 136 := by intro args w; dsimp only [E]; exact Tryz.call136 args w
theorem b137 : HasBody E 137 := by intro args w; dsimp only [E]; exact Tryz.call137 args w
theorem b138 : HasBody E 138 := by intro args w; dsimp only [E]; exact Tryz.call138 args w
theorem b139 : HasBody E 139 := by intro args w; dsimp only [E]; exact Tryz.call139 args w
theorem b140 : HasBody E 140 := by intro args w; dsimp only [E]; exact Tryz.call140 args w
theorem b141 : HasBody E 141 := by intro args w; dsimp only [E]; exact Tryz.call141 args w
theorem b142 : HasBody E 142 := by intro args w; dsimp only [E]; exact Tryz.call142 args w
theorem b143 : HasBody E 143 := by intro args w; dsimp only [E]; exact Tryz.call143 args w
theorem b144 : HasBody E 144 := by intro args w; dsimp only [E]; exact Tryz.call144 args w
theorem b145 : HasBody E 145 := by intro args w; dsimp only [E]; exact Tryz.call145 args w
theorem b146 : HasBody E 146 := by intro args w; dsimp only [E]; exact Tryz.call146 args w
theorem b147 : HasBody E 147 := by intro args w; dsimp only [E]; exact Tryz.call147 args w
theorem b148 : HasBody E 148 := by intro args w; dsimp only [E]; exact Tryz.call148 args w
theorem b149 : HasBody E 149 := by intro args w; dsimp only [E]; exact Tryz.call149 args w
theorem b150 : HasBody E 150 := by intro args w; dsimp only [E]; exact Tryz.call150 args w
theorem b151 : HasBody E 151 := by intro args w; dsimp only [E]; exact Tryz.call151 args w
theorem b166 : HasBody E 166 := by intro args w; dsimp only [E]; exact Tryz.call166 args w
theorem b167 : HasBody E 167 := by intro args w; dsimp only [E]; exact Tryz.call167 args w
theorem b169 : HasBody E 169 := by intro args w; dsimp only [E]; exact Tryz.call169 args w
theorem b180 : HasBody E 180 := by intro args w; dsimp only [E]; exact Tryz.call180 args w
theorem b181 : HasBody E 181 := by intro args w; dsimp only [E]; exact Tryz.call181 args w
theorem b182 : HasBody E 182 := by intro args w; dsimp only [E]; exact Tryz.call182 args w
theorem b183 : HasBody E 183 := by intro args w; dsimp only [E]; exact Tryz.call183 args w
theorem b184 : HasBody E 184 := by intro args w; dsimp only [E]; exact Tryz.call184 args w
theorem b185 : HasBody E 185 := by intro args w; dsimp only [E]; exact Tryz.call185 args w
theorem b186 : HasBody E 186 := by intro args w; dsimp only [E]; exact Tryz.call186 args w
theorem b221 : HasBody E 221 := by intro args w; dsimp only [E]; exact Tryz.call221 args w
theorem b222 : HasBody E 222 := by intro args w; dsimp only [E]; exact Tryz.call222 args w
theorem b269 : HasBody E 269 := by intro args w; dsimp only [E]; exact Tryz.call269 args w
end Go.Proofs.YtjgmakalledclaaGreatDoor
