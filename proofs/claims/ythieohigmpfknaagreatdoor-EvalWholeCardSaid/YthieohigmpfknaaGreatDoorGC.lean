/- The walk through a region whose order is drawn and that holds several effects; Calls that are handed objects: data handed back; such calls in a region whose order is drawn; A row that grew out of nil, given up as data; Laws whose statement bears a bound on how much is read; Short names for the steps of a walk whose premises say themselves; In a region whose order is drawn: a literal of a slice as a row of the call's own, and an append whose row is given up as data at once; Values as plain trees, how they are written as data, and what the functions of layers 1, 3 and 4 come to; The table of the. Conditions: each part's own, as it says. -/
import Derived.Test.YthieohigmpfknaaGreatDoorGB
import Derived.Deep.DeepHandedRow
import Derived.Test.YthieohigmpfknaaGreatDoorProg
import Derived.Test.YthieohigmpfknaaGreatDoorGA
import Derived.KernelRfl
import Derived.Lib.LaidTab
import Derived.Shelf.Strconv.Itoa3
set_option linter.unusedVariables false
set_option linter.unusedSimpArgs false
/- The walk through a region whose order is drawn and that holds several effects. Conditions: each rule's own. -/
namespace Go.Abs
open Go Go.RowKit

/-- Fewer objects known than there are. -/
structure Wk (wob ob : List AObj) : Prop where
  len : wob.length ≤ ob.length
  get : ∀ (i : Nat) x, wob[i]? = some x → x.live = true → ob[i]? = some x ∧ x.below wob.length = true
def wkP (n : Nat) : List AObj → List AObj → Prop
  | [], _ => True
  | .dead :: r, _ :: q => True ∧ wkP n r q
  | _ :: _, [] => False
  | x :: r, y :: q => (x = y ∧ x.below n = true) ∧ wkP n r q
theorem wkP_ok {n : Nat} : ∀ {wob ob : List AObj}, wkP n wob ob → wob.length ≤ ob.length ∧ ∀ (i : Nat) x, wob[i]? = some x → x.live = true → ob[i]? = some x ∧ x.below n = true
  | [], _, _ => ⟨Nat.zero_le _, fun i x h => by simp at h⟩
  | x :: r, [], h => by cases x <;> simp [wkP] at h
  | x :: r, y :: q, h => by
    have key : (x.live = true → x = y ∧ x.below n = true) ∧ wkP n r q := by
      cases x with
      | dead => exact ⟨fun hl => by simp [AObj.live] at hl, h.2⟩
      | _ => exact ⟨fun _ => h.1, h.2⟩
    obtain ⟨h1, h2⟩ := wkP_ok key.2
    refine ⟨by simpa using h1, fun i z hz hl => ?_⟩
    cases i with
    | zero =>
      simp at hz
      subst hz
      obtain ⟨rfl, h4⟩ := key.1 hl
      exact ⟨rfl, h4⟩
    | succ i => exact h2 i z (by simpa using hz) hl
theorem Wk.mk' {wob ob : List AObj} (h : wkP wob.length wob ob) : Wk wob ob := ⟨(wkP_ok h).1, (wkP_ok h).2⟩

theorem WInv.wk {E : Env} {B : Base} {F : Nat → Prop} {σ : Sg} {ob wob : List AObj} {w : World} (h : WInv E B F σ ob w) (hw : Wk wob ob) (hn : B.n0 ≤ wob.length) : WInv E B F (σ.take wob.length) wob w := by
  have hlen := h.len
  have hl := hw.len
  have hget : ∀ (o : Nat) p, (σ.take wob.length)[o]? = some p → σ[o]? = some p := by
    intro o p hp
    rw [List.getElem?_take] at hp
    split at hp
    · exact hp
    · cases hp
  refine ⟨h.flt, h.glob, by rw [List.length_take]; omega, fun o x p hx hp => ?_, fun o o' x x' p p' hne hx hlx hx' hlx' hp hp' => ?_, fun i p hi hp => ?_⟩
  · cases hlv : x.live with
    | false => cases x <;> simp [AObj.live] at hlv <;> trivial
    | true => exact (h.obs o x p (hw.get o x hx hlv).1 (hget o p hp)).take (hw.get o x hx hlv).2
  · exact h.inj o o' x x' p p' hne (hw.get o x hx hlx).1 hlx (hw.get o' x' hx' hlx').1 hlx' (hget o p hp) (hget o' p' hp')
  · rw [List.getElem?_take, if_pos (by omega)]
    exact h.pre i p hi hp
theorem St.ev_below {E : Env} {tm : List (Nat × X)} {ob : List AObj} {n : Nat} (h : ∀ t, (lk tm t).below n = true) (z : Operand) : ((⟨tm, ob⟩ : St).ev E z).below n = true := by
  cases z with
  | tmp t => exact h t
  | const v =>
    show (ofConst v).below n = true
    unfold ofConst
    split
    · rfl
    · cases okV v <;> rfl
  | global g =>
    show (findG E.G g).below n = true
    have : ∀ l : List GE, (findG l g).below n = true := by
      intro l
      induction l with
      | nil => rfl
      | cons a r ih =>
        simp only [findG]
        cases Nat.beq a.g g
        · exact ih
        · rfl
    exact this _
  | func f => rfl
theorem VOp.wk {C : Cx} {tm : List (Nat × X)} {ob wob : List AObj} {o : Oper} {x : X} (h : VOp C ⟨tm, wob⟩ o x) (hw : Wk wob ob) (hn : C.base.n0 ≤ wob.length) (hb : ∀ t, (lk tm t).below wob.length = true) : VOp C ⟨tm, ob⟩ o x := by
  intro F σ w a K Q hi hr hK
  refine h F (σ.take wob.length) w a K Q (hi.wk hw hn) (fun y hy => ?_) fun v w' F' he hv => hK v w' F' he ?_
  · have := hr y hy
    exact RdX.take (n := wob.length) this (St.ev_below (ob := ob) hb y)
  · refine hv.mono (fun _ h => h) (fun _ _ => rfl) fun o p hp => ?_
    rw [List.getElem?_take] at hp
    split at hp
    · exact hp
    · cases hp

def fixedB (A E : List Nat) (i : Nat) : Bool := E.all fun e => Nat.beq e i || (bif Nat.blt e i then aheadB A e i else aheadB A i e)
def FixedP (l : List Oper) (E : List Nat) (i : Nat) : Prop := ∀ e, E.contains e = true → (e < i → Ahead l e i) ∧ (i < e → Ahead l i e)
theorem fixedB_ok {l : List Oper} {E : List Nat} {i : Nat} (h : fixedB (ancs l) E i = true) : FixedP l E i := by
  intro e he
  have h1 := List.all_eq_true.1 h e (by simpa using he)
  refine ⟨fun hlt => ?_, fun hlt => ?_⟩
  · have e1 : Nat.beq e i = false := by rw [← Bool.not_eq_true]; intro hb; have := Nat.eq_of_beq_eq_true hb; omega
    have e2 : Nat.blt e i = true := by simpa using hlt
    rw [e1, e2] at h1
    exact ancs_spec (by simpa using h1)
  · have e1 : Nat.beq e i = false := by rw [← Bool.not_eq_true]; intro hb; have := Nat.eq_of_beq_eq_true hb; omega
    have e2 : Nat.blt e i = false := by rw [← Bool.not_eq_true]; simp; omega
    rw [e1, e2] at h1
    exact ancs_spec (by simpa using h1)
def chainB (A E : List Nat) : Bool := E.all fun e => fixedB A E e

inductive RD (C : Cx) (l : List Oper) (E : List Nat) (wob : List AObj) : Nat → List Oper → St → St → Prop
  | nil (i : Nat) (s : St) : RD C l E wob i [] s s
  | same {i : Nat} {ops : List Oper} {s s1 s' : St} (hs : StEq s s1) (h : RD C l E wob i ops s1 s') : RD C l E wob i ops s s'
  | fix {i : Nat} {o : Oper} {rest : List Oper} {s s' : St} {x : X} (hg : GuardIs l.toArray s o true) (hd : dstOK C o = true) (hne : E.contains i = false) (hf : FixedP l E i) (hv : VOp C s o x) (h : RD C l E wob (i + 1) rest (s.put o.dst x) s') : RD C l E wob i (o :: rest) s s'
  | skip {i : Nat} {o : Oper} {rest : List Oper} {s s' : St} (hg : GuardIs l.toArray s o false) (hd : dstOK C o = true) (hne : E.contains i = false) (h : RD C l E wob (i + 1) rest (s.put o.dst .und) s') : RD C l E wob i (o :: rest) s s'
  | weak {i : Nat} {o : Oper} {rest : List Oper} {s s' : St} {x : X} (hg : GuardIs l.toArray s o true) (hd : dstOK C o = true) (hne : E.contains i = false) (hv : VOp C ⟨s.tm, wob⟩ o x) (hb : ∀ t, (lk s.tm t).below wob.length = true) (h : RD C l E wob (i + 1) rest (s.put o.dst x) s') : RD C l E wob i (o :: rest) s s'
  | eff {i : Nat} {o : Oper} {rest : List Oper} {s s' : St} {x : X} {ob' : List AObj} (hg : GuardIs l.toArray s o true) (hd : dstOK C o = true) (hne : E.contains i = true) (hv : EOp C s o x ob') (hw : Wk wob ob') (h : RD C l E wob (i + 1) rest ((⟨s.tm, ob'⟩ : St).put o.dst x) s') : RD C l E wob i (o :: rest) s s'

theorem stps_tm : ∀ (xs : List (Oper × Option X)) (s s2 : St), (∀ t, lk s.tm t = lk s2.tm t) → ∀ t, lk (stps s xs).tm t = lk (stps s2 xs).tm t
  | [], _, _, h => h
  | (o, x) :: r, s, s2, h => by
    refine stps_tm r _ _ fun t => ?_
    cases o.dst with
    | none => exact h t
    | some d =>
      simp only [St.put, lk]
      cases Nat.beq d t
      · exact h t
      · rfl
theorem VOp.look {C : Cx} {tm tm' : List (Nat × X)} {ob : List AObj} {o : Oper} {x : X} (h : VOp C ⟨tm, ob⟩ o x) (he : ∀ t, lk tm' t = lk tm t) : VOp C ⟨tm', ob⟩ o x :=
  StEq.vop (s := ⟨tm, ob⟩) (s' := ⟨tm', ob⟩) ⟨he, rfl⟩ h
theorem EOp.look {C : Cx} {tm tm' : List (Nat × X)} {ob ob' : List AObj} {o : Oper} {x : X} (h : EOp C ⟨tm, ob⟩ o x ob') (he : ∀ t, lk tm' t = lk tm t) : EOp C ⟨tm', ob⟩ o x ob' := by
  intro t2 h2
  refine h t2 fun z hz => (h2 z hz).trans ?_
  cases z with
  | tmp t => exact he t
  | _ => rfl
theorem GuardIs.look {all : Array Oper} {s s' : St} {o : Oper} {b : Bool} (h : GuardIs all s o b) (he : ∀ t, lk s'.tm t = lk s.tm t) : GuardIs all s' o b := by
  unfold GuardIs at *
  cases hgd : o.guard with
  | none => rw [hgd] at h; exact h
  | some jp =>
    rw [hgd] at h
    obtain ⟨t, h1, h2⟩ := h
    exact ⟨t, h1, by rw [he]; exact h2⟩

theorem RD.data {C : Cx} {l : List Oper} {E : List Nat} {wob : List AObj} {i : Nat} {ops : List Oper} {s s' : St} (h : RD C l E wob i ops s s') (hw0 : Wk wob s.ob) :
    ∃ (xs : List (Oper × Option X)) (obT : Nat → List AObj), xs.map (·.1) = ops ∧ obT 0 = s.ob ∧ obT ops.length = s'.ob ∧ (∀ t, lk (stps s xs).tm t = lk s'.tm t) ∧ (∀ j, j ≤ ops.length → Wk wob (obT j)) ∧
      ∀ (j : Nat) o x, xs[j]? = some (o, x) → dstOK C o = true ∧ GuardIs l.toArray (stps s (xs.take j)) o x.isSome ∧
        (E.contains (i + j) = true → ∃ y, x = some y ∧ EOp C ⟨(stps s (xs.take j)).tm, obT j⟩ o y (obT (j + 1))) ∧
        (E.contains (i + j) = false → obT (j + 1) = obT j ∧ ∀ y, x = some y → (FixedP l E (i + j) ∧ VOp C ⟨(stps s (xs.take j)).tm, obT j⟩ o y) ∨ (VOp C ⟨(stps s (xs.take j)).tm, wob⟩ o y ∧ ∀ t, (lk (stps s (xs.take j)).tm t).below wob.length = true)) := by
  induction h with
  | nil i s => exact ⟨[], fun _ => s.ob, rfl, rfl, rfl, fun _ => rfl, fun _ _ => hw0, fun j o x h => by simp at h⟩
  | @same i ops s s1 s' hs hh ih =>
    obtain ⟨xs, obT, h1, h2, h3, h4, h5, h6⟩ := ih (by rw [hs.2]; exact hw0)
    have hst : ∀ ys t, lk (stps s ys).tm t = lk (stps s1 ys).tm t := fun ys => stps_tm ys s s1 fun t => (hs.1 t).symm
    refine ⟨xs, obT, h1, h2.trans hs.2, h3, fun t => (hst xs t).trans (h4 t), h5, fun j o x hj => ?_⟩
    obtain ⟨a1, a2, a3, a4⟩ := h6 j o x hj
    refine ⟨a1, a2.look (hst _), fun he => ?_, fun he => ⟨(a4 he).1, fun y hy => ?_⟩⟩
    · obtain ⟨y, hy, hv⟩ := a3 he
      exact ⟨y, hy, hv.look (hst _)⟩
    · rcases (a4 he).2 y hy with ⟨b1, b2⟩ | ⟨b1, b2⟩
      · exact .inl ⟨b1, b2.look (hst _)⟩
      · exact .inr ⟨b1.look (hst _), fun t => by rw [hst]; exact b2 t⟩
  | @fix i o rest s s' x hg hd hne hf hv hh ih =>
    obtain ⟨xs, obT, h1, h2, h3, h4, h5, h6⟩ := ih (by rw [St.put_ob]; exact hw0)
    rw [St.put_ob] at h2
    refine ⟨(o, some x) :: xs, fun j => match j with | 0 => s.ob | j + 1 => obT j, by simp [h1], rfl, h3, h4, fun j hj => ?_, fun j o' x' hj => ?_⟩
    · cases j with
      | zero => exact hw0
      | succ j => exact h5 j (by simpa using hj)
    · cases j with
      | zero =>
        simp at hj
        obtain ⟨rfl, rfl⟩ := hj
        refine ⟨hd, hg, fun he => ?_, fun _ => ⟨h2, fun y hy => ?_⟩⟩
        · rw [Nat.add_zero, hne] at he; cases he
        · cases hy; exact .inl ⟨hf, hv⟩
      | succ j =>
        have := h6 j o' x' (by simpa using hj)
        rw [show i + 1 + j = i + (j + 1) by omega] at this
        exact this
  | @skip i o rest s s' hg hd hne hh ih =>
    obtain ⟨xs, obT, h1, h2, h3, h4, h5, h6⟩ := ih (by rw [St.put_ob]; exact hw0)
    rw [St.put_ob] at h2
    refine ⟨(o, none) :: xs, fun j => match j with | 0 => s.ob | j + 1 => obT j, by simp [h1], rfl, h3, h4, fun j hj => ?_, fun j o' x' hj => ?_⟩
    · cases j with
      | zero => exact hw0
      | succ j => exact h5 j (by simpa using hj)
    · cases j with
      | zero =>
        simp at hj
        obtain ⟨rfl, rfl⟩ := hj
        refine ⟨hd, hg, fun he => ?_, fun _ => ⟨h2, fun y hy => ?_⟩⟩
        · rw [Nat.add_zero, hne] at he; cases he
        · cases hy
      | succ j =>
        have := h6 j o' x' (by simpa using hj)
        rw [show i + 1 + j = i + (j + 1) by omega] at this
        exact this
  | @weak i o rest s s' x hg hd hne hv hb hh ih =>
    obtain ⟨xs, obT, h1, h2, h3, h4, h5, h6⟩ := ih (by rw [St.put_ob]; exact hw0)
    rw [St.put_ob] at h2
    refine ⟨(o, some x) :: xs, fun j => match j with | 0 => s.ob | j + 1 => obT j, by simp [h1], rfl, h3, h4, fun j hj => ?_, fun j o' x' hj => ?_⟩
    · cases j with
      | zero => exact hw0
      | succ j => exact h5 j (by simpa using hj)
    · cases j with
      | zero =>
        simp at hj
        obtain ⟨rfl, rfl⟩ := hj
        refine ⟨hd, hg, fun he => ?_, fun _ => ⟨h2, fun y hy => ?_⟩⟩
        · rw [Nat.add_zero, hne] at he; cases he
        · cases hy; exact .inr ⟨hv, hb⟩
      | succ j =>
        have := h6 j o' x' (by simpa using hj)
        rw [show i + 1 + j = i + (j + 1) by omega] at this
        exact this
  | @eff i o rest s s' x ob' hg hd hne hv hw hh ih =>
    obtain ⟨xs, obT, h1, h2, h3, h4, h5, h6⟩ := ih (by rw [St.put_ob]; exact hw)
    rw [St.put_ob] at h2
    have hst : ∀ ys t, lk (stps (s.put o.dst x) ys).tm t = lk (stps ((⟨s.tm, ob'⟩ : St).put o.dst x) ys).tm t := fun ys => stps_tm ys _ _ fun t => by cases o.dst <;> rfl
    refine ⟨(o, some x) :: xs, fun j => match j with | 0 => s.ob | j + 1 => obT j, by simp [h1], rfl, h3, fun t => (hst xs t).trans (h4 t), fun j hj => ?_, fun j o' x' hj => ?_⟩
    · cases j with
      | zero => exact hw0
      | succ j => exact h5 j (by simpa using hj)
    · cases j with
      | zero =>
        simp at hj
        obtain ⟨rfl, rfl⟩ := hj
        refine ⟨hd, hg, fun he => ⟨x, rfl, ?_⟩, fun he => ?_⟩
        · show EOp C ⟨s.tm, s.ob⟩ o x (obT 0)
          rw [h2]; exact hv
        · rw [Nat.add_zero, hne] at he; cases he
      | succ j =>
        obtain ⟨a1, a2, a3, a4⟩ := h6 j o' x' (by simpa using hj)
        rw [show i + 1 + j = i + (j + 1) by omega] at a3 a4
        refine ⟨a1, a2.look (hst _), fun he => ?_, fun he => ⟨(a4 he).1, fun y hy => ?_⟩⟩
        · obtain ⟨y, hy, hv'⟩ := a3 he
          exact ⟨y, hy, hv'.look (hst _)⟩
        · rcases (a4 he).2 y hy with ⟨b1, b2⟩ | ⟨b1, b2⟩
          · exact .inl ⟨b1, b2.look (hst _)⟩
          · exact .inr ⟨b1.look (hst _), fun t => by
              have := b2 t
              rw [← hst] at this
              exact this⟩

/-- The goal of such a region: from s, these operations still to do. -/
def RGo (C : Cx) (_id : Nat) (l : List Oper) (E : List Nat) (wob : List AObj) (i : Nat) (ops : List Oper) (s : St) (K : St → Prop) : Prop := ∃ s', RD C l E wob i ops s s' ∧ K s'

theorem SD.obEq {C : Cx} {all : Array Oper} {ops : List Oper} {s s' : St} (h : SD C all true ops s s') : s'.ob = s.ob := by
  obtain ⟨xs, _, h2, _⟩ := h.data
  rw [h2.2, stps_ob]
theorem RD.of_fix_ {C : Cx} {l : List Oper} {E : List Nat} {wob : List AObj} {rest : List Oper} {s' : St} {pu : Bool} {ops : List Oper} {s s1 : St} (h : SD C l.toArray pu ops s s1) : pu = true → ∀ {i : Nat}, (∀ j, j < ops.length → E.contains (i + j) = false ∧ FixedP l E (i + j)) → RD C l E wob (i + ops.length) rest s1 s' → RD C l E wob i (ops ++ rest) s s' := by
  induction h with
  | nil s => exact fun _ _ _ hr => hr
  | @vop o r s s1 x hg hd hv hh ih =>
    intro hpu i hf hr
    refine .fix hg hd (hf 0 (by simp)).1 (hf 0 (by simp)).2 hv (ih hpu (i := i + 1) (fun j hj => ?_) ?_)
    · rw [show i + 1 + j = i + (j + 1) by omega]; exact hf (j + 1) (by simpa using hj)
    · rw [show i + 1 + r.length = i + (o :: r).length by simp; omega]; exact hr
  | @skip o r s s1 hg hd hh ih =>
    intro hpu i hf hr
    refine .skip hg hd (hf 0 (by simp)).1 (ih hpu (i := i + 1) (fun j hj => ?_) ?_)
    · rw [show i + 1 + j = i + (j + 1) by omega]; exact hf (j + 1) (by simpa using hj)
    · rw [show i + 1 + r.length = i + (o :: r).length by simp; omega]; exact hr
  | eff hp => intro hpu; rw [hpu] at hp; cases hp
  | ghost hp => intro hpu; rw [hpu] at hp; cases hp
  | same hs hh ih => exact fun hpu _ hf hr => .same hs (ih hpu hf hr)
theorem RD.of_fix {C : Cx} {l : List Oper} {E : List Nat} {wob : List AObj} {ops rest : List Oper} {s s1 s' : St} (h : SD C l.toArray true ops s s1) {i : Nat} (hf : ∀ j, j < ops.length → E.contains (i + j) = false ∧ FixedP l E (i + j)) (hr : RD C l E wob (i + ops.length) rest s1 s') : RD C l E wob i (ops ++ rest) s s' :=
  RD.of_fix_ h rfl hf hr
theorem SD.keep {C : Cx} {all : Array Oper} {ops : List Oper} {s s' : St} (h : SD C all true ops s s') {t : Nat} (ht : ∀ o ∈ ops, o.dst ≠ some t) : lk s'.tm t = lk s.tm t := by
  obtain ⟨xs, h1, h2, _⟩ := h.data
  rw [h2.1, lk_stps_other s xs t fun p hp => ht p.1 (by rw [← h1]; exact List.mem_map_of_mem hp)]
def dstND : List Oper → Bool
  | [] => true
  | o :: r => (match o.dst with
    | some d => r.all fun p => match p.dst with | some d' => !Nat.beq d d' | none => true
    | none => true) && dstND r
theorem RD.of_weak_ {C : Cx} {l : List Oper} {E : List Nat} {wob ob : List AObj} {rest : List Oper} {s' : St} {pu : Bool} {ops : List Oper} {s0 s1 : St} (h : SD C l.toArray pu ops s0 s1) : pu = true → dstND ops = true → (∀ t, (lk s1.tm t).below wob.length = true) → s0.ob = wob →
    ∀ {i : Nat}, (∀ t, (lk s0.tm t).below wob.length = true) → (∀ j, j < ops.length → E.contains (i + j) = false) → RD C l E wob (i + ops.length) rest ⟨s1.tm, ob⟩ s' → RD C l E wob i (ops ++ rest) ⟨s0.tm, ob⟩ s' := by
  induction h with
  | nil s => exact fun _ _ _ _ _ _ _ hr => hr
  | @vop o r s s1 x hg hd hv hh ih =>
    intro hpu hnd hb1 hob i hb hf hr
    simp only [dstND, Bool.and_eq_true] at hnd
    have hx : ∀ d, o.dst = some d → x.below wob.length = true := by
      intro d hdd
      have := hb1 d
      subst hpu
      rw [hh.keep (t := d) fun p hp hpd => by
        have h1 := hnd.1
        rw [hdd] at h1
        have h2 := List.all_eq_true.1 h1 p hp
        rw [hpd] at h2
        simp at h2] at this
      rwa [hdd, lk_put_same] at this
    have e : (⟨s.tm, ob⟩ : St).put o.dst x = ⟨(s.put o.dst x).tm, ob⟩ := by cases o.dst <;> rfl
    refine .weak (GuardIs.look hg fun _ => rfl) hd (hf 0 (by simp)) (by rw [← hob]; exact hv) hb ?_
    rw [e]
    refine ih hpu hnd.2 hb1 (by rw [St.put_ob]; exact hob) (i := i + 1) (fun t => ?_) (fun j hj => ?_) ?_
    · cases hdd : o.dst with
      | none => exact hb t
      | some d =>
        simp only [St.put, lk]
        cases Nat.beq d t
        · exact hb t
        · exact hx d hdd
    · rw [show i + 1 + j = i + (j + 1) by omega]; exact hf (j + 1) (by simpa using hj)
    · rw [show i + 1 + r.length = i + (o :: r).length by simp; omega]; exact hr
  | @skip o r s s1 hg hd hh ih =>
    intro hpu hnd hb1 hob i hb hf hr
    simp only [dstND, Bool.and_eq_true] at hnd
    have e : (⟨s.tm, ob⟩ : St).put o.dst .und = ⟨(s.put o.dst .und).tm, ob⟩ := by cases o.dst <;> rfl
    refine .skip (GuardIs.look hg fun _ => rfl) hd (hf 0 (by simp)) ?_
    rw [e]
    refine ih hpu hnd.2 hb1 (by rw [St.put_ob]; exact hob) (i := i + 1) (fun t => ?_) (fun j hj => ?_) ?_
    · cases hdd : o.dst with
      | none => exact hb t
      | some d =>
        simp only [St.put, lk]
        cases Nat.beq d t
        · exact hb t
        · rfl
    · rw [show i + 1 + j = i + (j + 1) by omega]; exact hf (j + 1) (by simpa using hj)
    · rw [show i + 1 + r.length = i + (o :: r).length by simp; omega]; exact hr
  | eff hp => intro hpu; rw [hpu] at hp; cases hp
  | ghost hp => intro hpu; rw [hpu] at hp; cases hp
  | @same ops s s2 s1 hs hh ih =>
    intro hpu hnd hb1 hob i hb hf hr
    exact .same (s1 := ⟨s2.tm, ob⟩) ⟨hs.1, rfl⟩ (ih hpu hnd hb1 (by rw [hs.2]; exact hob) (fun t => by rw [hs.1]; exact hb t) hf hr)
theorem RD.of_weak {C : Cx} {l : List Oper} {E : List Nat} {wob ob : List AObj} {ops rest : List Oper} {tm : List (Nat × X)} {s1 s' : St} (h : SD C l.toArray true ops ⟨tm, wob⟩ s1) (hnd : dstND ops = true) (hb1 : ∀ t, (lk s1.tm t).below wob.length = true)
    {i : Nat} (hb : ∀ t, (lk tm t).below wob.length = true) (hf : ∀ j, j < ops.length → E.contains (i + j) = false) (hr : RD C l E wob (i + ops.length) rest ⟨s1.tm, ob⟩ s') : RD C l E wob i (ops ++ rest) ⟨tm, ob⟩ s' :=
  RD.of_weak_ (s0 := ⟨tm, wob⟩) h rfl hnd hb1 rfl hb hf hr

def TmB (n : Nat) : List (Nat × X) → Prop
  | [] => True
  | (_, x) :: r => x.below n = true ∧ TmB n r
theorem TmB.lk {n : Nat} : ∀ {tm : List (Nat × X)}, TmB n tm → ∀ t, (lk tm t).below n = true
  | [], _, t => rfl
  | (k, x) :: r, h, t => by
    simp only [Go.Abs.lk]
    cases Nat.beq k t
    · exact TmB.lk h.2 t
    · exact h.1
def killT : List Nat → List AObj → List AObj
  | [], ob => ob
  | i :: r, ob => killT r (ob.set i .dead)

section
variable {C : Cx} {r : List It} {Q : Exit → St → Prop} {tm : List (Nat × X)} {ob : List AObj} {id : Nat} {l : List Oper} {E : List Nat} {wob : List AObj} {i : Nat} {ops : List Oper} {K : St → Prop}
theorem qR_ (wob : List AObj) (E : List Nat) (ho : ordOK l = true) (hE : chainB (ancs l) E = true) (hn : C.base.n0 ≤ wob.length) (hw : Wk wob ob)
    (h : RGo C id l E wob 0 l ⟨tm, ob⟩ (fun s' => go C r s' Q)) : go C (.code (.region id l.toArray true) :: r) ⟨tm, ob⟩ Q := by
  intro a w hr
  obtain ⟨s', h1, h2⟩ := h
  obtain ⟨xs, obT, e1, e2, e3, e4, e5, e6⟩ := h1.data hw
  have hlen : xs.length = l.length := by rw [← e1]; simp
  have hget : ∀ i, i < l.length → ∃ o x, xs[i]? = some (o, x) := fun i hi => by
    have : i < xs.length := by omega
    exact ⟨xs[i].1, xs[i].2, List.getElem?_eq_getElem this⟩
  have hfin : ∀ a w, C.Rel ⟨(stps ⟨tm, ob⟩ xs).tm, obT l.length⟩ a w → C.Rel s' a w := by
    intro a w hr
    rw [e3] at hr
    exact StEq.rel (s := ⟨(stps ⟨tm, ob⟩ xs).tm, s'.ob⟩) (s' := s') ⟨fun t => (e4 t).symm, rfl⟩ hr
  refine wp_region_any C.E.hM ?_
  refine Dr.all (s := ⟨tm, ob⟩) (xs := xs) (obT := obT) (eff := fun i => E.contains i) e1 (ordOK_spec ho) (fun i hi he => ?_) (fun i j hij hj h3 h4 => ?_) (fun i o x hi => ⟨(e6 i o x hi).1, (e6 i o x hi).2.1⟩) (fun i o x he hi y hy => ?_) (fun i o x he hi => ?_) (fun a w hr => ⟨s', hfin a w hr, h2⟩) _ _ _ _ ?_ ⟨by simp, fun j o' ed ho' hL => ?_, tm, 0, Nat.zero_le _, fun i hi => by omega, fun i _ hi _ => ?_, ?_, fun t _ => rfl, fun j o' x t hj hL => ?_⟩
  · obtain ⟨o, x, hx⟩ := hget i hi
    exact ((e6 i o x hx).2.2.2 (by rw [Nat.zero_add]; exact he)).1
  · exact (fixedB_ok (List.all_eq_true.1 hE j (by simpa using h4)) i h3).1 hij
  · rcases ((e6 i o x hi).2.2.2 (by rw [Nat.zero_add]; exact he)).2 y hy with ⟨h3, h4⟩ | ⟨h3, h4⟩
    · rw [Nat.zero_add] at h3
      exact .inl ⟨fun e _ he' => h3 e he', h4⟩
    · exact .inr fun k hk => h3.wk (e5 k hk) hn h4
  · exact (e6 i o x hi).2.2.1 (by rw [Nat.zero_add]; exact he)
  · refine Nat.le_trans (List.length_filter_le _ _) ?_
    simp
  · exfalso
    by_cases hlt : j < l.length <;> simp [hlt] at hL
  · rw [Array.getD_eq_getD_getElem?, Array.getElem?_replicate]
    split <;> rfl
  · rw [e2]
    obtain ⟨F, σ, r1, r2, r3, hi, r4, r5, hs⟩ := hr
    have hext : Ext w F { w with drawn := w.drawn + 1 } F := ⟨⟨rfl, rfl, rfl, Nat.le_refl _, fun _ _ => rfl⟩, fun _ h => h, fun _ h => .inl h, hi.flt⟩
    exact ⟨F, σ, r1.step hext.below, r2, r3, hi.ext hext, r4, r5, fun t => (hs t).ext hext hi.flt⟩
  · exfalso
    by_cases hlt : j < l.length <;> simp [hlt] at hL
theorem qR (wob : List AObj) (E : List Nat) (T : List Nat) (ho : ordOK l = true) (hE : chainB (ancs l) E = true) (_hwob : killT T ob = wob) (hn : Nat.ble C.base.n0 wob.length = true) (hw : wkP wob.length wob ob)
    (h : RGo C id l E wob 0 l ⟨tm, ob⟩ (fun s' => go C r s' Q)) : go C (.code (.region id l.toArray true) :: r) ⟨tm, ob⟩ Q := qR_ wob E ho hE (Nat.le_of_ble_eq_true hn) (Wk.mk' hw) h
theorem qR0 (E : List Nat) (ho : ordOK l = true) (hE : chainB (ancs l) E = true) (hw : wkP (List.replicate C.base.n0 AObj.dead).length (List.replicate C.base.n0 AObj.dead) ob)
    (h : RGo C id l E (List.replicate C.base.n0 AObj.dead) 0 l ⟨tm, ob⟩ (fun s' => go C r s' Q)) : go C (.code (.region id l.toArray true) :: r) ⟨tm, ob⟩ Q := by
  have hn : C.base.n0 ≤ (List.replicate C.base.n0 AObj.dead).length := by simp
  intro a w hr
  obtain ⟨s', h1, h2⟩ := h
  refine qR_ _ E ho hE hn (Wk.mk' hw) ⟨s', h1, h2⟩ a w hr
theorem qRT (E T : List Nat) (ho : ordOK l = true) (hE : chainB (ancs l) E = true) (hn : Nat.ble C.base.n0 (killT T ob).length = true) (hw : wkP (killT T ob).length (killT T ob) ob)
    (h : RGo C id l E (killT T ob) 0 l ⟨tm, ob⟩ (fun s' => go C r s' Q)) : go C (.code (.region id l.toArray true) :: r) ⟨tm, ob⟩ Q := qR _ E T ho hE rfl hn hw h
theorem rgN (h : K ⟨tm, ob⟩) : RGo C id l E wob i [] ⟨tm, ob⟩ K := ⟨_, .nil _ _, h⟩
def rgFB (l : List Oper) (E : List Nat) (i n : Nat) : Bool := (List.range n).all fun j => fixedB (ancs l) E (i + j) && !E.contains (i + j)
def rgWB (E : List Nat) (i n : Nat) : Bool := (List.range n).all fun j => !E.contains (i + j)
/-- Operations that are apart from every effect in one way only. -/
theorem rgF (n : Nat) (hc : rgFB l E i n = true) (hn : Nat.ble n ops.length = true) (h : SGo C l.toArray true (ops.take n) ⟨tm, ob⟩ (fun s1 => RGo C id l E wob (i + n) (ops.drop n) ⟨s1.tm, ob⟩ K)) : RGo C id l E wob i ops ⟨tm, ob⟩ K := by
  obtain ⟨s1, h1, s', h2, h3⟩ := h
  have hlen : (ops.take n).length = n := by rw [List.length_take]; have := Nat.le_of_ble_eq_true hn; omega
  have e : s1 = ⟨s1.tm, ob⟩ := by have := h1.obEq; cases s1; simp at this; rw [this]
  refine ⟨s', ?_, h3⟩
  rw [← List.take_append_drop n ops]
  rw [← e] at h2
  refine RD.of_fix h1 (fun j hj => ?_) (by rw [hlen]; exact h2)
  have := List.all_eq_true.1 hc j (by rw [List.mem_range]; omega)
  rw [Bool.and_eq_true] at this
  exact ⟨by simpa using this.2, fixedB_ok this.1⟩
/-- Operations that do not look at what the effects write. -/
theorem rgW (n : Nat) (hc : rgWB E i n = true) (hn : Nat.ble n ops.length = true) (hnd : dstND (ops.take n) = true) (hb : TmB wob.length tm) (h : SGo C l.toArray true (ops.take n) ⟨tm, wob⟩ (fun s1 => TmB wob.length s1.tm ∧ RGo C id l E wob (i + n) (ops.drop n) ⟨s1.tm, ob⟩ K)) : RGo C id l E wob i ops ⟨tm, ob⟩ K := by
  obtain ⟨s1, h1, hb1, s', h2, h3⟩ := h
  have hlen : (ops.take n).length = n := by rw [List.length_take]; have := Nat.le_of_ble_eq_true hn; omega
  refine ⟨s', ?_, h3⟩
  rw [← List.take_append_drop n ops]
  refine RD.of_weak h1 hnd (fun t => hb1.lk t) (fun t => hb.lk t) (fun j hj => ?_) (by rw [hlen]; exact h2)
  have := List.all_eq_true.1 hc j (by rw [List.mem_range]; omega)
  simpa using this
theorem rgX {o : Oper} {rest : List Oper} {x : X} {ob' : List AObj} (hne : E.contains i = true) (hg : guardX l.toArray tm o = some true) (hd : dstOK C o = true) (hv : EOp C ⟨tm, ob⟩ o x ob') (hw : wkP wob.length wob ob') (h : RGo C id l E wob (i + 1) rest ((⟨tm, ob'⟩ : St).put o.dst x) K) : RGo C id l E wob i (o :: rest) ⟨tm, ob⟩ K :=
  let ⟨s', h1, h2⟩ := h; ⟨s', .eff (guardX_ok hg) hd hne hv (Wk.mk' hw) h1, h2⟩
end
theorem Dats.look {E : Env} {tm tm' : List (Nat × X)} {ob : List AObj} {args : List Operand} {ds : List D} (h : Dats ⟨tm, ob⟩ E args ds) (he : ∀ z ∈ args, (⟨tm', ob⟩ : St).ev E z = (⟨tm, ob⟩ : St).ev E z) : Dats ⟨tm', ob⟩ E args ds := by
  induction h with
  | nil => exact .nil
  | cons h _ ih => exact .cons (by rw [he _ (by simp)]; exact h) (ih fun z hz => he z (by simp [hz]))
section
variable {C : Cx} {tm : List (Nat × X)} {ob : List AObj} {id : Nat} {l : List Oper} {E : List Nat} {wob : List AObj} {i : Nat} {rest : List Oper} {K : St → Prop} {o : Oper} {d : Nat} {p : Prop} {x : X}
theorem fw_same {y x : X} {p : Prop} (h : fw y = some (p, x)) : y = x := (fw_eq h).symm
theorem rgStore {t ty : TypeId} {y z : Operand} {j off : Nat} {c : VC} {e : TE} (hne : E.contains i = true) (ho : o.op = .store t y z) (hg : guardX l.toArray tm o = some true) (hdst : o.dst = none) (hy : (⟨tm, ob⟩ : St).ev C.E y = .ptr j off) (hz : fw ((⟨tm, ob⟩ : St).ev C.E z) = some (p, x)) (hh : x.held = true) (hob : ob[j]? = some (.var ty c))
    (he : findT C.E.T t = some e) (hsz : Nat.beq x.cells.length e.size = true) (hle : Nat.ble (off + x.cells.length) c.cells.length = true) (hw : wkP wob.length wob (ob.set j (.var ty (storeC c off x)))) (h : RGo C id l E wob (i + 1) rest ⟨tm, ob.set j (.var ty (storeC c off x))⟩ K) : RGo C id l E wob i (o :: rest) ⟨tm, ob⟩ K := by
  refine rgX (x := .und) (ob' := ob.set j (.var ty (storeC c off x))) hne hg (by simp only [dstOK, hdst]) (fun tm' hev => ?_) hw (by rw [hdst]; exact h)
  rw [hdst]
  have e1 := hev y (by simp [ho, Op.operands])
  have e2 := hev z (by simp [ho, Op.operands])
  exact s_store (s := ⟨tm', ob⟩) ho hdst (e1.trans hy) (e2.trans (fw_same hz)) hh hob he hsz hle
theorem rgAlloc {t : TypeId} {e : TE} (hne : E.contains i = true) (ho : o.op = .alloc t) (hg : guardX l.toArray tm o = some true) (hdst : o.dst = some d) (hd : Nat.blt d C.N = true) (he : findT C.E.T t = some e) (h1z : oneAll e.zero.cells.toList = true)
    (hw : wkP wob.length wob (ob ++ [.var t (.cs (e.zero.cells.toList.map ofConst))])) (h : RGo C id l E wob (i + 1) rest ⟨(d, .ptr ob.length 0) :: tm, ob ++ [.var t (.cs (e.zero.cells.toList.map ofConst))]⟩ K) : RGo C id l E wob i (o :: rest) ⟨tm, ob⟩ K := by
  have hdk : dstOK C o = true := by simp only [dstOK, hdst]; exact hd
  refine rgX (x := .ptr ob.length 0) (ob' := ob ++ [.var t (.cs (e.zero.cells.toList.map ofConst))]) hne hg hdk (fun tm' hev => ?_) hw (by rw [hdst]; exact h)
  exact s_alloc (s := ⟨tm', ob⟩) ho he h1z hdk
theorem rgBox {t : TypeId} {y : Operand} (hne : E.contains i = true) (ho : o.op = .box t y) (hg : guardX l.toArray tm o = some true) (hdst : o.dst = some d) (hd : Nat.blt d C.N = true) (hx : fw ((⟨tm, ob⟩ : St).ev C.E y) = some (p, x)) (hh : x.held = true)
    (hw : wkP wob.length wob (ob ++ [.var t (.w x)])) (h : RGo C id l E wob (i + 1) rest ⟨(d, .ptr ob.length 0) :: tm, ob ++ [.var t (.w x)]⟩ K) : RGo C id l E wob i (o :: rest) ⟨tm, ob⟩ K := by
  have hdk : dstOK C o = true := by simp only [dstOK, hdst]; exact hd
  refine rgX (x := .ptr ob.length 0) (ob' := ob ++ [.var t (.w x)]) hne hg hdk (fun tm' hev => ?_) hw (by rw [hdst]; exact h)
  exact s_box (s := ⟨tm', ob⟩) ho ((hev y (by simp [ho, Op.operands])).trans (fw_same hx)) hh hdk
theorem rgStoreP {t te : TypeId} {y z : Operand} {k j off size : Nat} {xs : List D} {e : D} {tt : TE} (d0 : D) (hne : E.contains i = true) (ho : o.op = .store t y z) (hg : guardX l.toArray tm o = some true) (hdst : o.dst = none) (hy : (⟨tm, ob⟩ : St).ev C.E y = .pel k j off size) (hz : toD ((⟨tm, ob⟩ : St).ev C.E z) = some e)
    (hob : ob[k]? = some (.row te size xs)) (hd : xs[j]? = some d0) (he : findT C.E.T t = some tt) (hsz : Nat.beq e.cells.length tt.size = true) (hle : Nat.ble (off + e.cells.length) d0.cells.length = true) (hw : wkP wob.length wob (ob.set k (.row te size (xs.set j (subD d0 off e)))))
    (h : RGo C id l E wob (i + 1) rest ⟨tm, ob.set k (.row te size (xs.set j (subD d0 off e)))⟩ K) : RGo C id l E wob i (o :: rest) ⟨tm, ob⟩ K := by
  refine rgX (x := .und) (ob' := ob.set k (.row te size (xs.set j (subD d0 off e)))) hne hg (by simp only [dstOK, hdst]) (fun tm' hev => ?_) hw (by rw [hdst]; exact h)
  rw [hdst]
  have e1 := hev y (by simp [ho, Op.operands])
  have e2 := hev z (by simp [ho, Op.operands])
  exact s_storeP (s := ⟨tm', ob⟩) ho hdst (e1.trans hy) ((congrArg toD e2).trans hz) hob hd he hsz hle
theorem sop2_look {tm2 tm' : List (Nat × X)} {ob' : List AObj} (h : sop2 C o tm ob = some (p, tm', ob')) (he : ∀ z ∈ o.op.operands.toList, (⟨tm2, ob⟩ : St).ev C.E z = (⟨tm, ob⟩ : St).ev C.E z) :
    ∃ d x, o.dst = some d ∧ tm' = (d, x) :: tm ∧ sop2 C o tm2 ob = some (p, (d, x) :: tm2, ob') := by
  unfold sop2 at h ⊢
  split at h
  · rename_i t y z ho
    have e1 := he y (by simp [ho, Op.operands])
    have e2 := he z (by simp [ho, Op.operands])
    simp only [ho] at *
    split at h
    · rename_i d te ky n kz m hdst hte hy hz
      rw [hdst, hte, e1, e2, hy, hz]
      try simp only
      split at h
      · rename_i zd hzd
        cases hb : Nat.blt d C.N && (oneAll te.zero.cells.toList && Nat.beq te.zero.cells.size te.size) with
        | false => rw [hb] at h; cases h
        | true =>
          rw [hb] at h
          simp only [cond_true, Option.some.injEq, Prod.mk.injEq] at h
          obtain ⟨rfl, rfl, rfl⟩ := h
          exact ⟨_, _, rfl, rfl, rfl⟩
      · cases h
    · cases h
  · rename_i c ho
    obtain ⟨ce, args, tys⟩ := c
    obtain ⟨args⟩ := args
    obtain ⟨tys⟩ := tys
    simp only [ho] at *
    split at h
    · split at h
      · rename_i d y z t t' hdst
        have e1 := he y (by simp [Op.operands, Call.operands])
        have e2 := he z (by simp [Op.operands, Call.operands])
        rw [hdst]
        try simp only
        split at h
        · rename_i te ys hte hz
          rw [hte, e1, e2, hz]
          try simp only
          split at h
          · rename_i oi xs hown
            cases hb : Nat.blt d C.N && (Nat.beq t t' && (Nat.beq te.zero.cells.size te.size && Nat.blt 0 te.size)) with
            | false => rw [hb] at h; cases h
            | true =>
              rw [hb] at h
              simp only [cond_true, Option.some.injEq, Prod.mk.injEq] at h
              obtain ⟨rfl, rfl, rfl⟩ := h
              exact ⟨_, _, rfl, rfl, rfl⟩
          · cases h
        · cases h
      · cases h
    · cases h
  · cases h
/-- A row is made, or grows. -/
theorem rgS {tm' : List (Nat × X)} {ob' : List AObj} (hne : E.contains i = true) (hg : guardX l.toArray tm o = some true) (hd : dstOK C o = true) (hs : sop2 C o tm ob = some (p, tm', ob')) (hp : p) (hw : wkP wob.length wob ob') (h : RGo C id l E wob (i + 1) rest ⟨tm', ob'⟩ K) : RGo C id l E wob i (o :: rest) ⟨tm, ob⟩ K := by
  obtain ⟨d, x, hdst, rfl, -⟩ := sop2_look (tm2 := tm) hs fun _ _ => rfl
  refine rgX (x := x) (ob' := ob') hne hg hd (fun tm2 hev => ?_) hw (by rw [hdst]; exact h)
  obtain ⟨d', x', hdst', e, h2⟩ := sop2_look (tm2 := tm2) hs hev
  rw [hdst] at hdst'
  cases hdst'
  cases e
  rw [hdst]
  exact sop2_ok h2 hp
end
end Go.Abs

/- Calls that are handed objects: data handed back; such calls in a region whose order is drawn. Conditions: each rule's own. -/
namespace Go.Abs
open Go Go.RowKit

theorem WInv.ren2 {E : Env} {B : Base} {F : Nat → Prop} {σ : Sg} {ob ob' : List AObj} {w : World} (hi : WInv E B F σ ob w) (ks : List Nat) (hn : nodupB ks = true) (hob : renObs ks ob ks = some ob') : WInv E ⟨B.O, 0, []⟩ F (ks.map fun k => σ.getD k (0, 0, 0)) ob' w := by
  obtain ⟨r1, r2, r3, hi1⟩ := hi.ren ks hn hob
  refine ⟨hi1.flt, hi1.glob, hi1.len, fun o x p hx hp => ?_, hi1.inj, fun i p h => absurd h (Nat.not_lt_zero _)⟩
  refine (hi1.obs o x p hx hp).own fun hl => ?_
  obtain ⟨k, y, g1, g2, g3⟩ := r3 o x hx
  rw [(r1 o k g1).2] at hp
  exact ((hi.obs k y p g2 hp).notO (by rw [g3]; exact hl)).1
/-- What the result variables read as. -/
def ResD (C : Cx) (fn : Func) (s : St) (rx : X) : Prop := (∃ q d, fn.results = #[q] ∧ resX C s q = some d ∧ rx = .d d) ∨ ∃ q q' d d', fn.results = #[q, q'] ∧ resX C s q = some d ∧ resX C s q' = some d' ∧ rx = .tup [d, d']
theorem ResD.run {C : Cx} {fn : Func} {s : St} {rx : X} {F : Nat → Prop} {σ σ' : Sg} {w : World} {a : Act} (h : ResD C fn s rx) (hi : WInv C.E C.base F σ s.ob w) (hs : ∀ t, RdX w F σ (lk s.tm t) (a.tmps.getD t undef)) :
    ∃ v, (results fn a.tmps).run C.E.P w = .ok v w ∧ RdX w F σ' rx v := by
  rcases h with ⟨q, d, hr, h, rfl⟩ | ⟨q, q', d, d', hr, h, h', rfl⟩
  · obtain ⟨v, h1, h2⟩ := resX_run hi hs h
    exact ⟨v, by rw [results_eq, hr]; simp [h1], h2⟩
  · obtain ⟨v, h1, h2⟩ := resX_run hi hs h
    obtain ⟨v', h1', h2'⟩ := resX_run hi hs h'
    refine ⟨.tuple #[v, v'], by rw [results_eq, hr]; simp [h1, h1'], [v, v'], rfl, rfl, fun i x u hx hu => ?_⟩
    match i with
    | 0 => simp at hx hu; subst hx hu; exact h2
    | 1 => simp at hx hu; subst hx hu; exact h2'
    | i + 2 => simp at hx
def EndSD (C : Cx) (fn : Func) (rx : X) (ob' : List AObj) : Exit → St → Prop
  | .ret, s | .normal, s => ResD C fn s rx ∧ ∃ ks, nodupB ks = true ∧ ((List.range C.base.n0).all fun i => ks[i]? == some i) = true ∧ renObs ks s.ob ks = some ob'
  | _, _ => False
theorem EvS.enterD {E : Env} {f : FuncId} {fn : Func} {c : Code} {xs : List X} {ob ob' : List AObj} {rx : X} {N : Nat} (hf : E.P.funcs[f]? = some fn) (hN : fn.ntmps = N) (hb : fn.body = some c) (hle : Nat.ble xs.length N = true)
    (h : ∀ (w0 : World) (F0 O : Nat → Prop) (σ0 : Sg), go ⟨E, w0, F0, N, ⟨O, ob.length, σ0⟩⟩ [.code c] ⟨(List.range xs.length).zip xs, ob⟩ (EndSD ⟨E, w0, F0, N, ⟨O, ob.length, σ0⟩⟩ fn rx ob')) : EvS E f xs ob rx ob' := by
  intro w F σ vs hi hl hr
  refine calls_of_wp hf hb ?_
  have hgo := h w F (Held w ob σ) σ
  have hlook : ∀ t, RdX w F σ (lk ((List.range xs.length).zip xs) t) ((vs.toArray ++ Array.replicate (fn.ntmps - vs.toArray.size) undef).getD t undef) := by
    intro t
    have key : ∀ (k : Nat) (l : List X), (∀ (i : Nat) d, l[i]? = some d → xs[k + i]? = some d) → RdX w F σ (lk ((List.range' k l.length).zip l) t) ((vs.toArray ++ Array.replicate (fn.ntmps - vs.toArray.size) undef).getD t undef) := by
      intro k l
      induction l generalizing k with
      | nil => intro _; trivial
      | cons d l ih =>
        intro hk
        simp only [List.length_cons, List.range'_succ, List.zip_cons_cons, lk]
        cases hbq : Nat.beq k t with
        | true =>
          obtain rfl := Nat.eq_of_beq_eq_true hbq
          have hd : xs[k]? = some d := by simpa using hk 0 d rfl
          have hlt : k < vs.length := by rw [hl]; exact (List.getElem?_eq_some_iff.1 hd).1
          have e : (vs.toArray ++ Array.replicate (fn.ntmps - vs.toArray.size) undef).getD k undef = vs[k] := by
            simp [Array.getElem?_append, hlt]
          rw [e]
          exact hr k d _ hd (List.getElem?_eq_getElem hlt)
        | false =>
          refine ih (k + 1) fun i d' hi => ?_
          have := hk (i + 1) d' (by simpa using hi)
          rw [← this]
          congr 1
          omega
    have := key 0 xs fun i d hd => by simpa using hd
    rwa [← List.range_eq_range'] at this
  have hle' : xs.length ≤ N := Nat.le_of_ble_eq_true hle
  have hrel : Cx.Rel ⟨E, w, F, N, ⟨Held w ob σ, ob.length, σ⟩⟩ ⟨(List.range xs.length).zip xs, ob⟩ { tmps := vs.toArray ++ Array.replicate (fn.ntmps - vs.toArray.size) undef, defers := [] } w := by
    refine ⟨F, σ, Kept.refl (fun _ h => h.1), fun _ h => h, fun _ h => .inl h, ⟨hi.flt, hi.glob, hi.len, fun k x p hx hp => (hi.obs k x p hx hp).own fun hl ho => ho.2 ⟨k, x, p, hx, hl, hp, rfl⟩, hi.inj, fun i p _ hp => hp⟩, rfl, ?_, hlook⟩
    simp [hN, hl]
    omega
  refine wp_mono (hgo _ w hrel) ?_
  rintro e a' w' ⟨s', hrel', hq⟩
  have fin : (ResD ⟨E, w, F, N, ⟨Held w ob σ, ob.length, σ⟩⟩ fn s' rx ∧ ∃ ks, nodupB ks = true ∧ ((List.range ob.length).all fun i => ks[i]? == some i) = true ∧ renObs ks s'.ob ks = some ob') → a'.defers = [] ∧ ∃ v, (results fn a'.tmps).run E.P w' = .ok v w' ∧
      ∃ v_1 F' σ', Ending.returned v = .returned v_1 ∧ Kept (Held w ob σ) w w' ∧ (∀ b, F b → F' b) ∧ (∀ b, F' b → F b ∨ ¬ Held w ob σ b) ∧ (∀ (i : Nat) p, i < ob.length → σ[i]? = some p → σ'[i]? = some p) ∧ WInv E ⟨Held w ob σ, 0, []⟩ F' σ' ob' w' ∧ RdX w' F' σ' rx v_1 := by
    rintro ⟨hres, ks, hn, hk0, hob'⟩
    obtain ⟨F', σ', h1, h2, h3, hi', h4, h5, hs⟩ := hrel'
    obtain ⟨v, v1, v2⟩ := hres.run (σ' := ks.map fun k => σ'.getD k (0, 0, 0)) hi' hs
    refine ⟨h4, v, v1, v, F', _, rfl, h1, h2, h3, fun i p hlt hp => ?_, hi'.ren2 ks hn hob', v2⟩
    have hk := List.all_eq_true.1 hk0 i (List.mem_range.2 hlt)
    have hk' : ks[i]? = some i := by simpa using hk
    rw [((hi'.ren ks hn hob').1 i i hk').2]
    exact hi'.pre i p hlt hp
  cases e with
  | normal => exact fin hq
  | ret => exact fin hq
  | _ => exact hq.elim
section
variable {C : Cx} {r : List It} {fn : Func} {tm : List (Nat × X)} {ob ob' : List AObj}
theorem retD1 (ks : List Nat) {q : ResultVar} {d d' : D} (hn : nodupB ks = true) (hk0 : ((List.range C.base.n0).all fun i => ks[i]? == some i) = true) (hob : renObs ks ob ks = some ob') (hr : fn.results = #[q]) (h : resX C ⟨tm, ob⟩ q = some d) (he : d = d') :
    go C (.code .ret :: r) ⟨tm, ob⟩ (EndSD C fn (.d d') ob') := go_ret_ ⟨.inl ⟨q, d, hr, h, by rw [he]⟩, ks, hn, hk0, hob⟩
theorem retD2 (ks : List Nat) {q q' : ResultVar} {d d' : D} {l : List D} (hn : nodupB ks = true) (hk0 : ((List.range C.base.n0).all fun i => ks[i]? == some i) = true) (hob : renObs ks ob ks = some ob') (hr : fn.results = #[q, q']) (h : resX C ⟨tm, ob⟩ q = some d) (h' : resX C ⟨tm, ob⟩ q' = some d') (he : [d, d'] = l) :
    go C (.code .ret :: r) ⟨tm, ob⟩ (EndSD C fn (.tup l) ob') := go_ret_ ⟨.inr ⟨q, q', d, d', hr, h, h', by rw [he]⟩, ks, hn, hk0, hob⟩
end
section
variable {C : Cx} {tm : List (Nat × X)} {ob : List AObj} {id : Nat} {l : List Oper} {E : List Nat} {wob : List AObj} {i : Nat} {rest : List Oper} {K : St → Prop} {o : Oper} {d : Nat}
theorem rgCallS (sel : List Nat) {y : Operand} {args : List Operand} {tys : Array TypeId} {f : FuncId} {cs xs : List X} {ob1 ob1' ob2 : List AObj} {rx x2 : X} (hne : E.contains i = true) (ho : o.op = .call { callee := .value y, args := args.toArray, argTypes := tys }) (hg : guardX l.toArray tm o = some true) (hdst : o.dst = some d)
    (hd : Nat.blt d C.N = true) (hf : FnX ((⟨tm, ob⟩ : St).ev C.E y) f cs) (hb : HasBody C.E f) (h0 : EvS C.E f xs ob1 rx ob1') (hn : nodupB sel = true) (hob : renObs sel ob sel = some ob1) (hx : renL sel (args.map (fun z => nrm ((⟨tm, ob⟩ : St).ev C.E z)) ++ cs) = some xs)
    (hob2 : backL (bk sel ob.length) sel ob1' ob = ob2) (hx2 : bkX (bk sel ob.length) rx = x2) (hw : wkP wob.length wob ob2) (h : RGo C id l E wob (i + 1) rest ⟨(d, x2) :: tm, ob2⟩ K) : RGo C id l E wob i (o :: rest) ⟨tm, ob⟩ K := by
  subst hob2 hx2
  have hdk : dstOK C o = true := by simp only [dstOK, hdst]; exact hd
  refine rgX (x := bkX (bk sel ob.length) rx) (ob' := backL (bk sel ob.length) sel ob1' ob) hne hg hdk (fun tm' hev => ?_) hw (by rw [hdst]; exact h)
  have hm : ∀ z, z = y ∨ z ∈ args → (⟨tm', ob⟩ : St).ev C.E z = (⟨tm, ob⟩ : St).ev C.E z := by
    intro z hz
    refine hev z ?_
    rcases hz with rfl | hz <;> simp [ho, Op.operands, Call.operands, *]
  refine s_callS (s := ⟨tm', ob⟩) ho (by rw [hm y (.inl rfl)]; exact hf) hb hn hob ?_ h0 hdk
  rw [← hx]
  congr 2
  exact List.map_congr_left fun z hz => by rw [hm z (.inr hz)]
theorem rgCallB (sel : List Nat) {y : Operand} {args : List Operand} {tys : Array TypeId} {f : FuncId} {caps : List Cap} {xs : List X} {ob1 ob1' ob2 : List AObj} {rx x2 : X} (hne : E.contains i = true) (ho : o.op = .call { callee := .value y, args := args.toArray, argTypes := tys }) (hg : guardX l.toArray tm o = some true) (hdst : o.dst = some d)
    (hd : Nat.blt d C.N = true) (hf : (⟨tm, ob⟩ : St).ev C.E y = .bnd f caps) (hb : HasBody C.E f) (h0 : EvS C.E f xs ob1 rx ob1') (hn : nodupB sel = true) (hob : renObs sel ob sel = some ob1) (hx : renL sel (caps.map Cap.x ++ args.map (fun z => nrm ((⟨tm, ob⟩ : St).ev C.E z))) = some xs)
    (hob2 : backL (bk sel ob.length) sel ob1' ob = ob2) (hx2 : bkX (bk sel ob.length) rx = x2) (hw : wkP wob.length wob ob2) (h : RGo C id l E wob (i + 1) rest ⟨(d, x2) :: tm, ob2⟩ K) : RGo C id l E wob i (o :: rest) ⟨tm, ob⟩ K := by
  subst hob2 hx2
  have hdk : dstOK C o = true := by simp only [dstOK, hdst]; exact hd
  refine rgX (x := bkX (bk sel ob.length) rx) (ob' := backL (bk sel ob.length) sel ob1' ob) hne hg hdk (fun tm' hev => ?_) hw (by rw [hdst]; exact h)
  have hm : ∀ z, z = y ∨ z ∈ args → (⟨tm', ob⟩ : St).ev C.E z = (⟨tm, ob⟩ : St).ev C.E z := by
    intro z hz
    refine hev z ?_
    rcases hz with rfl | hz <;> simp [ho, Op.operands, Call.operands, *]
  refine s_callB (s := ⟨tm', ob⟩) ho (by rw [hm y (.inl rfl)]; exact hf) hb hn hob ?_ h0 hdk
  rw [← hx]
  congr 2
  exact List.map_congr_left fun z hz => by rw [hm z (.inr hz)]
end
end Go.Abs

/- A row that grew out of nil, given up as data. Conditions: each rule's own. -/
namespace Go.Abs
open Go Go.RowKit

/-- A row that grows out of nil, with a number of its own. -/
def rowK (k : Nat) : List D → X
  | [] => .nilS
  | _ :: _ => .own k
theorem frzX_below {k : Nat} {xs : List D} {x : X} (h : x.below k = true) : frzX k xs x = x := by
  cases x with
  | own i =>
    have : ¬ i = k := by have : i < k := by simpa [X.below] using h
                         omega
    simp only [frzX]
    rw [show Nat.beq i k = false by rw [← Bool.not_eq_true]; exact fun e => this (Nat.eq_of_beq_eq_true e)]
    rfl
  | pel i j off z =>
    have : ¬ i = k := by have : i < k := by simpa [X.below] using h
                         omega
    simp only [frzX]
    rw [show Nat.beq i k = false by rw [← Bool.not_eq_true]; exact fun e => this (Nat.eq_of_beq_eq_true e)]
    rfl
  | _ => rfl
theorem frzO_below {k : Nat} {xs : List D} {x : AObj} (h : x.below k = true) : frzO k xs x = x := by
  cases x with
  | var t c =>
    simp only [frzO]
    congr 1
    cases c with
    | w y =>
      simp only [frzC]
      congr 1
      cases y with
      | d d => rfl
      | _ => exact frzX_below (List.all_eq_true.1 h _ (by simp [VC.cells, X.cells]))
    | cs l =>
      simp only [frzC]
      congr 1
      have : ∀ y ∈ l, frzX k xs y = y := fun y hy => frzX_below (List.all_eq_true.1 h y hy)
      rw [List.map_congr_left this]
      simp
  | _ => rfl
theorem Le.rowD {C : Cx} {t k : Nat} {te : TypeId} {size : Nat} {ys : List D} {tm : List (Nat × X)} {ob : List AObj} (hk : ob.length = k) (h0 : C.base.n0 ≤ k) (hT : ∀ u, (lk tm u).below k = true) (hO : ∀ x ∈ ob, x.below k = true) :
    Le C ⟨(t, rowK k ys) :: tm, ob ++ rowO te size ys⟩ ⟨(t, .d (.sl ys)) :: tm, ob⟩ := by
  intro a w hr
  cases ys with
  | nil =>
    obtain ⟨F, σ, h1, h2, h3, hi, h4, h5, hs⟩ := hr
    refine ⟨F, σ, h1, h2, h3, by simpa [rowO] using hi, h4, h5, fun u => ?_⟩
    have := hs u
    simp only [lk] at this ⊢
    cases hb : Nat.beq t u with
    | true =>
      rw [hb] at this
      have hv : a.tmps.getD u undef = .slice none 0 0 := this
      rw [hv]
      exact Rd.slnil
    | false => rw [hb] at this; exact this
  | cons y ys =>
    simp only [rowK, rowO] at hr
    have hob : (ob ++ [AObj.row te size (y :: ys)])[k]? = some (.row te size (y :: ys)) := by rw [← hk]; simp
    have hf : frz k ⟨(t, .own k) :: tm, ob ++ [AObj.row te size (y :: ys)]⟩ = some ⟨frzT k (y :: ys) ((t, .own k) :: tm), ((ob ++ [AObj.row te size (y :: ys)]).map (frzO k (y :: ys))).set k .dead⟩ := by
      unfold frz
      simp only [hob]
    obtain ⟨F, σ, h1, h2, h3, hi, h4, h5, hs⟩ := frz_le k hf a w hr
    have hwk : Wk ob (((ob ++ [AObj.row te size (y :: ys)]).map (frzO k (y :: ys))).set k .dead) := by
      refine ⟨by simp, fun i x hx _ => ?_⟩
      have hlt : i < k := by rw [← hk]; exact (List.getElem?_eq_some_iff.1 hx).1
      have hm := List.mem_of_getElem? hx
      refine ⟨?_, by rw [hk]; exact hO x hm⟩
      rw [List.getElem?_set_ne (by omega), List.getElem?_map, List.getElem?_append_left (by omega), hx, Option.map_some, frzO_below (hO x hm)]
    refine ⟨F, σ.take ob.length, h1, h2, h3, hi.wk hwk (by omega), h4, h5, fun u => ?_⟩
    have := hs u
    rw [lk_frz] at this
    simp only [lk] at this ⊢
    cases hb : Nat.beq t u with
    | true =>
      rw [hb] at this
      simp only [cond_true, frzX] at this
      rw [show Nat.beq k k = true by simp] at this
      exact this
    | false =>
      rw [hb] at this
      simp only [cond_false] at this ⊢
      rw [frzX_below (hT u)] at this
      rw [hk]
      exact this.take (hT u)
section
variable {C : Cx} {r : List It} {Q : Exit → St → Prop} {tm : List (Nat × X)} {ob : List AObj}
/-- The row in the first slot listed is given up. -/
theorem go_rowD {c : Code} {t k : Nat} {te : TypeId} {size : Nat} {ys : List D} (hk : Nat.beq ob.length k = true) (h0 : Nat.ble C.base.n0 k = true) (hT : TmB k tm) (hO : ObLe k ob) (h : go C (.code c :: r) ⟨(t, .d (.sl ys)) :: tm, ob⟩ Q) :
    go C (.code c :: r) ⟨(t, rowK k ys) :: tm, ob ++ rowO te size ys⟩ Q := by
  refine go_weaken (Le.rowD (Nat.eq_of_beq_eq_true hk) (Nat.le_of_ble_eq_true h0) (fun u => hT.lk u) ?_) h
  have : ∀ {l : List AObj}, ObLe k l → ∀ x ∈ l, x.below k = true := by
    intro l
    induction l with
    | nil => intro _ x hx; simp at hx
    | cons a r ih =>
      intro h x hx
      rcases List.mem_cons.1 hx with rfl | hx
      · exact h.1
      · exact ih h.2 x hx
  exact this hO
end
end Go.Abs

/- Laws whose statement bears a bound on how much is read. Conditions: each theorem's own. -/
namespace Go.Abs
open Go Go.RowKit Go.ChangeShapes Go.WideShapes

theorem value_D2 {H : Type} {enc : TypeId × Value → H} {P : Program} {w : World} {sp : Nat → Bool} {held : Bool} {r : Reach} {base : Nat} (l : List TypeId) (hc : closedB P l = true) {t : TypeId} {v : Value} {d : DataW H} {ps : List MemPlace} (ht : t ∈ l)
    (hok : Value.okWide P w r base t v) (h : DataW.Trod enc P w 0 sp held t v d ps) : ∃ x, Rd w (F0 w) x v ∧ HasTy P t x ∧ Says d x := by
  obtain ⟨fuel, hf⟩ := h
  obtain ⟨x, hx⟩ := trod_D l hc fuel t _ d ps ht hf
  refine ⟨x, ?_, hx.ty, hx.says⟩
  have hct := List.all_eq_true.1 hc t ht
  have one : v.cells = #[v] → x.one = true → Rd w (F0 w) x v := by
    intro hv hx1
    have hxc : x.cells = [x] := by cases x <;> simp_all [D.one, D.cells]
    exact hx.rd 0 x v (by rw [hxc]; rfl) (by rw [hv]; rfl)
  have agg : ∀ ds : List D, x = .agg ds → (∃ cs, v = .agg cs ∧ cs.size = P.cellsOf t) → Rd w (F0 w) x v := by
    rintro ds rfl ⟨cs, rfl, -⟩
    have hl := hx.len
    have hrd := hx.rd
    simp only [D.cells, Value.cells] at hl hrd
    have := Rd.agg (w := w) (F := F0 w) ds cs.toList hl hx.one hrd
    simpa using this
  cases hx.ty with
  | bool b hu => obtain ⟨b', rfl⟩ := okWide_bool hu hok; exact one rfl rfl
  | int n hu => obtain ⟨n', rfl⟩ := okWide_int hu hok; exact one rfl rfl
  | str s hu => obtain ⟨s', rfl⟩ := okWide_string hu hok; exact one rfl rfl
  | sl xs hu hxs => obtain ⟨a, n, c, rfl⟩ := okWide_slice hu hok; exact one rfl rfl
  | struct parts hu hl hp => exact agg _ rfl (okWide_struct hu hok)
  | arr parts hu hl hp =>
    refine agg _ rfl ?_
    unfold Value.okWide at hok
    rw [hu] at hok
    obtain ⟨cs, h1, h2, -⟩ := hok
    exact ⟨cs, h1, h2⟩
theorem args_D2 {H : Type} {enc : TypeId × Value → H} {P : Program} {w : World} {sp : Nat → Bool} {held : Bool} {r : Reach} {base : Nat} (l : List TypeId) (hc : closedB P l = true) : ∀ {ts : List TypeId} {vs : List Value} {ds : List (DataW H)} {ps : List MemPlace},
    DataW.TrodAll enc P w 0 sp held ts vs ds ps → (∀ t ∈ ts, t ∈ l) → (∀ (j : Nat) t v, ts[j]? = some t → vs[j]? = some v → Value.okWide P w r base t v) →
    ∃ xs : List D, xs.length = vs.length ∧ vs.length = ts.length ∧ (∀ (i : Nat) x v, xs[i]? = some x → vs[i]? = some v → Rd w (F0 w) x v) ∧ ∀ (i : Nat) t x, ts[i]? = some t → xs[i]? = some x → HasTy P t x ∧ ∀ d, ds[i]? = some d → Says d x
  | [], [], [], _, _, _, _ => ⟨[], rfl, rfl, fun i x v h => by simp at h, fun i t x h => by simp at h⟩
  | [], [], _ :: _, _, h, _, _ => h.elim
  | [], _ :: _, _, _, h, _, _ => h.elim
  | _ :: _, [], _, _, h, _, _ => h.elim
  | _ :: _, _ :: _, [], _, h, _, _ => h.elim
  | t :: ts, v :: vs, d :: ds, ps, h, ht, hok => by
    obtain ⟨p, q, h1, h2, -⟩ := h
    obtain ⟨x, x1, x2, x5⟩ := value_D2 l hc (ht t (by simp)) (hok 0 t v rfl rfl) h1
    obtain ⟨xs, a1, a2, a3, a4⟩ := args_D2 l hc h2 (fun t' ht' => ht t' (by simp [ht'])) (fun j t' v' h1 h2 => hok (j + 1) t' v' (by simpa using h1) (by simpa using h2))
    refine ⟨x :: xs, by simp [a1], by simp [a2], fun i y u hy hu => ?_, fun i t' y hy hu => ?_⟩
    · cases i with
      | zero => simp at hy hu; subst hy hu; exact x1
      | succ i => exact a3 i y u (by simpa using hy) (by simpa using hu)
    · cases i with
      | zero => simp at hy hu; subst hy hu; exact ⟨x2, fun d' hd => by simp at hd; subst hd; exact x5⟩
      | succ i => exact a4 i t' y (by simpa using hy) (by simpa using hu)
theorem lift_cond {H : Type} {enc : TypeId × Value → H} {C : Checked} {os : Os} {f : FuncId} {fn : Func} {s0 : ChangeSpec} {s : OpenSpec} {kf : (H : Type) → List (DataW H) → Bool} {laid : List (String × DataW Unit)} {tb : TypeId} (F : Stop.Interp) (l : List TypeId) (hs0 : s.at F = s0) (hk : s.cond = some kf) (hvs : s.vars = [])
    (own : ownKnob C.prog.godebug = none) (started : os.Started) (noInit : C.prog.inits.idxOf? f = none) (hfn : C.prog.funcs[f]? = some fn)
    (witness : ∃ (w : World) (tape : Tape) (i : Input), w.os = os ∧ (w.forCall tape i).Shaped C.prog ∧ i.vars = [] ∧ Input.okWide C.prog (w.forCall tape i) .any w.heap.size f i ∧
      s.preRow enc C.prog fn [] false laid (w.forCall tape i).memory i.args ∧ ({} : Assume).holds C.prog (lone (Frame.enter C.prog f i.args .normal) [] (w.forCall tape i)))
    (hvars : s0.vars = []) (hres : fn.resultTypes = #[tb]) (htb : C.prog.underlying tb = some .bool) (hs : ∀ ds : List (DataW H), ds.length = fn.params.size → s0.fn H ds = { results := [.lit (.bool true)], args := ds })
    (hlaid : laidOutB C.prog = true) (hr : (fn.params.toList.all fun t => C.prog.readableRec t && decide (t < C.prog.types.size)) = true) (hc : closedB C.prog l = true) (hin : (fn.params.toList.all fun t => l.contains t) = true)
    (hcall : ∀ (W : World) (args : Array Value) (xs : List D) (ds : List (DataW H)), laidMetH C.prog laid W → W.ShapedOpen C.prog → xs.length = args.size → args.size = fn.params.size → (∀ (i : Nat) x v, xs[i]? = some x → args.toList[i]? = some v → Rd W (F0 W) x v) →
      (∀ (i : Nat) t x, fn.params.toList[i]? = some t → xs[i]? = some x → HasTy C.prog t x ∧ ∀ d, ds[i]? = some d → Says d x) → ds.length = fn.params.size → kf H ds = true → Calls C.prog f args W fun e W' => e = .returned (.bool true) ∧ Below W.heap.size W W') :
    ReturnsInHanded {} C os f .any (s.preRow enc C.prog fn [] false laid) ((s.at F).post enc C.prog fn false true false false) := by
  subst hs0
  refine returnsInHanded_of_row own started noInit hfn witness ?_
  intro W base args ds gs before hval hw _ hcond _ hlm hsh _
  have hk' := hcond kf hk
  obtain ⟨p, q, hA, hV, -, -, -⟩ := id hw
  rw [hvs] at hV
  obtain ⟨rfl, rfl⟩ := trodVars_none hV
  rw [List.append_nil] at hk'
  obtain ⟨xs, x1, x2, x3, x4⟩ := args_D2 (r := .any) (base := base) l hc hA (fun t ht => by simpa using List.all_eq_true.1 hin t ht) (fun j t v h1 h2 => hval j t v (by simpa using h1) (by simpa using h2))
  have hsize : args.size = fn.params.size := by simpa using x2
  have hdl : ds.length = fn.params.size := by
    have key : ∀ {ts : List TypeId} {vs : List Value} {ds : List (DataW H)} {ps : List MemPlace}, DataW.TrodAll enc C.prog W 0 (fun _ => true) true ts vs ds ps → ds.length = ts.length := by
      intro ts
      induction ts with
      | nil => intro vs ds ps h; cases vs <;> cases ds <;> simp [DataW.TrodAll] at h ⊢
      | cons t ts ih =>
        intro vs ds ps h
        cases vs <;> cases ds <;> simp [DataW.TrodAll] at h
        obtain ⟨p, -, q, h2, -⟩ := h
        simp [ih h2]
    simpa using key hA
  refine (hcall W args xs ds hlm hsh (by simpa using x1) hsize x3 x4 hdl hk').mono fun e W' ⟨he, hb⟩ => ?_
  subst he
  exact ⟨_, rfl, post_true hlaid (by rw [hvars, ← hvs]; exact hw) hvars hres htb hs hr hb⟩
/-- There is an input that fits. -/
theorem witness_cond {H : Type} {enc : TypeId × Value → H} {C : Checked} {os : Os} {f : FuncId} {fn : Func} {s : OpenSpec} {kf : (H : Type) → List (DataW H) → Bool} (hk : s.cond = some kf) {laid : List (String × DataW Unit)} (w0 : World) (args : Array Value) (fuel : Nat) (hos : w0.os = os)
    (hsh : (w0.forCall (fun _ _ => 0) ⟨#[], args, []⟩).Shaped C.prog) (hok : Input.okWideB C.prog (w0.forCall (fun _ _ => 0) ⟨#[], args, []⟩) f ⟨#[], args, []⟩ = true)
    (hx : (match DataW.whole enc C.prog (w0.forCall (fun _ _ => 0) ⟨#[], args, []⟩).memory fn.params.toList s.vars false args.toList fuel with | some x => kf H (x.1 ++ x.2.1) | none => false) = true)
    (hsz : s.bare.sizedB enc C.prog fn false (w0.forCall (fun _ _ => 0) ⟨#[], args, []⟩).memory args fuel = true) (hl : laidMetH C.prog laid (w0.forCall (fun _ _ => 0) ⟨#[], args, []⟩).memory) :
    ∃ (w : World) (tape : Tape) (i : Input), w.os = os ∧ (w.forCall tape i).Shaped C.prog ∧ i.vars = [] ∧ Input.okWide C.prog (w.forCall tape i) .any w.heap.size f i ∧
      s.preRow enc C.prog fn [] false laid (w.forCall tape i).memory i.args ∧ ({} : Assume).holds C.prog (lone (Frame.enter C.prog f i.args .normal) [] (w.forCall tape i)) := by
  cases h : DataW.whole enc C.prog (w0.forCall (fun _ _ => 0) ⟨#[], args, []⟩).memory fn.params.toList s.vars false args.toList fuel with
  | none => rw [h] at hx; cases hx
  | some x =>
    rw [h] at hx
    refine ⟨w0, fun _ _ => 0, ⟨#[], args, []⟩, hos, hsh, (Input.okWide_of_okWideB (base := 0) hok).1, (Input.okWide_of_okWideB hok).2, ⟨⟨(OpenSpec.pre_some hk [] false _ _).2 ⟨x.1, x.2.1, x.2.2, DataW.Whole_of_whole h, rfl, hx⟩, hl⟩, sizedMet_of_sizedB hsz⟩, ?_⟩
    simp only [Assume.holds]
    exact ⟨by simp, by simp, fun _ => Modest.zero, by simp, by simp⟩
mutual
/-- How much a datum holds. -/
def bulkD : D → Nat
  | .imm v => (match v with | .string s => s.size + 1 | _ => 1)
  | .sl xs => bulkL xs + 1
  | .agg cs => bulkL cs
def bulkL : List D → Nat
  | [] => 0
  | d :: r => bulkD d + bulkL r
end
theorem bulkL_app : ∀ (a b : List D), bulkL (a ++ b) = bulkL a + bulkL b
  | [], b => by rw [List.nil_append, show bulkL [] = 0 by rw [bulkL]]; omega
  | d :: r, b => by rw [List.cons_append, bulkL, bulkL, bulkL_app r b]; omega
theorem bulk_cells (d : D) : bulkL d.cells = bulkD d := by
  cases d with
  | imm v => rw [show (D.imm v).cells = [.imm v] from rfl, bulkL, show bulkL [] = 0 by rw [bulkL]]; omega
  | sl xs => rw [show (D.sl xs).cells = [.sl xs] from rfl, bulkL, show bulkL [] = 0 by rw [bulkL]]; omega
  | agg cs => rw [show (D.agg cs).cells = cs from rfl, bulkD]
theorem bulk_parts : ∀ parts : List D, bulkL (parts.flatMap D.cells) = bulkL parts
  | [] => rfl
  | d :: r => by rw [List.flatMap_cons, bulkL_app, bulk_cells, bulk_parts r, bulkL]
theorem bulkL_mem : ∀ {l : List D} {x : D}, x ∈ l → bulkD x ≤ bulkL l
  | a :: r, x, h => by
    rw [bulkL]
    rcases List.mem_cons.1 h with rfl | h
    · omega
    · have := bulkL_mem h; omega
end Go.Abs

/- Short names for the steps of a walk whose premises say themselves. Conditions: none. -/
namespace Go.Abs
open Go
section
variable {C : Cx} {all : Array Oper} {pu : Bool} {K : St → Prop} {rest : List Oper} {o : Oper} {tm tm' : List (Nat × X)} {ob ob' : List AObj} {r : List It} {s : St} {Q : Exit → St → Prop}
theorem zS {p : Prop} (hv : stepY C all pu o tm ob = some (p, tm', ob')) (h : SGo C all pu rest ⟨tm', ob'⟩ K)
    (hp : p := by first | exact True.intro | rfl | assumption | omega | (simp only [inR]; omega) | ((show _ ≤ (9223372036854775807 : Nat)); (try simp only [ByteArray.size_append]); omega) | exact tmod_ok (by omega) (by omega) | exact tdiv_ok (by omega) (by omega) | exact ⟨rfl, by decide, by decide⟩) :
    SGo C all pu (o :: rest) ⟨tm, ob⟩ K := qS hv hp h
theorem zT {c : Operand} {x y : Code} {b : Bool} (hc : s.ev C.E c = .d (.imm (.bool b))) (ht : go C (.code x :: r) s Q) (hb : b = true := by first | rfl | assumption) : go C (.code (.cond c x y) :: r) s Q := qT hc hb ht
theorem zU {c : Operand} {x y : Code} {b : Bool} (hc : s.ev C.E c = .d (.imm (.bool b))) (hf : go C (.code y :: r) s Q) (hb : b = false := by first | rfl | assumption) : go C (.code (.cond c x y) :: r) s Q := qU hc hb hf
theorem zX {j t : Nat} {pol b : Bool} {q : Oper} (hg : o.guard = some (j, pol)) (hj : all[j]? = some q) (hq : q.dst = some t) (hb : lk tm t = .d (.imm (.bool b)))
    (h : SGo C all pu (o :: rest) ⟨(t, .d (.imm (.bool true))) :: tm, ob⟩ K) (he : b = true := by assumption) : SGo C all pu (o :: rest) ⟨tm, ob⟩ K := qX hg hj hq hb he h
theorem zW {j t : Nat} {pol b : Bool} {q : Oper} (hg : o.guard = some (j, pol)) (hj : all[j]? = some q) (hq : q.dst = some t) (hb : lk tm t = .d (.imm (.bool b)))
    (h : SGo C all pu (o :: rest) ⟨(t, .d (.imm (.bool false))) :: tm, ob⟩ K) (he : b = false := by assumption) : SGo C all pu (o :: rest) ⟨tm, ob⟩ K := qX hg hj hq hb he h
end
theorem zD {d : D} : d = d := rfl
theorem zL {l : List D} : l = l := rfl
theorem zle {C : Cx} {tm tm' : List (Nat × X)} {ob ob' : List AObj} (n : Nat) (hn : Nat.ble C.base.n0 n = true := by exact rfl) (hob : ob' = ob.take n := by exact rfl)
    (ht : TmLe tm n tm' := by repeat (first | exact trivial | refine ⟨⟨rfl, rfl⟩, ?_⟩)) (ho : ObLe n ob' := by repeat (first | exact trivial | refine ⟨rfl, ?_⟩)) : Le C ⟨tm, ob⟩ ⟨tm', ob'⟩ := Le.of' n hn hob ht ho
theorem zren {C : Cx} {tm tm' : List (Nat × X)} {ob ob' : List AObj} (ks : List Nat) (hn : nodupB ks = true := by exact rfl) (hk0 : ((List.range C.base.n0).all fun i => ks[i]? == some i) = true := by exact rfl)
    (hob : renObs ks ob ks = some ob' := by exact rfl) (ht : TmRen tm ks tm' := by repeat (first | exact trivial | refine ⟨rfl, ?_⟩)) : Le C ⟨tm, ob⟩ ⟨tm', ob'⟩ := Le.ren ks hn hk0 hob ht
end Go.Abs

/- In a region whose order is drawn: a literal of a slice as a row of the call's own, and an append whose row is given up as data at once. Conditions: each rule's own. -/
namespace Go.Abs
open Go Go.RowKit

theorem RdX.isBelow {w : World} {F : Nat → Prop} {σ : Sg} {x : X} {v : Value} (h : RdX w F σ x v) : x.below σ.length = true := by
  have key : ∀ (o : Nat) (p : Nat × Nat × Nat), σ[o]? = some p → Nat.blt o σ.length = true := fun o p h => by
    have := (List.getElem?_eq_some_iff.1 h).1
    simpa using this
  have caps : ∀ (cs : List Cap) (us : List Value), cs.length = us.length → (∀ (i : Nat) c u, cs[i]? = some c → us[i]? = some u → CapRd w F σ c u) → ∀ c ∈ cs, c.x.below σ.length = true := by
    intro cs us hl hr c hc
    obtain ⟨i, hi, he⟩ := List.mem_iff_getElem.1 hc
    have h1 := hr i c us[i] (by rw [← he]; exact List.getElem?_eq_getElem hi) (List.getElem?_eq_getElem (by omega))
    cases c with
    | d x => rfl
    | ptr o off => obtain ⟨b, c, n, h2, -⟩ := h1; exact key _ _ h2
  cases x with
  | ptr o off => obtain ⟨b, c, n, h1, -⟩ := h; exact key _ _ h1
  | own o => obtain ⟨b, c, n, h1, -⟩ := h; exact key _ _ h1
  | pel o i off size => obtain ⟨b, c, n, h1, -⟩ := h; exact key _ _ h1
  | clo f cs =>
    obtain ⟨us, -, hl, hr⟩ := h
    refine List.all_eq_true.2 fun c hc => ?_
    have := caps cs us hl hr c hc
    cases c with
    | d x => rfl
    | ptr o off => exact this
  | bnd f cs =>
    obtain ⟨us, -, hl, hr⟩ := h
    refine List.all_eq_true.2 fun c hc => ?_
    have := caps cs us hl hr c hc
    cases c with
    | d x => rfl
    | ptr o off => exact this
  | _ => rfl
theorem Cx.Rel.tmBelow {C : Cx} {s : St} {a : Act} {w : World} (h : C.Rel s a w) (t : Nat) : (lk s.tm t).below s.ob.length = true := by
  obtain ⟨F, σ, -, -, -, hi, -, -, hs⟩ := h
  rw [← hi.len]
  exact (hs t).isBelow
theorem ObLe.all {n : Nat} : ∀ {l : List AObj}, ObLe n l → ∀ x ∈ l, x.below n = true
  | a :: r, h, x, hx => by
    rcases List.mem_cons.1 hx with rfl | hx
    · exact h.1
    · exact ObLe.all h.2 x hx
theorem EOp.data {C : Cx} {tm : List (Nat × X)} {ob ob1 : List AObj} {o : Oper} {d : Nat} {te : TypeId} {size : Nat} {xs : List D} (hdst : o.dst = some d) (h0 : C.base.n0 ≤ ob1.length) (hlen : ob1.length = ob.length) (hO : ∀ x ∈ ob1, x.below ob1.length = true) (hx : xs ≠ [])
    (h : EOp C ⟨tm, ob⟩ o (.own ob1.length) (ob1 ++ [.row te size xs])) : EOp C ⟨tm, ob⟩ o (.d (.sl xs)) ob1 := by
  intro tm' hev w a K Q hrel hK
  refine h tm' hev w a K Q hrel fun a' w' hr' => hK a' w' ?_
  rw [hdst] at hr' ⊢
  cases xs with
  | nil => exact absurd rfl hx
  | cons y ys => exact Le.rowD (k := ob1.length) (ys := y :: ys) rfl h0 (fun u => by rw [hlen]; exact hrel.tmBelow u) hO a' w' hr'









section
variable {C : Cx} {r : List It} {Q : Exit → St → Prop} {tm : List (Nat × X)} {ob : List AObj} {id : Nat} {l : List Oper} {E : List Nat} {wob : List AObj} {i : Nat} {ops : List Oper} {K : St → Prop}
end
section
variable {C : Cx} {tm : List (Nat × X)} {ob : List AObj} {id : Nat} {l : List Oper} {E : List Nat} {wob : List AObj} {i : Nat} {rest : List Oper} {K : St → Prop} {o : Oper} {d : Nat} {p : Prop} {x : X}
end
end Go.Abs

/- Values as plain trees, how they are written as data, and what the functions of layers 1, 3 and 4 come to. Conditions: none; plain definitions and lemmas. -/
namespace Go.Val
open Go Go.Abs

/-- A value: its kind, its two numbers, its string, its elements. -/
inductive V where
  | mk (k n d : Int) (s : ByteArray) (l : List V)
  deriving Inhabited
def V.k : V → Int | .mk k _ _ _ _ => k
def V.n : V → Int | .mk _ n _ _ _ => n
def V.d : V → Int | .mk _ _ d _ _ => d
def V.s : V → ByteArray | .mk _ _ _ s _ => s
def V.l : V → List V | .mk _ _ _ _ l => l
theorem V.eta (v : V) : V.mk v.k v.n v.d v.s v.l = v := by cases v; rfl

mutual
def kids : V → List D
  | .mk _ _ _ _ l => encL l
def encL : List V → List D
  | [] => []
  | v :: r => .agg [.int v.k, .int v.n, .int v.d, .str v.s, .sl (kids v)] :: encL r
end
def enc (v : V) : D := .agg [.int v.k, .int v.n, .int v.d, .str v.s, .sl (kids v)]
theorem encL_map (l : List V) : encL l = l.map enc := by
  induction l with
  | nil => simp [encL]
  | cons v r ih => simp [encL, ih, enc]
theorem kids_eq (v : V) : kids v = v.l.map enc := by
  cases v
  simp [kids, encL_map, V.l]
theorem kids_get {v : V} {i : Nat} {x : V} (h : v.l[i]? = some x) : (kids v)[i]? = some (enc x) := by
  rw [kids_eq, List.getElem?_map, h]; rfl
theorem encL_get {l : List V} {i : Nat} {x : V} (h : l[i]? = some x) : (encL l)[i]? = some (enc x) := by
  rw [encL_map, List.getElem?_map, h]; rfl
theorem kids_len (v : V) : (kids v).length = v.l.length := by rw [kids_eq]; simp
theorem encL_len (l : List V) : (encL l).length = l.length := by rw [encL_map]; simp
def encR (l : List (List V)) : List D := l.map fun r => .sl (encL r)

theorem fit_enc {v : V} (h : Fit (enc v)) : inR .i64 v.k ∧ inR .i64 v.n ∧ inR .i64 v.d ∧ v.s.size ≤ 9223372036854775807 ∧ v.l.length ≤ 9223372036854775807 ∧ ∀ x ∈ v.l, Fit (enc x) := by
  have hc := h.aggs
  have h5 := (hc (.sl (kids v)) (by simp)).sls
  rw [kids_len] at h5
  refine ⟨(hc (.int v.k) (by simp)).int, (hc (.int v.n) (by simp)).int, (hc (.int v.d) (by simp)).int, (hc (.str v.s) (by simp)).str, h5.1, fun x hx => h5.2 _ ?_⟩
  rw [kids_eq]
  exact List.mem_map_of_mem hx
theorem fit_encL {l : List V} (h : Fit (.sl (encL l))) : l.length ≤ 9223372036854775807 ∧ ∀ x ∈ l, Fit (enc x) := by
  have h5 := h.sls
  rw [encL_len] at h5
  refine ⟨h5.1, fun x hx => h5.2 _ ?_⟩
  rw [encL_map]
  exact List.mem_map_of_mem hx
/-! ## Layer 1 and layer 3 -/
def inM (n : Int) : Bool := decide (n ≥ -1000000000000000) && decide (n ≤ 1000000000000000)
theorem inM_iff (n : Int) : inM n = true ↔ -1000000000000000 ≤ n ∧ n ≤ 1000000000000000 := by simp [inM]
def gcdF (a b : Int) : Int := bif inM a && inM b then (Int.gcd a b : Int) else 0
def fval (n d : Int) : Bool := decide (d ≥ 1) && (decide (d ≤ 1000000000000000) && (inM n && ((Int.gcd n d : Int) == 1)))
/-! ## Layer 4: Kleene's logic -/
def kn (t : Int) : Int := bif (t == 0) || (t == 2) then t else 1
theorem kn_cases (t : Int) : kn t = 0 ∨ kn t = 1 ∨ kn t = 2 := by
  unfold kn
  cases h : (t == 0) || (t == 2) with
  | false => simp
  | true => simp at h; simp only [cond_true]; omega
def tt (b : Bool) : Int := bif b then 2 else 0
def vBool (b : Bool) : V := .mk 1 (bif b then 1 else 0) 0 ⟨#[]⟩ []
def vInt (n : Int) : V := .mk 2 n 0 ⟨#[]⟩ []
def vRat (n d : Int) : V := bif d == 1 then vInt n else .mk 3 n d ⟨#[]⟩ []
def vStr (s : ByteArray) : V := .mk 4 0 0 s []
def vNode (n : Int) : V := .mk 5 n 0 ⟨#[]⟩ []
def vNull : V := .mk 0 0 0 ⟨#[]⟩ []
/-! ## Which values are valid -/
def s0 (s : ByteArray) : Bool := s.toList == (⟨#[]⟩ : ByteArray).toList
def strOK (s : ByteArray) : Bool := s.data.toList.all (fun b => !(decide (b.toNat < 32) || decide (b.toNat > 126))) && decide (s.size ≤ 100)
def okFlat (v : V) : Bool :=
  (v.k == 0 && (v.d == 0 && s0 v.s && v.l.length == 0) && v.n == 0) ||
  (v.k == 1 && (v.d == 0 && s0 v.s && v.l.length == 0) && (v.n == 0 || v.n == 1)) ||
  (v.k == 2 && (v.d == 0 && s0 v.s && v.l.length == 0) && inM v.n) ||
  (v.k == 3 && (s0 v.s && v.l.length == 0) && (decide (v.d ≥ 2) && fval v.n v.d)) ||
  (v.k == 4 && (v.d == 0 && v.l.length == 0) && (v.n == 0 && strOK v.s)) ||
  ((v.k == 5 || v.k == 6) && (v.d == 0 && s0 v.s && v.l.length == 0) && (decide (v.n ≥ 1) && decide (v.n ≤ 1000000)))
def okStep (i : Nat) (v : V) : Bool := v.k == (bif i % 2 == 0 then 5 else 6) && okFlat v
def okSteps : Nat → List V → Bool
  | _, [] => true
  | i, v :: r => okStep i v && okSteps (i + 1) r
def okPath (l : List V) : Bool := l.length % 2 == 1 && decide (l.length ≤ 25) && okSteps 0 l
/-- Valid where so many more lists may be nested. -/
def okN : Nat → V → Bool
  | 0, v => okFlat v || (v.k == 7 && (v.d == 0 && s0 v.s) && (v.n == 0 && okPath v.l))
  | m + 1, v => okFlat v || (v.k == 7 && (v.d == 0 && s0 v.s) && (v.n == 0 && okPath v.l)) || (v.k == 8 && (v.d == 0 && s0 v.s) && (v.n == 0 && decide (v.l.length ≤ 64) && v.l.all (okN m)))
def okV (v : V) : Bool := okN 8 v
def isNum (v : V) : Bool := (v.k == 2 || v.k == 3) && okV v
def numN (v : V) : Int := bif isNum v then v.n else 0
def numD (v : V) : Int := bif isNum v then (bif v.k == 2 then 1 else v.d) else 0
def truthF (v : V) : Int := bif v.k == 1 && okV v then tt (v.n == 1) else 1
def vTruth (t : Int) : V := bif kn t == 1 then vNull else vBool (t == 2)
end Go.Val

/- The table of the seat's types and listed variables, off the loaded program. Conditions: none. -/
namespace Go.Proofs.YthieohigmpfknaaGreatDoor
open Go Go.Abs
set_option maxRecDepth 100000
def te3 : TE := { t := 3, desc := Go.TypeDesc.int Go.IntKind.i64, size := 1, bytes := 8, zero := Go.Value.int Go.IntKind.i64 0 }
def te4 : TE := { t := 4, desc := Go.TypeDesc.bool, size := 1, bytes := 1, zero := Go.Value.bool false }
def te9 : TE := { t := 9, desc := Go.TypeDesc.string, size := 1, bytes := 16, zero := Go.Value.string { data := #[] } }
def te24 : TE := { t := 24, desc := Go.TypeDesc.struct #[{ name := "Nodes", type := 22, offset := 0, embedded := false, tag := "", pkgPath := "", byteOffset := 0 }, { name := "Edges", type := 23, offset := 1, embedded := false, tag := "", pkgPath := "", byteOffset := 24 }, { name := "NextNode", type := 3, offset := 2, embedded := false, tag := "", pkgPath := "", byteOffset := 48 }, { name := "NextEdge", type := 3, offset := 3, embedded := false, tag := "", pkgPath := "", byteOffset := 56 }], size := 4, bytes := 64, zero := Go.Value.agg #[Go.Value.slice Option.none 0 0, Go.Value.slice Option.none 0 0, Go.Value.int Go.IntKind.i64 0, Go.Value.int Go.IntKind.i64 0] }
def te25 : TE := { t := 25, desc := Go.TypeDesc.struct #[{ name := "Nodes", type := 22, offset := 0, embedded := false, tag := "", pkgPath := "", byteOffset := 0 }, { name := "Edges", type := 23, offset := 1, embedded := false, tag := "", pkgPath := "", byteOffset := 24 }, { name := "NextNode", type := 3, offset := 2, embedded := false, tag := "", pkgPath := "", byteOffset := 48 }, { name := "NextEdge", type := 3, offset := 3, embedded := false, tag := "", pkgPath := "", byteOffset := 56 }], size := 4, bytes := 64, zero := Go.Value.agg #[Go.Value.slice Option.none 0 0, Go.Value.slice Option.none 0 0, Go.Value.int Go.IntKind.i64 0, Go.Value.int Go.IntKind.i64 0] }
def te27 : TE := { t := 27, desc := Go.TypeDesc.struct #[{ name := "Kind", type := 3, offset := 0, embedded := false, tag := "", pkgPath := "", byteOffset := 0 }, { name := "N", type := 3, offset := 1, embedded := false, tag := "", pkgPath := "", byteOffset := 8 }, { name := "D", type := 3, offset := 2, embedded := false, tag := "", pkgPath := "", byteOffset := 16 }, { name := "S", type := 9, offset := 3, embedded := false, tag := "", pkgPath := "", byteOffset := 24 }, { name := "L", type := 26, offset := 4, embedded := false, tag := "", pkgPath := "", byteOffset := 40 }], size := 5, bytes := 64, zero := Go.Value.agg #[Go.Value.int Go.IntKind.i64 0, Go.Value.int Go.IntKind.i64 0, Go.Value.int Go.IntKind.i64 0, Go.Value.string { data := #[] }, Go.Value.slice Option.none 0 0] }
def te28 : TE := { t := 28, desc := Go.TypeDesc.struct #[{ name := "Kind", type := 3, offset := 0, embedded := false, tag := "", pkgPath := "", byteOffset := 0 }, { name := "N", type := 3, offset := 1, embedded := false, tag := "", pkgPath := "", byteOffset := 8 }, { name := "D", type := 3, offset := 2, embedded := false, tag := "", pkgPath := "", byteOffset := 16 }, { name := "S", type := 9, offset := 3, embedded := false, tag := "", pkgPath := "", byteOffset := 24 }, { name := "L", type := 26, offset := 4, embedded := false, tag := "", pkgPath := "", byteOffset := 40 }], size := 5, bytes := 64, zero := Go.Value.agg #[Go.Value.int Go.IntKind.i64 0, Go.Value.int Go.IntKind.i64 0, Go.Value.int Go.IntKind.i64 0, Go.Value.string { data := #[] }, Go.Value.slice Option.none 0 0] }
def te30 : TE := { t := 30, desc := Go.TypeDesc.struct #[{ name := "Op", type := 3, offset := 0, embedded := false, tag := "", pkgPath := "", byteOffset := 0 }, { name := "V", type := 28, offset := 1, embedded := false, tag := "", pkgPath := "", byteOffset := 8 }, { name := "Name", type := 9, offset := 6, embedded := false, tag := "", pkgPath := "", byteOffset := 72 }, { name := "Distinct", type := 4, offset := 7, embedded := false, tag := "", pkgPath := "", byteOffset := 88 }, { name := "Kids", type := 29, offset := 8, embedded := false, tag := "", pkgPath := "", byteOffset := 96 }], size := 9, bytes := 120, zero := Go.Value.agg #[Go.Value.int Go.IntKind.i64 0, Go.Value.int Go.IntKind.i64 0, Go.Value.int Go.IntKind.i64 0, Go.Value.int Go.IntKind.i64 0, Go.Value.string { data := #[] }, Go.Value.slice Option.none 0 0, Go.Value.string { data := #[] }, Go.Value.bool false, Go.Value.slice Option.none 0 0] }
def te31 : TE := { t := 31, desc := Go.TypeDesc.struct #[{ name := "Op", type := 3, offset := 0, embedded := false, tag := "", pkgPath := "", byteOffset := 0 }, { name := "V", type := 28, offset := 1, embedded := false, tag := "", pkgPath := "", byteOffset := 8 }, { name := "Name", type := 9, offset := 6, embedded := false, tag := "", pkgPath := "", byteOffset := 72 }, { name := "Distinct", type := 4, offset := 7, embedded := false, tag := "", pkgPath := "", byteOffset := 88 }, { name := "Kids", type := 29, offset := 8, embedded := false, tag := "", pkgPath := "", byteOffset := 96 }], size := 9, bytes := 120, zero := Go.Value.agg #[Go.Value.int Go.IntKind.i64 0, Go.Value.int Go.IntKind.i64 0, Go.Value.int Go.IntKind.i64 0, Go.Value.int Go.IntKind.i64 0, Go.Value.string { data := #[] }, Go.Value.slice Option.none 0 0, Go.Value.string { data := #[] }, Go.Value.bool false, Go.Value.slice Option.none 0 0] }
def te46 : TE := { t := 46, desc := Go.TypeDesc.struct #[{ name := "Name", type := 9, offset := 0, embedded := false, tag := "", pkgPath := "", byteOffset := 0 }, { name := "V", type := 28, offset := 1, embedded := false, tag := "", pkgPath := "", byteOffset := 16 }], size := 6, bytes := 80, zero := Go.Value.agg #[Go.Value.string { data := #[] }, Go.Value.int Go.IntKind.i64 0, Go.Value.int Go.IntKind.i64 0, Go.Value.int Go.IntKind.i64 0, Go.Value.string { data := #[] }, Go.Value.slice Option.none 0 0] }
def te47 : TE := { t := 47, desc := Go.TypeDesc.struct #[{ name := "Name", type := 9, offset := 0, embedded := false, tag := "", pkgPath := "", byteOffset := 0 }, { name := "V", type := 28, offset := 1, embedded := false, tag := "", pkgPath := "", byteOffset := 16 }], size := 6, bytes := 80, zero := Go.Value.agg #[Go.Value.string { data := #[] }, Go.Value.int Go.IntKind.i64 0, Go.Value.int Go.IntKind.i64 0, Go.Value.int Go.IntKind.i64 0, Go.Value.string { data := #[] }, Go.Value.slice Option.none 0 0] }
def te61 : TE := { t := 61, desc := Go.TypeDesc.struct #[{ name := "g", type := 25, offset := 0, embedded := false, tag := "", pkgPath := "graphdb/eval", byteOffset := 0 }, { name := "env", type := 32, offset := 4, embedded := false, tag := "", pkgPath := "graphdb/eval", byteOffset := 64 }, { name := "call", type := 60, offset := 5, embedded := false, tag := "", pkgPath := "graphdb/eval", byteOffset := 88 }], size := 6, bytes := 96, zero := Go.Value.agg #[Go.Value.slice Option.none 0 0, Go.Value.slice Option.none 0 0, Go.Value.int Go.IntKind.i64 0, Go.Value.int Go.IntKind.i64 0, Go.Value.slice Option.none 0 0, Go.Value.nilFunc] }
def te62 : TE := { t := 62, desc := Go.TypeDesc.struct #[{ name := "g", type := 25, offset := 0, embedded := false, tag := "", pkgPath := "graphdb/eval", byteOffset := 0 }, { name := "env", type := 32, offset := 4, embedded := false, tag := "", pkgPath := "graphdb/eval", byteOffset := 64 }, { name := "call", type := 60, offset := 5, embedded := false, tag := "", pkgPath := "graphdb/eval", byteOffset := 88 }], size := 6, bytes := 96, zero := Go.Value.agg #[Go.Value.slice Option.none 0 0, Go.Value.slice Option.none 0 0, Go.Value.int Go.IntKind.i64 0, Go.Value.int Go.IntKind.i64 0, Go.Value.slice Option.none 0 0, Go.Value.nilFunc] }
def te67 : TE := { t := 67, desc := Go.TypeDesc.struct #[{ name := "N", type := 3, offset := 0, embedded := false, tag := "", pkgPath := "", byteOffset := 0 }, { name := "D", type := 3, offset := 1, embedded := false, tag := "", pkgPath := "", byteOffset := 8 }], size := 2, bytes := 16, zero := Go.Value.agg #[Go.Value.int Go.IntKind.i64 0, Go.Value.int Go.IntKind.i64 0] }
def te68 : TE := { t := 68, desc := Go.TypeDesc.struct #[{ name := "N", type := 3, offset := 0, embedded := false, tag := "", pkgPath := "", byteOffset := 0 }, { name := "D", type := 3, offset := 1, embedded := false, tag := "", pkgPath := "", byteOffset := 8 }], size := 2, bytes := 16, zero := Go.Value.agg #[Go.Value.int Go.IntKind.i64 0, Go.Value.int Go.IntKind.i64 0] }
def te80 : TE := { t := 80, desc := Go.TypeDesc.struct #[{ name := "Id", type := 3, offset := 0, embedded := false, tag := "", pkgPath := "", byteOffset := 0 }, { name := "From", type := 3, offset := 1, embedded := false, tag := "", pkgPath := "", byteOffset := 8 }, { name := "To", type := 3, offset := 2, embedded := false, tag := "", pkgPath := "", byteOffset := 16 }, { name := "Type", type := 9, offset := 3, embedded := false, tag := "", pkgPath := "", byteOffset := 24 }, { name := "Props", type := 79, offset := 4, embedded := false, tag := "", pkgPath := "", byteOffset := 40 }], size := 5, bytes := 64, zero := Go.Value.agg #[Go.Value.int Go.IntKind.i64 0, Go.Value.int Go.IntKind.i64 0, Go.Value.int Go.IntKind.i64 0, Go.Value.string { data := #[] }, Go.Value.slice Option.none 0 0] }
def te81 : TE := { t := 81, desc := Go.TypeDesc.struct #[{ name := "Id", type := 3, offset := 0, embedded := false, tag := "", pkgPath := "", byteOffset := 0 }, { name := "From", type := 3, offset := 1, embedded := false, tag := "", pkgPath := "", byteOffset := 8 }, { name := "To", type := 3, offset := 2, embedded := false, tag := "", pkgPath := "", byteOffset := 16 }, { name := "Type", type := 9, offset := 3, embedded := false, tag := "", pkgPath := "", byteOffset := 24 }, { name := "Props", type := 79, offset := 4, embedded := false, tag := "", pkgPath := "", byteOffset := 40 }], size := 5, bytes := 64, zero := Go.Value.agg #[Go.Value.int Go.IntKind.i64 0, Go.Value.int Go.IntKind.i64 0, Go.Value.int Go.IntKind.i64 0, Go.Value.string { data := #[] }, Go.Value.slice Option.none 0 0] }
def te86 : TE := { t := 86, desc := Go.TypeDesc.struct #[{ name := "Id", type := 3, offset := 0, embedded := false, tag := "", pkgPath := "", byteOffset := 0 }, { name := "Labels", type := 85, offset := 1, embedded := false, tag := "", pkgPath := "", byteOffset := 8 }, { name := "Props", type := 79, offset := 2, embedded := false, tag := "", pkgPath := "", byteOffset := 32 }], size := 3, bytes := 56, zero := Go.Value.agg #[Go.Value.int Go.IntKind.i64 0, Go.Value.slice Option.none 0 0, Go.Value.slice Option.none 0 0] }
def te87 : TE := { t := 87, desc := Go.TypeDesc.struct #[{ name := "Id", type := 3, offset := 0, embedded := false, tag := "", pkgPath := "", byteOffset := 0 }, { name := "Labels", type := 85, offset := 1, embedded := false, tag := "", pkgPath := "", byteOffset := 8 }, { name := "Props", type := 79, offset := 2, embedded := false, tag := "", pkgPath := "", byteOffset := 32 }], size := 3, bytes := 56, zero := Go.Value.agg #[Go.Value.int Go.IntKind.i64 0, Go.Value.slice Option.none 0 0, Go.Value.slice Option.none 0 0] }
def te139 : TE := { t := 139, desc := Go.TypeDesc.struct #[{ name := "Key", type := 9, offset := 0, embedded := false, tag := "", pkgPath := "", byteOffset := 0 }, { name := "V", type := 28, offset := 1, embedded := false, tag := "", pkgPath := "", byteOffset := 16 }], size := 6, bytes := 80, zero := Go.Value.agg #[Go.Value.string { data := #[] }, Go.Value.int Go.IntKind.i64 0, Go.Value.int Go.IntKind.i64 0, Go.Value.int Go.IntKind.i64 0, Go.Value.string { data := #[] }, Go.Value.slice Option.none 0 0] }
def te140 : TE := { t := 140, desc := Go.TypeDesc.struct #[{ name := "Key", type := 9, offset := 0, embedded := false, tag := "", pkgPath := "", byteOffset := 0 }, { name := "V", type := 28, offset := 1, embedded := false, tag := "", pkgPath := "", byteOffset := 16 }], size := 6, bytes := 80, zero := Go.Value.agg #[Go.Value.string { data := #[] }, Go.Value.int Go.IntKind.i64 0, Go.Value.int Go.IntKind.i64 0, Go.Value.int Go.IntKind.i64 0, Go.Value.string { data := #[] }, Go.Value.slice Option.none 0 0] }
def te144 : TE := { t := 144, desc := Go.TypeDesc.struct #[{ name := "addr", type := 142, offset := 0, embedded := false, tag := "", pkgPath := "strings", byteOffset := 0 }, { name := "buf", type := 143, offset := 1, embedded := false, tag := "", pkgPath := "strings", byteOffset := 8 }], size := 2, bytes := 32, zero := Go.Value.agg #[Go.Value.pointer Option.none, Go.Value.slice Option.none 0 0] }
def te145 : TE := { t := 145, desc := Go.TypeDesc.struct #[{ name := "addr", type := 142, offset := 0, embedded := false, tag := "", pkgPath := "strings", byteOffset := 0 }, { name := "buf", type := 143, offset := 1, embedded := false, tag := "", pkgPath := "strings", byteOffset := 8 }], size := 2, bytes := 32, zero := Go.Value.agg #[Go.Value.pointer Option.none, Go.Value.slice Option.none 0 0] }
def te156 : TE := { t := 156, desc := Go.TypeDesc.struct #[{ name := "neg", type := 4, offset := 0, embedded := false, tag := "", pkgPath := "graphdb/frac", byteOffset := 0 }, { name := "hi", type := 155, offset := 1, embedded := false, tag := "", pkgPath := "graphdb/frac", byteOffset := 8 }, { name := "lo", type := 155, offset := 2, embedded := false, tag := "", pkgPath := "graphdb/frac", byteOffset := 16 }], size := 3, bytes := 24, zero := Go.Value.agg #[Go.Value.bool false, Go.Value.int Go.IntKind.u64 0, Go.Value.int Go.IntKind.u64 0] }
def te157 : TE := { t := 157, desc := Go.TypeDesc.struct #[{ name := "neg", type := 4, offset := 0, embedded := false, tag := "", pkgPath := "graphdb/frac", byteOffset := 0 }, { name := "hi", type := 155, offset := 1, embedded := false, tag := "", pkgPath := "graphdb/frac", byteOffset := 8 }, { name := "lo", type := 155, offset := 2, embedded := false, tag := "", pkgPath := "graphdb/frac", byteOffset := 16 }], size := 3, bytes := 24, zero := Go.Value.agg #[Go.Value.bool false, Go.Value.int Go.IntKind.u64 0, Go.Value.int Go.IntKind.u64 0] }
def te192 : TE := { t := 192, desc := Go.TypeDesc.struct #[{ name := "lo", type := 5, offset := 0, embedded := false, tag := "", pkgPath := "unicode/utf8", byteOffset := 0 }, { name := "hi", type := 5, offset := 1, embedded := false, tag := "", pkgPath := "unicode/utf8", byteOffset := 1 }], size := 2, bytes := 2, zero := Go.Value.agg #[Go.Value.int Go.IntKind.u8 0, Go.Value.int Go.IntKind.u8 0] }
def te193 : TE := { t := 193, desc := Go.TypeDesc.struct #[{ name := "lo", type := 5, offset := 0, embedded := false, tag := "", pkgPath := "unicode/utf8", byteOffset := 0 }, { name := "hi", type := 5, offset := 1, embedded := false, tag := "", pkgPath := "unicode/utf8", byteOffset := 1 }], size := 2, bytes := 2, zero := Go.Value.agg #[Go.Value.int Go.IntKind.u8 0, Go.Value.int Go.IntKind.u8 0] }
def te213 : TE := { t := 213, desc := Go.TypeDesc.struct #[{ name := "s", type := 9, offset := 0, embedded := false, tag := "", pkgPath := "errors", byteOffset := 0 }], size := 1, bytes := 16, zero := Go.Value.agg #[Go.Value.string { data := #[] }] }
def te214 : TE := { t := 214, desc := Go.TypeDesc.struct #[{ name := "s", type := 9, offset := 0, embedded := false, tag := "", pkgPath := "errors", byteOffset := 0 }], size := 1, bytes := 16, zero := Go.Value.agg #[Go.Value.string { data := #[] }] }
def te22 : TE := { t := 22, desc := Go.TypeDesc.slice 87, size := 1, bytes := 24, zero := Go.Value.slice Option.none 0 0 }
def te23 : TE := { t := 23, desc := Go.TypeDesc.slice 81, size := 1, bytes := 24, zero := Go.Value.slice Option.none 0 0 }
def te26 : TE := { t := 26, desc := Go.TypeDesc.slice 28, size := 1, bytes := 24, zero := Go.Value.slice Option.none 0 0 }
def te29 : TE := { t := 29, desc := Go.TypeDesc.slice 31, size := 1, bytes := 24, zero := Go.Value.slice Option.none 0 0 }
def te32 : TE := { t := 32, desc := Go.TypeDesc.slice 47, size := 1, bytes := 24, zero := Go.Value.slice Option.none 0 0 }
def te79 : TE := { t := 79, desc := Go.TypeDesc.slice 140, size := 1, bytes := 24, zero := Go.Value.slice Option.none 0 0 }
def te85 : TE := { t := 85, desc := Go.TypeDesc.slice 9, size := 1, bytes := 24, zero := Go.Value.slice Option.none 0 0 }
def te98 : TE := { t := 98, desc := Go.TypeDesc.slice 3, size := 1, bytes := 24, zero := Go.Value.slice Option.none 0 0 }
def te143 : TE := { t := 143, desc := Go.TypeDesc.slice 5, size := 1, bytes := 24, zero := Go.Value.slice Option.none 0 0 }
def te1 : TE := { t := 1, desc := Go.TypeDesc.func #[] #[] false, size := 1, bytes := 8, zero := Go.Value.nilFunc }
def te2 : TE := { t := 2, desc := Go.TypeDesc.int Go.IntKind.i64, size := 1, bytes := 8, zero := Go.Value.int Go.IntKind.i64 0 }
def te5 : TE := { t := 5, desc := Go.TypeDesc.int Go.IntKind.u8, size := 1, bytes := 1, zero := Go.Value.int Go.IntKind.u8 0 }
def te12 : TE := { t := 12, desc := Go.TypeDesc.int Go.IntKind.u64, size := 1, bytes := 8, zero := Go.Value.int Go.IntKind.u64 0 }
def te21 : TE := { t := 21, desc := Go.TypeDesc.int Go.IntKind.i32, size := 1, bytes := 4, zero := Go.Value.int Go.IntKind.i32 0 }
def te33 : TE := { t := 33, desc := Go.TypeDesc.func #[25, 31, 32] #[4] false, size := 1, bytes := 8, zero := Go.Value.nilFunc }
def te34 : TE := { t := 34, desc := Go.TypeDesc.func #[] #[4] false, size := 1, bytes := 8, zero := Go.Value.nilFunc }
def te35 : TE := { t := 35, desc := Go.TypeDesc.func #[25, 31, 32] #[28] false, size := 1, bytes := 8, zero := Go.Value.nilFunc }
def te36 : TE := { t := 36, desc := Go.TypeDesc.func #[28, 28] #[3] false, size := 1, bytes := 8, zero := Go.Value.nilFunc }
def te37 : TE := { t := 37, desc := Go.TypeDesc.func #[25, 31, 32] #[3] false, size := 1, bytes := 8, zero := Go.Value.nilFunc }
def te38 : TE := { t := 38, desc := Go.TypeDesc.func #[28] #[4] false, size := 1, bytes := 8, zero := Go.Value.nilFunc }
def te39 : TE := { t := 39, desc := Go.TypeDesc.int Go.IntKind.i64, size := 1, bytes := 8, zero := Go.Value.int Go.IntKind.i64 0 }
def te40 : TE := { t := 40, desc := Go.TypeDesc.func #[31] #[39] false, size := 1, bytes := 8, zero := Go.Value.nilFunc }
def te41 : TE := { t := 41, desc := Go.TypeDesc.func #[28] #[3] false, size := 1, bytes := 8, zero := Go.Value.nilFunc }
def te42 : TE := { t := 42, desc := Go.TypeDesc.func #[31] #[3] false, size := 1, bytes := 8, zero := Go.Value.nilFunc }
def te43 : TE := { t := 43, desc := Go.TypeDesc.func #[3, 31, 31] #[31] false, size := 1, bytes := 8, zero := Go.Value.nilFunc }
def te44 : TE := { t := 44, desc := Go.TypeDesc.func #[25, 31, 31, 32] #[4] false, size := 1, bytes := 8, zero := Go.Value.nilFunc }
def te45 : TE := { t := 45, desc := Go.TypeDesc.func #[31, 9, 28] #[31] false, size := 1, bytes := 8, zero := Go.Value.nilFunc }
def te48 : TE := { t := 48, desc := Go.TypeDesc.func #[25, 31, 9, 28, 32] #[4] false, size := 1, bytes := 8, zero := Go.Value.nilFunc }
def te49 : TE := { t := 49, desc := Go.TypeDesc.func #[31, 9] #[4] false, size := 1, bytes := 8, zero := Go.Value.nilFunc }
def te50 : TE := { t := 50, desc := Go.TypeDesc.func #[25, 25, 31, 47, 32] #[4] false, size := 1, bytes := 8, zero := Go.Value.nilFunc }
def te51 : TE := { t := 51, desc := Go.TypeDesc.func #[3] #[4] false, size := 1, bytes := 8, zero := Go.Value.nilFunc }
def te53 : TE := { t := 53, desc := Go.TypeDesc.func #[3, 3] #[3, 4] false, size := 1, bytes := 8, zero := Go.Value.nilFunc }
def te54 : TE := { t := 54, desc := Go.TypeDesc.func #[28, 3, 4] #[4] false, size := 1, bytes := 8, zero := Go.Value.nilFunc }
def te55 : TE := { t := 55, desc := Go.TypeDesc.func #[3] #[3] false, size := 1, bytes := 8, zero := Go.Value.nilFunc }
def te56 : TE := { t := 56, desc := Go.TypeDesc.func #[3, 3] #[4] false, size := 1, bytes := 8, zero := Go.Value.nilFunc }
def te57 : TE := { t := 57, desc := Go.TypeDesc.func #[3] #[31] false, size := 1, bytes := 8, zero := Go.Value.nilFunc }
def te58 : TE := { t := 58, desc := Go.TypeDesc.func #[] #[28] false, size := 1, bytes := 8, zero := Go.Value.nilFunc }
def te59 : TE := { t := 59, desc := Go.TypeDesc.pointer 62, size := 1, bytes := 8, zero := Go.Value.pointer Option.none }
def te60 : TE := { t := 60, desc := Go.TypeDesc.func #[9, 26] #[28] false, size := 1, bytes := 8, zero := Go.Value.nilFunc }
def te63 : TE := { t := 63, desc := Go.TypeDesc.func #[28] #[28] false, size := 1, bytes := 8, zero := Go.Value.nilFunc }
def te64 : TE := { t := 64, desc := Go.TypeDesc.func #[31] #[28] false, size := 1, bytes := 8, zero := Go.Value.nilFunc }
def te65 : TE := { t := 65, desc := Go.TypeDesc.func #[4] #[3] false, size := 1, bytes := 8, zero := Go.Value.nilFunc }
def te66 : TE := { t := 66, desc := Go.TypeDesc.func #[3, 3] #[3] false, size := 1, bytes := 8, zero := Go.Value.nilFunc }
def te70 : TE := { t := 70, desc := Go.TypeDesc.func #[28] #[68, 4] false, size := 1, bytes := 8, zero := Go.Value.nilFunc }
def te71 : TE := { t := 71, desc := Go.TypeDesc.func #[68, 68] #[3] false, size := 1, bytes := 8, zero := Go.Value.nilFunc }
def te72 : TE := { t := 72, desc := Go.TypeDesc.func #[28, 3] #[4] false, size := 1, bytes := 8, zero := Go.Value.nilFunc }
def te73 : TE := { t := 73, desc := Go.TypeDesc.func #[31, 4] #[39] false, size := 1, bytes := 8, zero := Go.Value.nilFunc }
def te74 : TE := { t := 74, desc := Go.TypeDesc.func #[3] #[3, 4] false, size := 1, bytes := 8, zero := Go.Value.nilFunc }
def te75 : TE := { t := 75, desc := Go.TypeDesc.func #[3] #[28] false, size := 1, bytes := 8, zero := Go.Value.nilFunc }
def te76 : TE := { t := 76, desc := Go.TypeDesc.func #[68] #[28] false, size := 1, bytes := 8, zero := Go.Value.nilFunc }
def te77 : TE := { t := 77, desc := Go.TypeDesc.func #[9] #[28] false, size := 1, bytes := 8, zero := Go.Value.nilFunc }
def te78 : TE := { t := 78, desc := Go.TypeDesc.func #[28] #[9] false, size := 1, bytes := 8, zero := Go.Value.nilFunc }
def te83 : TE := { t := 83, desc := Go.TypeDesc.func #[28] #[81, 4] false, size := 1, bytes := 8, zero := Go.Value.nilFunc }
def te84 : TE := { t := 84, desc := Go.TypeDesc.func #[9, 81] #[28] false, size := 1, bytes := 8, zero := Go.Value.nilFunc }
def te89 : TE := { t := 89, desc := Go.TypeDesc.func #[28] #[87, 4] false, size := 1, bytes := 8, zero := Go.Value.nilFunc }
def te90 : TE := { t := 90, desc := Go.TypeDesc.func #[26] #[28] false, size := 1, bytes := 8, zero := Go.Value.nilFunc }
def te91 : TE := { t := 91, desc := Go.TypeDesc.func #[31, 26] #[28] false, size := 1, bytes := 8, zero := Go.Value.nilFunc }
def te92 : TE := { t := 92, desc := Go.TypeDesc.func #[25, 9, 26] #[28] false, size := 1, bytes := 8, zero := Go.Value.nilFunc }
def te93 : TE := { t := 93, desc := Go.TypeDesc.func #[25, 31, 28] #[28] false, size := 1, bytes := 8, zero := Go.Value.nilFunc }
def te94 : TE := { t := 94, desc := Go.TypeDesc.func #[3, 28, 28] #[28] false, size := 1, bytes := 8, zero := Go.Value.nilFunc }
def te95 : TE := { t := 95, desc := Go.TypeDesc.func #[9, 9] #[3] false, size := 1, bytes := 8, zero := Go.Value.nilFunc }
def te96 : TE := { t := 96, desc := Go.TypeDesc.func #[26, 26] #[3] false, size := 1, bytes := 8, zero := Go.Value.nilFunc }
def te97 : TE := { t := 97, desc := Go.TypeDesc.func #[68] #[4] false, size := 1, bytes := 8, zero := Go.Value.nilFunc }
def te100 : TE := { t := 100, desc := Go.TypeDesc.func #[3, 98, 3, 98] #[3, 98] false, size := 1, bytes := 8, zero := Go.Value.nilFunc }
def te101 : TE := { t := 101, desc := Go.TypeDesc.func #[3, 3] #[98] false, size := 1, bytes := 8, zero := Go.Value.nilFunc }
def te102 : TE := { t := 102, desc := Go.TypeDesc.func #[28, 4, 4, 4, 4] #[4] false, size := 1, bytes := 8, zero := Go.Value.nilFunc }
def te103 : TE := { t := 103, desc := Go.TypeDesc.func #[9] #[4] false, size := 1, bytes := 8, zero := Go.Value.nilFunc }
def te104 : TE := { t := 104, desc := Go.TypeDesc.func #[26] #[4] false, size := 1, bytes := 8, zero := Go.Value.nilFunc }
def te105 : TE := { t := 105, desc := Go.TypeDesc.func #[26, 3] #[4] false, size := 1, bytes := 8, zero := Go.Value.nilFunc }
def te106 : TE := { t := 106, desc := Go.TypeDesc.func #[31] #[4] false, size := 1, bytes := 8, zero := Go.Value.nilFunc }
def te107 : TE := { t := 107, desc := Go.TypeDesc.func #[4] #[9] false, size := 1, bytes := 8, zero := Go.Value.nilFunc }
def te108 : TE := { t := 108, desc := Go.TypeDesc.func #[3] #[9] false, size := 1, bytes := 8, zero := Go.Value.nilFunc }
def te109 : TE := { t := 109, desc := Go.TypeDesc.func #[68] #[9] false, size := 1, bytes := 8, zero := Go.Value.nilFunc }
def te110 : TE := { t := 110, desc := Go.TypeDesc.func #[9, 9, 9] #[9] false, size := 1, bytes := 8, zero := Go.Value.nilFunc }
def te111 : TE := { t := 111, desc := Go.TypeDesc.func #[26, 9] #[9] false, size := 1, bytes := 8, zero := Go.Value.nilFunc }
def te112 : TE := { t := 112, desc := Go.TypeDesc.func #[25, 3] #[81, 4] false, size := 1, bytes := 8, zero := Go.Value.nilFunc }
def te113 : TE := { t := 113, desc := Go.TypeDesc.func #[25, 3] #[87, 4] false, size := 1, bytes := 8, zero := Go.Value.nilFunc }
def te114 : TE := { t := 114, desc := Go.TypeDesc.func #[26] #[26] false, size := 1, bytes := 8, zero := Go.Value.nilFunc }
def te115 : TE := { t := 115, desc := Go.TypeDesc.func #[28, 9] #[28] false, size := 1, bytes := 8, zero := Go.Value.nilFunc }
def te116 : TE := { t := 116, desc := Go.TypeDesc.func #[4] #[28] false, size := 1, bytes := 8, zero := Go.Value.nilFunc }
def te117 : TE := { t := 117, desc := Go.TypeDesc.func #[87, 9] #[4] false, size := 1, bytes := 8, zero := Go.Value.nilFunc }
def te118 : TE := { t := 118, desc := Go.TypeDesc.func #[3, 28, 28] #[3] false, size := 1, bytes := 8, zero := Go.Value.nilFunc }
def te119 : TE := { t := 119, desc := Go.TypeDesc.func #[68, 4] #[28] false, size := 1, bytes := 8, zero := Go.Value.nilFunc }
def te120 : TE := { t := 120, desc := Go.TypeDesc.func #[25, 9, 28] #[28] false, size := 1, bytes := 8, zero := Go.Value.nilFunc }
def te121 : TE := { t := 121, desc := Go.TypeDesc.func #[25, 28] #[28] false, size := 1, bytes := 8, zero := Go.Value.nilFunc }
def te122 : TE := { t := 122, desc := Go.TypeDesc.func #[9, 28] #[28] false, size := 1, bytes := 8, zero := Go.Value.nilFunc }
def te123 : TE := { t := 123, desc := Go.TypeDesc.func #[79, 9] #[28] false, size := 1, bytes := 8, zero := Go.Value.nilFunc }
def te124 : TE := { t := 124, desc := Go.TypeDesc.func #[25, 28] #[79] false, size := 1, bytes := 8, zero := Go.Value.nilFunc }
def te125 : TE := { t := 125, desc := Go.TypeDesc.func #[68, 68] #[68, 4] false, size := 1, bytes := 8, zero := Go.Value.nilFunc }
def te126 : TE := { t := 126, desc := Go.TypeDesc.func #[28, 28] #[28] false, size := 1, bytes := 8, zero := Go.Value.nilFunc }
def te127 : TE := { t := 127, desc := Go.TypeDesc.func #[98, 98] #[98] false, size := 1, bytes := 8, zero := Go.Value.nilFunc }
def te128 : TE := { t := 128, desc := Go.TypeDesc.func #[98, 98] #[3] false, size := 1, bytes := 8, zero := Go.Value.nilFunc }
def te130 : TE := { t := 130, desc := Go.TypeDesc.func #[9] #[3, 3] false, size := 1, bytes := 8, zero := Go.Value.nilFunc }
def te131 : TE := { t := 131, desc := Go.TypeDesc.func #[9, 9, 9, 3] #[9] false, size := 1, bytes := 8, zero := Go.Value.nilFunc }
def te132 : TE := { t := 132, desc := Go.TypeDesc.func #[85, 9] #[9] false, size := 1, bytes := 8, zero := Go.Value.nilFunc }
def te133 : TE := { t := 133, desc := Go.TypeDesc.func #[79] #[79] false, size := 1, bytes := 8, zero := Go.Value.nilFunc }
def te134 : TE := { t := 134, desc := Go.TypeDesc.func #[85] #[85] false, size := 1, bytes := 8, zero := Go.Value.nilFunc }
def te135 : TE := { t := 135, desc := Go.TypeDesc.func #[85, 9] #[4] false, size := 1, bytes := 8, zero := Go.Value.nilFunc }
def te136 : TE := { t := 136, desc := Go.TypeDesc.func #[9, 137] #[3] false, size := 1, bytes := 8, zero := Go.Value.nilFunc }
def te137 : TE := { t := 137, desc := Go.TypeDesc.func #[21] #[4] false, size := 1, bytes := 8, zero := Go.Value.nilFunc }
def te138 : TE := { t := 138, desc := Go.TypeDesc.func #[9] #[9] false, size := 1, bytes := 8, zero := Go.Value.nilFunc }
def te141 : TE := { t := 141, desc := Go.TypeDesc.func #[2, 3] #[9] false, size := 1, bytes := 8, zero := Go.Value.nilFunc }
def te142 : TE := { t := 142, desc := Go.TypeDesc.pointer 145, size := 1, bytes := 8, zero := Go.Value.pointer Option.none }
def te146 : TE := { t := 146, desc := Go.TypeDesc.func #[3] #[] false, size := 1, bytes := 8, zero := Go.Value.nilFunc }
def te150 : TE := { t := 150, desc := Go.TypeDesc.func #[9] #[3, 148] false, size := 1, bytes := 8, zero := Go.Value.nilFunc }
def te152 : TE := { t := 152, desc := Go.TypeDesc.func #[9] #[21, 3] false, size := 1, bytes := 8, zero := Go.Value.nilFunc }
def te153 : TE := { t := 153, desc := Go.TypeDesc.func #[] #[9] false, size := 1, bytes := 8, zero := Go.Value.nilFunc }
def te154 : TE := { t := 154, desc := Go.TypeDesc.func #[85, 9] #[3] false, size := 1, bytes := 8, zero := Go.Value.nilFunc }
def te155 : TE := { t := 155, desc := Go.TypeDesc.int Go.IntKind.u64, size := 1, bytes := 8, zero := Go.Value.int Go.IntKind.u64 0 }
def te158 : TE := { t := 158, desc := Go.TypeDesc.func #[3, 3] #[157] false, size := 1, bytes := 8, zero := Go.Value.nilFunc }
def te159 : TE := { t := 159, desc := Go.TypeDesc.func #[157] #[157] false, size := 1, bytes := 8, zero := Go.Value.nilFunc }
def te160 : TE := { t := 160, desc := Go.TypeDesc.func #[] #[3] false, size := 1, bytes := 8, zero := Go.Value.nilFunc }
def te161 : TE := { t := 161, desc := Go.TypeDesc.func #[155] #[155] false, size := 1, bytes := 8, zero := Go.Value.nilFunc }
def te162 : TE := { t := 162, desc := Go.TypeDesc.func #[155] #[3, 4] false, size := 1, bytes := 8, zero := Go.Value.nilFunc }
def te163 : TE := { t := 163, desc := Go.TypeDesc.func #[9, 137, 4] #[3] false, size := 1, bytes := 8, zero := Go.Value.nilFunc }
def te165 : TE := { t := 165, desc := Go.TypeDesc.func #[98, 3] #[98, 3] false, size := 1, bytes := 8, zero := Go.Value.nilFunc }
def te166 : TE := { t := 166, desc := Go.TypeDesc.func #[98] #[3, 4] false, size := 1, bytes := 8, zero := Go.Value.nilFunc }
def te167 : TE := { t := 167, desc := Go.TypeDesc.func #[5] #[4] false, size := 1, bytes := 8, zero := Go.Value.nilFunc }
def te168 : TE := { t := 168, desc := Go.TypeDesc.func #[] #[85] false, size := 1, bytes := 8, zero := Go.Value.nilFunc }
def te169 : TE := { t := 169, desc := Go.TypeDesc.func #[9, 9] #[4] false, size := 1, bytes := 8, zero := Go.Value.nilFunc }
def te171 : TE := { t := 171, desc := Go.TypeDesc.func #[155] #[3] false, size := 1, bytes := 8, zero := Go.Value.nilFunc }
def te172 : TE := { t := 172, desc := Go.TypeDesc.func #[143, 155] #[] false, size := 1, bytes := 8, zero := Go.Value.nilFunc }
def te174 : TE := { t := 174, desc := Go.TypeDesc.func #[143, 155, 3, 4, 4] #[143, 9] false, size := 1, bytes := 8, zero := Go.Value.nilFunc }
def te175 : TE := { t := 175, desc := Go.TypeDesc.func #[9] #[3] false, size := 1, bytes := 8, zero := Go.Value.nilFunc }
def te176 : TE := { t := 176, desc := Go.TypeDesc.func #[9, 5] #[3] false, size := 1, bytes := 8, zero := Go.Value.nilFunc }
def te177 : TE := { t := 177, desc := Go.TypeDesc.pointer 5, size := 1, bytes := 8, zero := Go.Value.pointer Option.none }
def te179 : TE := { t := 179, desc := Go.TypeDesc.func #[155, 155] #[155, 155] false, size := 1, bytes := 8, zero := Go.Value.nilFunc }
def te180 : TE := { t := 180, desc := Go.TypeDesc.func #[3] #[155] false, size := 1, bytes := 8, zero := Go.Value.nilFunc }
def te181 : TE := { t := 181, desc := Go.TypeDesc.func #[155, 155, 155] #[155, 155] false, size := 1, bytes := 8, zero := Go.Value.nilFunc }
def te182 : TE := { t := 182, desc := Go.TypeDesc.func #[157] #[4] false, size := 1, bytes := 8, zero := Go.Value.nilFunc }
def te184 : TE := { t := 184, desc := Go.TypeDesc.int Go.IntKind.u32, size := 1, bytes := 4, zero := Go.Value.int Go.IntKind.u32 0 }
def te186 : TE := { t := 186, desc := Go.TypeDesc.int Go.IntKind.u64, size := 1, bytes := 8, zero := Go.Value.int Go.IntKind.u64 0 }
def te187 : TE := { t := 187, desc := Go.TypeDesc.func #[186] #[3] false, size := 1, bytes := 8, zero := Go.Value.nilFunc }
def te189 : TE := { t := 189, desc := Go.TypeDesc.func #[188] #[188] false, size := 1, bytes := 8, zero := Go.Value.nilFunc }
def te190 : TE := { t := 190, desc := Go.TypeDesc.func #[3] #[143] false, size := 1, bytes := 8, zero := Go.Value.nilFunc }
def te195 : TE := { t := 195, desc := Go.TypeDesc.func #[184] #[3] false, size := 1, bytes := 8, zero := Go.Value.nilFunc }
def te197 : TE := { t := 197, desc := Go.TypeDesc.func #[9] #[184, 184] false, size := 1, bytes := 8, zero := Go.Value.nilFunc }
def te200 : TE := { t := 200, desc := Go.TypeDesc.pointer 214, size := 1, bytes := 8, zero := Go.Value.pointer Option.none }
def te208 : TE := { t := 208, desc := Go.TypeDesc.func #[188, 188] #[4] false, size := 1, bytes := 8, zero := Go.Value.nilFunc }
theorem ok3 : te3.ok Tryz.prog := ⟨Tryz.underlying3, Tryz.t3, Tryz.type3, rfl, rfl, rfl⟩
theorem ok4 : te4.ok Tryz.prog := ⟨Tryz.underlying4, Tryz.t4, Tryz.type4, rfl, rfl, rfl⟩
theorem ok9 : te9.ok Tryz.prog := ⟨Tryz.underlying9, Tryz.t9, Tryz.type9, rfl, rfl, rfl⟩
theorem ok24 : te24.ok Tryz.prog := ⟨Tryz.underlying24, Tryz.t24, Tryz.type24, rfl, rfl, rfl⟩
theorem ok25 : te25.ok Tryz.prog := ⟨Tryz.underlying25, Tryz.t25, Tryz.type25, rfl, rfl, rfl⟩
theorem ok27 : te27.ok Tryz.prog := ⟨Tryz.underlying27, Tryz.t27, Tryz.type27, rfl, rfl, rfl⟩
theorem ok28 : te28.ok Tryz.prog := ⟨Tryz.underlying28, Tryz.t28, Tryz.type28, rfl, rfl, rfl⟩
theorem ok30 : te30.ok Tryz.prog := ⟨Tryz.underlying30, Tryz.t30, Tryz.type30, rfl, rfl, rfl⟩
theorem ok31 : te31.ok Tryz.prog := ⟨Tryz.underlying31, Tryz.t31, Tryz.type31, rfl, rfl, rfl⟩
theorem ok46 : te46.ok Tryz.prog := ⟨Tryz.underlying46, Tryz.t46, Tryz.type46, rfl, rfl, rfl⟩
theorem ok47 : te47.ok Tryz.prog := ⟨Tryz.underlying47, Tryz.t47, Tryz.type47, rfl, rfl, rfl⟩
theorem ok61 : te61.ok Tryz.prog := ⟨Tryz.underlying61, Tryz.t61, Tryz.type61, rfl, rfl, rfl⟩
theorem ok62 : te62.ok Tryz.prog := ⟨Tryz.underlying62, Tryz.t62, Tryz.type62, rfl, rfl, rfl⟩
theorem ok67 : te67.ok Tryz.prog := ⟨Tryz.underlying67, Tryz.t67, Tryz.type67, rfl, rfl, rfl⟩
theorem ok68 : te68.ok Tryz.prog := ⟨Tryz.underlying68, Tryz.t68, Tryz.type68, rfl, rfl, rfl⟩
theorem ok80 : te80.ok Tryz.prog := ⟨Tryz.underlying80, Tryz.t80, Tryz.type80, rfl, rfl, rfl⟩
theorem ok81 : te81.ok Tryz.prog := ⟨Tryz.underlying81, Tryz.t81, Tryz.type81, rfl, rfl, rfl⟩
theorem ok86 : te86.ok Tryz.prog := ⟨Tryz.underlying86, Tryz.t86, Tryz.type86, rfl, rfl, rfl⟩
theorem ok87 : te87.ok Tryz.prog := ⟨Tryz.underlying87, Tryz.t87, Tryz.type87, rfl, rfl, rfl⟩
theorem ok139 : te139.ok Tryz.prog := ⟨Tryz.underlying139, Tryz.t139, Tryz.type139, rfl, rfl, rfl⟩
theorem ok140 : te140.ok Tryz.prog := ⟨Tryz.underlying140, Tryz.t140, Tryz.type140, rfl, rfl, rfl⟩
theorem ok144 : te144.ok Tryz.prog := ⟨Tryz.underlying144, Tryz.t144, Tryz.type144, rfl, rfl, rfl⟩
theorem ok145 : te145.ok Tryz.prog := ⟨Tryz.underlying145, Tryz.t145, Tryz.type145, rfl, rfl, rfl⟩
theorem ok156 : te156.ok Tryz.prog := ⟨Tryz.underlying156, Tryz.t156, Tryz.type156, rfl, rfl, rfl⟩
theorem ok157 : te157.ok Tryz.prog := ⟨Tryz.underlying157, Tryz.t157, Tryz.type157, rfl, rfl, rfl⟩
theorem ok192 : te192.ok Tryz.prog := ⟨Tryz.underlying192, Tryz.t192, Tryz.type192, rfl, rfl, rfl⟩
theorem ok193 : te193.ok Tryz.prog := ⟨Tryz.underlying193, Tryz.t193, Tryz.type193, rfl, rfl, rfl⟩
theorem ok213 : te213.ok Tryz.prog := ⟨Tryz.underlying213, Tryz.t213, Tryz.type213, rfl, rfl, rfl⟩
theorem ok214 : te214.ok Tryz.prog := ⟨Tryz.underlying214, Tryz.t214, Tryz.type214, rfl, rfl, rfl⟩
theorem ok22 : te22.ok Tryz.prog := ⟨Tryz.underlying22, Tryz.t22, Tryz.type22, rfl, rfl, rfl⟩
theorem ok23 : te23.ok Tryz.prog := ⟨Tryz.underlying23, Tryz.t23, Tryz.type23, rfl, rfl, rfl⟩
theorem ok26 : te26.ok Tryz.prog := ⟨Tryz.underlying26, Tryz.t26, Tryz.type26, rfl, rfl, rfl⟩
theorem ok29 : te29.ok Tryz.prog := ⟨Tryz.underlying29, Tryz.t29, Tryz.type29, rfl, rfl, rfl⟩
theorem ok32 : te32.ok Tryz.prog := ⟨Tryz.underlying32, Tryz.t32, Tryz.type32, rfl, rfl, rfl⟩
theorem ok79 : te79.ok Tryz.prog := ⟨Tryz.underlying79, Tryz.t79, Tryz.type79, rfl, rfl, rfl⟩
theorem ok85 : te85.ok Tryz.prog := ⟨Tryz.underlying85, Tryz.t85, Tryz.type85, rfl, rfl, rfl⟩
theorem ok98 : te98.ok Tryz.prog := ⟨Tryz.underlying98, Tryz.t98, Tryz.type98, rfl, rfl, rfl⟩
theorem ok143 : te143.ok Tryz.prog := ⟨Tryz.underlying143, Tryz.t143, Tryz.type143, rfl, rfl, rfl⟩
theorem ok1 : te1.ok Tryz.prog := ⟨Tryz.underlying1, Tryz.t1, Tryz.type1, rfl, rfl, rfl⟩
theorem ok2 : te2.ok Tryz.prog := ⟨Tryz.underlying2, Tryz.t2, Tryz.type2, rfl, rfl, rfl⟩
theorem ok5 : te5.ok Tryz.prog := ⟨Tryz.underlying5, Tryz.t5, Tryz.type5, rfl, rfl, rfl⟩
theorem ok12 : te12.ok Tryz.prog := ⟨Tryz.underlying12, Tryz.t12, Tryz.type12, rfl, rfl, rfl⟩
theorem ok21 : te21.ok Tryz.prog := ⟨Tryz.underlying21, Tryz.t21, Tryz.type21, rfl, rfl, rfl⟩
theorem ok33 : te33.ok Tryz.prog := ⟨Tryz.underlying33, Tryz.t33, Tryz.type33, rfl, rfl, rfl⟩
theorem ok34 : te34.ok Tryz.prog := ⟨Tryz.underlying34, Tryz.t34, Tryz.type34, rfl, rfl, rfl⟩
theorem ok35 : te35.ok Tryz.prog := ⟨Tryz.underlying35, Tryz.t35, Tryz.type35, rfl, rfl, rfl⟩
theorem ok36 : te36.ok Tryz.prog := ⟨Tryz.underlying36, Tryz.t36, Tryz.type36, rfl, rfl, rfl⟩
theorem ok37 : te37.ok Tryz.prog := ⟨Tryz.underlying37, Tryz.t37, Tryz.type37, rfl, rfl, rfl⟩
theorem ok38 : te38.ok Tryz.prog := ⟨Tryz.underlying38, Tryz.t38, Tryz.type38, rfl, rfl, rfl⟩
theorem ok39 : te39.ok Tryz.prog := ⟨Tryz.underlying39, Tryz.t39, Tryz.type39, rfl, rfl, rfl⟩
theorem ok40 : te40.ok Tryz.prog := ⟨Tryz.underlying40, Tryz.t40, Tryz.type40, rfl, rfl, rfl⟩
theorem ok41 : te41.ok Tryz.prog := ⟨Tryz.underlying41, Tryz.t41, Tryz.type41, rfl, rfl, rfl⟩
theorem ok42 : te42.ok Tryz.prog := ⟨Tryz.underlying42, Tryz.t42, Tryz.type42, rfl, rfl, rfl⟩
theorem ok43 : te43.ok Tryz.prog := ⟨Tryz.underlying43, Tryz.t43, Tryz.type43, rfl, rfl, rfl⟩
theorem ok44 : te44.ok Tryz.prog := ⟨Tryz.underlying44, Tryz.t44, Tryz.type44, rfl, rfl, rfl⟩
theorem ok45 : te45.ok Tryz.prog := ⟨Tryz.underlying45, Tryz.t45, Tryz.type45, rfl, rfl, rfl⟩
theorem ok48 : te48.ok Tryz.prog := ⟨Tryz.underlying48, Tryz.t48, Tryz.type48, rfl, rfl, rfl⟩
theorem ok49 : te49.ok Tryz.prog := ⟨Tryz.underlying49, Tryz.t49, Tryz.type49, rfl, rfl, rfl⟩
theorem ok50 : te50.ok Tryz.prog := ⟨Tryz.underlying50, Tryz.t50, Tryz.type50, rfl, rfl, rfl⟩
theorem ok51 : te51.ok Tryz.prog := ⟨Tryz.underlying51, Tryz.t51, Tryz.type51, rfl, rfl, rfl⟩
theorem ok53 : te53.ok Tryz.prog := ⟨Tryz.underlying53, Tryz.t53, Tryz.type53, rfl, rfl, rfl⟩
theorem ok54 : te54.ok Tryz.prog := ⟨Tryz.underlying54, Tryz.t54, Tryz.type54, rfl, rfl, rfl⟩
theorem ok55 : te55.ok Tryz.prog := ⟨Tryz.underlying55, Tryz.t55, Tryz.type55, rfl, rfl, rfl⟩
theorem ok56 : te56.ok Tryz.prog := ⟨Tryz.underlying56, Tryz.t56, Tryz.type56, rfl, rfl, rfl⟩
theorem ok57 : te57.ok Tryz.prog := ⟨Tryz.underlying57, Tryz.t57, Tryz.type57, rfl, rfl, rfl⟩
theorem ok58 : te58.ok Tryz.prog := ⟨Tryz.underlying58, Tryz.t58, Tryz.type58, rfl, rfl, rfl⟩
theorem ok59 : te59.ok Tryz.prog := ⟨Tryz.underlying59, Tryz.t59, Tryz.type59, rfl, rfl, rfl⟩
theorem ok60 : te60.ok Tryz.prog := ⟨Tryz.underlying60, Tryz.t60, Tryz.type60, rfl, rfl, rfl⟩
theorem ok63 : te63.ok Tryz.prog := ⟨Tryz.underlying63, Tryz.t63, Tryz.type63, rfl, rfl, rfl⟩
theorem ok64 : te64.ok Tryz.prog := ⟨Tryz.underlying64, Tryz.t64, Tryz.type64, rfl, rfl, rfl⟩
theorem ok65 : te65.ok Tryz.prog := ⟨Tryz.underlying65, Tryz.t65, Tryz.type65, rfl, rfl, rfl⟩
theorem ok66 : te66.ok Tryz.prog := ⟨Tryz.underlying66, Tryz.t66, Tryz.type66, rfl, rfl, rfl⟩
theorem ok70 : te70.ok Tryz.prog := ⟨Tryz.underlying70, Tryz.t70, Tryz.type70, rfl, rfl, rfl⟩
theorem ok71 : te71.ok Tryz.prog := ⟨Tryz.underlying71, Tryz.t71, Tryz.type71, rfl, rfl, rfl⟩
theorem ok72 : te72.ok Tryz.prog := ⟨Tryz.underlying72, Tryz.t72, Tryz.type72, rfl, rfl, rfl⟩
theorem ok73 : te73.ok Tryz.prog := ⟨Tryz.underlying73, Tryz.t73, Tryz.type73, rfl, rfl, rfl⟩
theorem ok74 : te74.ok Tryz.prog := ⟨Tryz.underlying74, Tryz.t74, Tryz.type74, rfl, rfl, rfl⟩
theorem ok75 : te75.ok Tryz.prog := ⟨Tryz.underlying75, Tryz.t75, Tryz.type75, rfl, rfl, rfl⟩
theorem ok76 : te76.ok Tryz.prog := ⟨Tryz.underlying76, Tryz.t76, Tryz.type76, rfl, rfl, rfl⟩
theorem ok77 : te77.ok Tryz.prog := ⟨Tryz.underlying77, Tryz.t77, Tryz.type77, rfl, rfl, rfl⟩
theorem ok78 : te78.ok Tryz.prog := ⟨Tryz.underlying78, Tryz.t78, Tryz.type78, rfl, rfl, rfl⟩
theorem ok83 : te83.ok Tryz.prog := ⟨Tryz.underlying83, Tryz.t83, Tryz.type83, rfl, rfl, rfl⟩
theorem ok84 : te84.ok Tryz.prog := ⟨Tryz.underlying84, Tryz.t84, Tryz.type84, rfl, rfl, rfl⟩
theorem ok89 : te89.ok Tryz.prog := ⟨Tryz.underlying89, Tryz.t89, Tryz.type89, rfl, rfl, rfl⟩
theorem ok90 : te90.ok Tryz.prog := ⟨Tryz.underlying90, Tryz.t90, Tryz.type90, rfl, rfl, rfl⟩
theorem ok91 : te91.ok Tryz.prog := ⟨Tryz.underlying91, Tryz.t91, Tryz.type91, rfl, rfl, rfl⟩
theorem ok92 : te92.ok Tryz.prog := ⟨Tryz.underlying92, Tryz.t92, Tryz.type92, rfl, rfl, rfl⟩
theorem ok93 : te93.ok Tryz.prog := ⟨Tryz.underlying93, Tryz.t93, Tryz.type93, rfl, rfl, rfl⟩
theorem ok94 : te94.ok Tryz.prog := ⟨Tryz.underlying94, Tryz.t94, Tryz.type94, rfl, rfl, rfl⟩
theorem ok95 : te95.ok Tryz.prog := ⟨Tryz.underlying95, Tryz.t95, Tryz.type95, rfl, rfl, rfl⟩
theorem ok96 : te96.ok Tryz.prog := ⟨Tryz.underlying96, Tryz.t96, Tryz.type96, rfl, rfl, rfl⟩
theorem ok97 : te97.ok Tryz.prog := ⟨Tryz.underlying97, Tryz.t97, Tryz.type97, rfl, rfl, rfl⟩
theorem ok100 : te100.ok Tryz.prog := ⟨Tryz.underlying100, Tryz.t100, Tryz.type100, rfl, rfl, rfl⟩
theorem ok101 : te101.ok Tryz.prog := ⟨Tryz.underlying101, Tryz.t101, Tryz.type101, rfl, rfl, rfl⟩
theorem ok102 : te102.ok Tryz.prog := ⟨Tryz.underlying102, Tryz.t102, Tryz.type102, rfl, rfl, rfl⟩
theorem ok103 : te103.ok Tryz.prog := ⟨Tryz.underlying103, Tryz.t103, Tryz.type103, rfl, rfl, rfl⟩
theorem ok104 : te104.ok Tryz.prog := ⟨Tryz.underlying104, Tryz.t104, Tryz.type104, rfl, rfl, rfl⟩
theorem ok105 : te105.ok Tryz.prog := ⟨Tryz.underlying105, Tryz.t105, Tryz.type105, rfl, rfl, rfl⟩
theorem ok106 : te106.ok Tryz.prog := ⟨Tryz.underlying106, Tryz.t106, Tryz.type106, rfl, rfl, rfl⟩
theorem ok107 : te107.ok Tryz.prog := ⟨Tryz.underlying107, Tryz.t107, Tryz.type107, rfl, rfl, rfl⟩
theorem ok108 : te108.ok Tryz.prog := ⟨Tryz.underlying108, Tryz.t108, Tryz.type108, rfl, rfl, rfl⟩
theorem ok109 : te109.ok Tryz.prog := ⟨Tryz.underlying109, Tryz.t109, Tryz.type109, rfl, rfl, rfl⟩
theorem ok110 : te110.ok Tryz.prog := ⟨Tryz.underlying110, Tryz.t110, Tryz.type110, rfl, rfl, rfl⟩
theorem ok111 : te111.ok Tryz.prog := ⟨Tryz.underlying111, Tryz.t111, Tryz.type111, rfl, rfl, rfl⟩
theorem ok112 : te112.ok Tryz.prog := ⟨Tryz.underlying112, Tryz.t112, Tryz.type112, rfl, rfl, rfl⟩
theorem ok113 : te113.ok Tryz.prog := ⟨Tryz.underlying113, Tryz.t113, Tryz.type113, rfl, rfl, rfl⟩
theorem ok114 : te114.ok Tryz.prog := ⟨Tryz.underlying114, Tryz.t114, Tryz.type114, rfl, rfl, rfl⟩
theorem ok115 : te115.ok Tryz.prog := ⟨Tryz.underlying115, Tryz.t115, Tryz.type115, rfl, rfl, rfl⟩
theorem ok116 : te116.ok Tryz.prog := ⟨Tryz.underlying116, Tryz.t116, Tryz.type116, rfl, rfl, rfl⟩
theorem ok117 : te117.ok Tryz.prog := ⟨Tryz.underlying117, Tryz.t117, Tryz.type117, rfl, rfl, rfl⟩
theorem ok118 : te118.ok Tryz.prog := ⟨Tryz.underlying118, Tryz.t118, Tryz.type118, rfl, rfl, rfl⟩
theorem ok119 : te119.ok Tryz.prog := ⟨Tryz.underlying119, Tryz.t119, Tryz.type119, rfl, rfl, rfl⟩
theorem ok120 : te120.ok Tryz.prog := ⟨Tryz.underlying120, Tryz.t120, Tryz.type120, rfl, rfl, rfl⟩
theorem ok121 : te121.ok Tryz.prog := ⟨Tryz.underlying121, Tryz.t121, Tryz.type121, rfl, rfl, rfl⟩
theorem ok122 : te122.ok Tryz.prog := ⟨Tryz.underlying122, Tryz.t122, Tryz.type122, rfl, rfl, rfl⟩
theorem ok123 : te123.ok Tryz.prog := ⟨Tryz.underlying123, Tryz.t123, Tryz.type123, rfl, rfl, rfl⟩
theorem ok124 : te124.ok Tryz.prog := ⟨Tryz.underlying124, Tryz.t124, Tryz.type124, rfl, rfl, rfl⟩
theorem ok125 : te125.ok Tryz.prog := ⟨Tryz.underlying125, Tryz.t125, Tryz.type125, rfl, rfl, rfl⟩
theorem ok126 : te126.ok Tryz.prog := ⟨Tryz.underlying126, Tryz.t126, Tryz.type126, rfl, rfl, rfl⟩
theorem ok127 : te127.ok Tryz.prog := ⟨Tryz.underlying127, Tryz.t127, Tryz.type127, rfl, rfl, rfl⟩
theorem ok128 : te128.ok Tryz.prog := ⟨Tryz.underlying128, Tryz.t128, Tryz.type128, rfl, rfl, rfl⟩
theorem ok130 : te130.ok Tryz.prog := ⟨Tryz.underlying130, Tryz.t130, Tryz.type130, rfl, rfl, rfl⟩
theorem ok131 : te131.ok Tryz.prog := ⟨Tryz.underlying131, Tryz.t131, Tryz.type131, rfl, rfl, rfl⟩
theorem ok132 : te132.ok Tryz.prog := ⟨Tryz.underlying132, Tryz.t132, Tryz.type132, rfl, rfl, rfl⟩
theorem ok133 : te133.ok Tryz.prog := ⟨Tryz.underlying133, Tryz.t133, Tryz.type133, rfl, rfl, rfl⟩
theorem ok134 : te134.ok Tryz.prog := ⟨Tryz.underlying134, Tryz.t134, Tryz.type134, rfl, rfl, rfl⟩
theorem ok135 : te135.ok Tryz.prog := ⟨Tryz.underlying135, Tryz.t135, Tryz.type135, rfl, rfl, rfl⟩
theorem ok136 : te136.ok Tryz.prog := ⟨Tryz.underlying136, Tryz.t136, Tryz.type136, rfl, rfl, rfl⟩
theorem ok137 : te137.ok Tryz.prog := ⟨Tryz.underlying137, Tryz.t137, Tryz.type137, rfl, rfl, rfl⟩
theorem ok138 : te138.ok Tryz.prog := ⟨Tryz.underlying138, Tryz.t138, Tryz.type138, rfl, rfl, rfl⟩
theorem ok141 : te141.ok Tryz.prog := ⟨Tryz.underlying141, Tryz.t141, Tryz.type141, rfl, rfl, rfl⟩
theorem ok142 : te142.ok Tryz.prog := ⟨Tryz.underlying142, Tryz.t142, Tryz.type142, rfl, rfl, rfl⟩
theorem ok146 : te146.ok Tryz.prog := ⟨Tryz.underlying146, Tryz.t146, Tryz.type146, rfl, rfl, rfl⟩
theorem ok150 : te150.ok Tryz.prog := ⟨Tryz.underlying150, Tryz.t150, Tryz.type150, rfl, rfl, rfl⟩
theorem ok152 : te152.ok Tryz.prog := ⟨Tryz.underlying152, Tryz.t152, Tryz.type152, rfl, rfl, rfl⟩
theorem ok153 : te153.ok Tryz.prog := ⟨Tryz.underlying153, Tryz.t153, Tryz.type153, rfl, rfl, rfl⟩
theorem ok154 : te154.ok Tryz.prog := ⟨Tryz.underlying154, Tryz.t154, Tryz.type154, rfl, rfl, rfl⟩
theorem ok155 : te155.ok Tryz.prog := ⟨Tryz.underlying155, Tryz.t155, Tryz.type155, rfl, rfl, rfl⟩
theorem ok158 : te158.ok Tryz.prog := ⟨Tryz.underlying158, Tryz.t158, Tryz.type158, rfl, rfl, rfl⟩
theorem ok159 : te159.ok Tryz.prog := ⟨Tryz.underlying159, Tryz.t159, Tryz.type159, rfl, rfl, rfl⟩
theorem ok160 : te160.ok Tryz.prog := ⟨Tryz.underlying160, Tryz.t160, Tryz.type160, rfl, rfl, rfl⟩
theorem ok161 : te161.ok Tryz.prog := ⟨Tryz.underlying161, Tryz.t161, Tryz.type161, rfl, rfl, rfl⟩
theorem ok162 : te162.ok Tryz.prog := ⟨Tryz.underlying162, Tryz.t162, Tryz.type162, rfl, rfl, rfl⟩
theorem ok163 : te163.ok Tryz.prog := ⟨Tryz.underlying163, Tryz.t163, Tryz.type163, rfl, rfl, rfl⟩
theorem ok165 : te165.ok Tryz.prog := ⟨Tryz.underlying165, Tryz.t165, Tryz.type165, rfl, rfl, rfl⟩
theorem ok166 : te166.ok Tryz.prog := ⟨Tryz.underlying166, Tryz.t166, Tryz.type166, rfl, rfl, rfl⟩
theorem ok167 : te167.ok Tryz.prog := ⟨Tryz.underlying167, Tryz.t167, Tryz.type167, rfl, rfl, rfl⟩
theorem ok168 : te168.ok Tryz.prog := ⟨Tryz.underlying168, Tryz.t168, Tryz.type168, rfl, rfl, rfl⟩
theorem ok169 : te169.ok Tryz.prog := ⟨Tryz.underlying169, Tryz.t169, Tryz.type169, rfl, rfl, rfl⟩
theorem ok171 : te171.ok Tryz.prog := ⟨Tryz.underlying171, Tryz.t171, Tryz.type171, rfl, rfl, rfl⟩
theorem ok172 : te172.ok Tryz.prog := ⟨Tryz.underlying172, Tryz.t172, Tryz.type172, rfl, rfl, rfl⟩
theorem ok174 : te174.ok Tryz.prog := ⟨Tryz.underlying174, Tryz.t174, Tryz.type174, rfl, rfl, rfl⟩
theorem ok175 : te175.ok Tryz.prog := ⟨Tryz.underlying175, Tryz.t175, Tryz.type175, rfl, rfl, rfl⟩
theorem ok176 : te176.ok Tryz.prog := ⟨Tryz.underlying176, Tryz.t176, Tryz.type176, rfl, rfl, rfl⟩
theorem ok177 : te177.ok Tryz.prog := ⟨Tryz.underlying177, Tryz.t177, Tryz.type177, rfl, rfl, rfl⟩
theorem ok179 : te179.ok Tryz.prog := ⟨Tryz.underlying179, Tryz.t179, Tryz.type179, rfl, rfl, rfl⟩
theorem ok180 : te180.ok Tryz.prog := ⟨Tryz.underlying180, Tryz.t180, Tryz.type180, rfl, rfl, rfl⟩
theorem ok181 : te181.ok Tryz.prog := ⟨Tryz.underlying181, Tryz.t181, Tryz.type181, rfl, rfl, rfl⟩
theorem ok182 : te182.ok Tryz.prog := ⟨Tryz.underlying182, Tryz.t182, Tryz.type182, rfl, rfl, rfl⟩
theorem ok184 : te184.ok Tryz.prog := ⟨Tryz.underlying184, Tryz.t184, Tryz.type184, rfl, rfl, rfl⟩
theorem ok186 : te186.ok Tryz.prog := ⟨Tryz.underlying186, Tryz.t186, Tryz.type186, rfl, rfl, rfl⟩
theorem ok187 : te187.ok Tryz.prog := ⟨Tryz.underlying187, Tryz.t187, Tryz.type187, rfl, rfl, rfl⟩
theorem ok189 : te189.ok Tryz.prog := ⟨Tryz.underlying189, Tryz.t189, Tryz.type189, rfl, rfl, rfl⟩
theorem ok190 : te190.ok Tryz.prog := ⟨Tryz.underlying190, Tryz.t190, Tryz.type190, rfl, rfl, rfl⟩
theorem ok195 : te195.ok Tryz.prog := ⟨Tryz.underlying195, Tryz.t195, Tryz.type195, rfl, rfl, rfl⟩
theorem ok197 : te197.ok Tryz.prog := ⟨Tryz.underlying197, Tryz.t197, Tryz.type197, rfl, rfl, rfl⟩
theorem ok200 : te200.ok Tryz.prog := ⟨Tryz.underlying200, Tryz.t200, Tryz.type200, rfl, rfl, rfl⟩
theorem ok208 : te208.ok Tryz.prog := ⟨Tryz.underlying208, Tryz.t208, Tryz.type208, rfl, rfl, rfl⟩
def seatT : List TE := [te3, te4, te9, te24, te25, te27, te28, te30, te31, te46, te47, te61, te62, te67, te68, te80, te81, te86, te87, te139, te140, te144, te145, te156, te157, te192, te193, te213, te214, te22, te23, te26, te29, te32, te79, te85, te98, te143, te1, te2, te5, te12, te21, te33, te34, te35, te36, te37, te38, te39, te40, te41, te42, te43, te44, te45, te48, te49, te50, te51, te53, te54, te55, te56, te57, te58, te59, te60, te63, te64, te65, te66, te70, te71, te72, te73, te74, te75, te76, te77, te78, te83, te84, te89, te90, te91, te92, te93, te94, te95, te96, te97, te100, te101, te102, te103, te104, te105, te106, te107, te108, te109, te110, te111, te112, te113, te114, te115, te116, te117, te118, te119, te120, te121, te122, te123, te124, te125, te126, te127, te128, te130, te131, te132, te133, te134, te135, te136, te137, te138, te141, te142, te146, te150, te152, te153, te154, te155, te158, te159, te160, te161, te162, te163, te165, te166, te167, te168, te169, te171, te172, te174, te175, te176, te177, te179, te180, te181, te182, te184, te186, te187, te189, te190, te195, te197, te200, te208]
theorem seatT_ok : ∀ e ∈ seatT, e.ok Tryz.prog := by
  unfold seatT
  refine List.forall_mem_cons.2 ⟨ok3, ?_⟩
  refine List.forall_mem_cons.2 ⟨ok4, ?_⟩
  refine List.forall_mem_cons.2 ⟨ok9, ?_⟩
  refine List.forall_mem_cons.2 ⟨ok24, ?_⟩
  refine List.forall_mem_cons.2 ⟨ok25, ?_⟩
  refine List.forall_mem_cons.2 ⟨ok27, ?_⟩
  refine List.forall_mem_cons.2 ⟨ok28, ?_⟩
  refine List.forall_mem_cons.2 ⟨ok30, ?_⟩
  refine List.forall_mem_cons.2 ⟨ok31, ?_⟩
  refine List.forall_mem_cons.2 ⟨ok46, ?_⟩
  refine List.forall_mem_cons.2 ⟨ok47, ?_⟩
  refine List.forall_mem_cons.2 ⟨ok61, ?_⟩
  refine List.forall_mem_cons.2 ⟨ok62, ?_⟩
  refine List.forall_mem_cons.2 ⟨ok67, ?_⟩
  refine List.forall_mem_cons.2 ⟨ok68, ?_⟩
  refine List.forall_mem_cons.2 ⟨ok80, ?_⟩
  refine List.forall_mem_cons.2 ⟨ok81, ?_⟩
  refine List.forall_mem_cons.2 ⟨ok86, ?_⟩
  refine List.forall_mem_cons.2 ⟨ok87, ?_⟩
  refine List.forall_mem_cons.2 ⟨ok139, ?_⟩
  refine List.forall_mem_cons.2 ⟨ok140, ?_⟩
  refine List.forall_mem_cons.2 ⟨ok144, ?_⟩
  refine List.forall_mem_cons.2 ⟨ok145, ?_⟩
  refine List.forall_mem_cons.2 ⟨ok156, ?_⟩
  refine List.forall_mem_cons.2 ⟨ok157, ?_⟩
  refine List.forall_mem_cons.2 ⟨ok192, ?_⟩
  refine List.forall_mem_cons.2 ⟨ok193, ?_⟩
  refine List.forall_mem_cons.2 ⟨ok213, ?_⟩
  refine List.forall_mem_cons.2 ⟨ok214, ?_⟩
  refine List.forall_mem_cons.2 ⟨ok22, ?_⟩
  refine List.forall_mem_cons.2 ⟨ok23, ?_⟩
  refine List.forall_mem_cons.2 ⟨ok26, ?_⟩
  refine List.forall_mem_cons.2 ⟨ok29, ?_⟩
  refine List.forall_mem_cons.2 ⟨ok32, ?_⟩
  refine List.forall_mem_cons.2 ⟨ok79, ?_⟩
  refine List.forall_mem_cons.2 ⟨ok85, ?_⟩
  refine List.forall_mem_cons.2 ⟨ok98, ?_⟩
  refine List.forall_mem_cons.2 ⟨ok143, ?_⟩
  refine List.forall_mem_cons.2 ⟨ok1, ?_⟩
  refine List.forall_mem_cons.2 ⟨ok2, ?_⟩
  refine List.forall_mem_cons.2 ⟨ok5, ?_⟩
  refine List.forall_mem_cons.2 ⟨ok12, ?_⟩
  refine List.forall_mem_cons.2 ⟨ok21, ?_⟩
  refine List.forall_mem_cons.2 ⟨ok33, ?_⟩
  refine List.forall_mem_cons.2 ⟨ok34, ?_⟩
  refine List.forall_mem_cons.2 ⟨ok35, ?_⟩
  refine List.forall_mem_cons.2 ⟨ok36, ?_⟩
  refine List.forall_mem_cons.2 ⟨ok37, ?_⟩
  refine List.forall_mem_cons.2 ⟨ok38, ?_⟩
  refine List.forall_mem_cons.2 ⟨ok39, ?_⟩
  refine List.forall_mem_cons.2 ⟨ok40, ?_⟩
  refine List.forall_mem_cons.2 ⟨ok41, ?_⟩
  refine List.forall_mem_cons.2 ⟨ok42, ?_⟩
  refine List.forall_mem_cons.2 ⟨ok43, ?_⟩
  refine List.forall_mem_cons.2 ⟨ok44, ?_⟩
  refine List.forall_mem_cons.2 ⟨ok45, ?_⟩
  refine List.forall_mem_cons.2 ⟨ok48, ?_⟩
  refine List.forall_mem_cons.2 ⟨ok49, ?_⟩
  refine List.forall_mem_cons.2 ⟨ok50, ?_⟩
  refine List.forall_mem_cons.2 ⟨ok51, ?_⟩
  refine List.forall_mem_cons.2 ⟨ok53, ?_⟩
  refine List.forall_mem_cons.2 ⟨ok54, ?_⟩
  refine List.forall_mem_cons.2 ⟨ok55, ?_⟩
  refine List.forall_mem_cons.2 ⟨ok56, ?_⟩
  refine List.forall_mem_cons.2 ⟨ok57, ?_⟩
  refine List.forall_mem_cons.2 ⟨ok58, ?_⟩
  refine List.forall_mem_cons.2 ⟨ok59, ?_⟩
  refine List.forall_mem_cons.2 ⟨ok60, ?_⟩
  refine List.forall_mem_cons.2 ⟨ok63, ?_⟩
  refine List.forall_mem_cons.2 ⟨ok64, ?_⟩
  refine List.forall_mem_cons.2 ⟨ok65, ?_⟩
  refine List.forall_mem_cons.2 ⟨ok66, ?_⟩
  refine List.forall_mem_cons.2 ⟨ok70, ?_⟩
  refine List.forall_mem_cons.2 ⟨ok71, ?_⟩
  refine List.forall_mem_cons.2 ⟨ok72, ?_⟩
  refine List.forall_mem_cons.2 ⟨ok73, ?_⟩
  refine List.forall_mem_cons.2 ⟨ok74, ?_⟩
  refine List.forall_mem_cons.2 ⟨ok75, ?_⟩
  refine List.forall_mem_cons.2 ⟨ok76, ?_⟩
  refine List.forall_mem_cons.2 ⟨ok77, ?_⟩
  refine List.forall_mem_cons.2 ⟨ok78, ?_⟩
  refine List.forall_mem_cons.2 ⟨ok83, ?_⟩
  refine List.forall_mem_cons.2 ⟨ok84, ?_⟩
  refine List.forall_mem_cons.2 ⟨ok89, ?_⟩
  refine List.forall_mem_cons.2 ⟨ok90, ?_⟩
  refine List.forall_mem_cons.2 ⟨ok91, ?_⟩
  refine List.forall_mem_cons.2 ⟨ok92, ?_⟩
  refine List.forall_mem_cons.2 ⟨ok93, ?_⟩
  refine List.forall_mem_cons.2 ⟨ok94, ?_⟩
  refine List.forall_mem_cons.2 ⟨ok95, ?_⟩
  refine List.forall_mem_cons.2 ⟨ok96, ?_⟩
  refine List.forall_mem_cons.2 ⟨ok97, ?_⟩
  refine List.forall_mem_cons.2 ⟨ok100, ?_⟩
  refine List.forall_mem_cons.2 ⟨ok101, ?_⟩
  refine List.forall_mem_cons.2 ⟨ok102, ?_⟩
  refine List.forall_mem_cons.2 ⟨ok103, ?_⟩
  refine List.forall_mem_cons.2 ⟨ok104, ?_⟩
  refine List.forall_mem_cons.2 ⟨ok105, ?_⟩
  refine List.forall_mem_cons.2 ⟨ok106, ?_⟩
  refine List.forall_mem_cons.2 ⟨ok107, ?_⟩
  refine List.forall_mem_cons.2 ⟨ok108, ?_⟩
  refine List.forall_mem_cons.2 ⟨ok109, ?_⟩
  refine List.forall_mem_cons.2 ⟨ok110, ?_⟩
  refine List.forall_mem_cons.2 ⟨ok111, ?_⟩
  refine List.forall_mem_cons.2 ⟨ok112, ?_⟩
  refine List.forall_mem_cons.2 ⟨ok113, ?_⟩
  refine List.forall_mem_cons.2 ⟨ok114, ?_⟩
  refine List.forall_mem_cons.2 ⟨ok115, ?_⟩
  refine List.forall_mem_cons.2 ⟨ok116, ?_⟩
  refine List.forall_mem_cons.2 ⟨ok117, ?_⟩
  refine List.forall_mem_cons.2 ⟨ok118, ?_⟩
  refine List.forall_mem_cons.2 ⟨ok119, ?_⟩
  refine List.forall_mem_cons.2 ⟨ok120, ?_⟩
  refine List.forall_mem_cons.2 ⟨ok121, ?_⟩
  refine List.forall_mem_cons.2 ⟨ok122, ?_⟩
  refine List.forall_mem_cons.2 ⟨ok123, ?_⟩
  refine List.forall_mem_cons.2 ⟨ok124, ?_⟩
  refine List.forall_mem_cons.2 ⟨ok125, ?_⟩
  refine List.forall_mem_cons.2 ⟨ok126, ?_⟩
  refine List.forall_mem_cons.2 ⟨ok127, ?_⟩
  refine List.forall_mem_cons.2 ⟨ok128, ?_⟩
  refine List.forall_mem_cons.2 ⟨ok130, ?_⟩
  refine List.forall_mem_cons.2 ⟨ok131, ?_⟩
  refine List.forall_mem_cons.2 ⟨ok132, ?_⟩
  refine List.forall_mem_cons.2 ⟨ok133, ?_⟩
  refine List.forall_mem_cons.2 ⟨ok134, ?_⟩
  refine List.forall_mem_cons.2 ⟨ok135, ?_⟩
  refine List.forall_mem_cons.2 ⟨ok136, ?_⟩
  refine List.forall_mem_cons.2 ⟨ok137, ?_⟩
  refine List.forall_mem_cons.2 ⟨ok138, ?_⟩
  refine List.forall_mem_cons.2 ⟨ok141, ?_⟩
  refine List.forall_mem_cons.2 ⟨ok142, ?_⟩
  refine List.forall_mem_cons.2 ⟨ok146, ?_⟩
  refine List.forall_mem_cons.2 ⟨ok150, ?_⟩
  refine List.forall_mem_cons.2 ⟨ok152, ?_⟩
  refine List.forall_mem_cons.2 ⟨ok153, ?_⟩
  refine List.forall_mem_cons.2 ⟨ok154, ?_⟩
  refine List.forall_mem_cons.2 ⟨ok155, ?_⟩
  refine List.forall_mem_cons.2 ⟨ok158, ?_⟩
  refine List.forall_mem_cons.2 ⟨ok159, ?_⟩
  refine List.forall_mem_cons.2 ⟨ok160, ?_⟩
  refine List.forall_mem_cons.2 ⟨ok161, ?_⟩
  refine List.forall_mem_cons.2 ⟨ok162, ?_⟩
  refine List.forall_mem_cons.2 ⟨ok163, ?_⟩
  refine List.forall_mem_cons.2 ⟨ok165, ?_⟩
  refine List.forall_mem_cons.2 ⟨ok166, ?_⟩
  refine List.forall_mem_cons.2 ⟨ok167, ?_⟩
  refine List.forall_mem_cons.2 ⟨ok168, ?_⟩
  refine List.forall_mem_cons.2 ⟨ok169, ?_⟩
  refine List.forall_mem_cons.2 ⟨ok171, ?_⟩
  refine List.forall_mem_cons.2 ⟨ok172, ?_⟩
  refine List.forall_mem_cons.2 ⟨ok174, ?_⟩
  refine List.forall_mem_cons.2 ⟨ok175, ?_⟩
  refine List.forall_mem_cons.2 ⟨ok176, ?_⟩
  refine List.forall_mem_cons.2 ⟨ok177, ?_⟩
  refine List.forall_mem_cons.2 ⟨ok179, ?_⟩
  refine List.forall_mem_cons.2 ⟨ok180, ?_⟩
  refine List.forall_mem_cons.2 ⟨ok181, ?_⟩
  refine List.forall_mem_cons.2 ⟨ok182, ?_⟩
  refine List.forall_mem_cons.2 ⟨ok184, ?_⟩
  refine List.forall_mem_cons.2 ⟨ok186, ?_⟩
  refine List.forall_mem_cons.2 ⟨ok187, ?_⟩
  refine List.forall_mem_cons.2 ⟨ok189, ?_⟩
  refine List.forall_mem_cons.2 ⟨ok190, ?_⟩
  refine List.forall_mem_cons.2 ⟨ok195, ?_⟩
  refine List.forall_mem_cons.2 ⟨ok197, ?_⟩
  refine List.forall_mem_cons.2 ⟨ok200, ?_⟩
  refine List.forall_mem_cons.2 ⟨ok208, ?_⟩
  intro e h; cases h
def seatG : List GE := [{ g := 0, x := .agg [.int 0, .int 1] }]
/-- The table of powers of ten is as laid, and the library's bound on lengths is some int. -/
def seatI (w : World) (F : Nat → Prop) : Prop := (F 1 ∧ Lib.TabIs Tryz.prog w "internal/strconv.uint64pow10" .u64 Lib.pow10Tab) ∧ (F 2 ∧ ∃ m : Int, w.cell? ⟨2, 0, none⟩ = some (.int .i64 m))
theorem seatI_mono : ∀ (w w' : World) (F F' : Nat → Prop), (∀ b, F b → F' b) → (∀ b, F b → w'.heap[b]? = w.heap[b]?) → seatI w F → seatI w' F' := by
  rintro w w' F F' hF hw ⟨h1, h2⟩
  refine ⟨?_, ?_⟩
  · obtain ⟨a, b⟩ := h1
    have hg : Program.globalNamed Tryz.prog "internal/strconv.uint64pow10" = some 1 := by kernel_rfl
    refine ⟨hF _ a, ?_⟩
    unfold Lib.TabIs World.var? at b ⊢
    rw [hg] at b ⊢
    simp only [Option.bind_some] at b ⊢
    rw [hw _ a]
    exact b
  · obtain ⟨a, m, b⟩ := h2
    exact ⟨hF _ a, m, by rw [World.cell?_of_block (hw _ a)]; exact b⟩
theorem seatM : Tryz.prog.follows .mixedOrders = true := by kernel_rfl
noncomputable def E : Env := { P := Tryz.prog, T := seatT, G := seatG, hT := seatT_ok, hM := seatM, I := seatI, hI := seatI_mono }
theorem b2 : HasBody E 2 := by intro args w; dsimp only [E]; exact Tryz.call2 args w
theorem b3 : HasBody E 3 := by intro args w; dsimp only [E]; exact Tryz.call3 args w
theorem b4 : HasBody E 4 := by intro args w; dsimp only [E]; exact Tryz.call4 args w
theorem b9 : HasBody E 9 := by intro args w; dsimp only [E]; exact Tryz.call9 args w
theorem b10 : HasBody E 10 := by intro args w; dsimp only [E]; exact Tryz.call10 args w
theorem b11 : HasBody E 11 := by intro args w; dsimp only [E]; exact Tryz.call11 args w
theorem b13 : HasBody E 13 := by intro args w; dsimp only [E]; exact Tryz.call13 args w
theorem b14 : HasBody E 14 := by intro args w; dsimp only [E]; exact Tryz.call14 args w
theorem b16 : HasBody E 16 := by intro args w; dsimp only [E]; exact Tryz.call16 args w
theorem b17 : HasBody E 17 := by intro args w; dsimp only [E]; exact Tryz.call17 args w
theorem b18 : HasBody E 18 := by intro args w; dsimp only [E]; exact Tryz.call18 args w
theorem b19 : HasBody E 19 := by intro args w; dsimp only [E]; exact Tryz.call19 args w
theorem b20 : HasBody E 20 := by intro args w; dsimp only [E]; exact Tryz.call20 args w
theorem b23 : HasBody E 23 := by intro args w; dsimp only [E]; exact Tryz.call23 args w
theorem b30 : HasBody E 30 := by intro args w; dsimp only [E]; exact Tryz.call30 args w
theorem b31 : HasBody E 31 := by intro args w; dsimp only [E]; exact Tryz.call31 args w
theorem b32 : HasBody E 32 := by intro args w; dsimp only [E]; exact Tryz.call32 args w
theorem b33 : HasBody E 33 := by intro args w; dsimp only [E]; exact Tryz.call33 args w
theorem b34 : HasBody E 34 := by intro args w; dsimp only [E]; exact Tryz.call34 args w
theorem b35 : HasBody E 35 := by intro args w; dsimp only [E]; exact Tryz.call35 args w
theorem b38 : HasBody E 38 := by intro args w; dsimp only [E]; exact Tryz.call38 args w
theorem b39 : HasBody E 39 := by intro args w; dsimp only [E]; exact Tryz.call39 args w
theorem b40 : HasBody E 40 := by intro args w; dsimp only [E]; exact Tryz.call40 args w
theorem b41 : HasBody E 41 := by intro args w; dsimp only [E]; exact Tryz.call41 args w
theorem b42 : HasBody E 42 := by intro args w; dsimp only [E]; exact Tryz.call42 args w
theorem b43 : HasBody E 43 := by intro args w; dsimp only [E]; exact Tryz.call43 args w
theorem b44 : HasBody E 44 := by intro args w; dsimp only [E]; exact Tryz.call44 args w
theorem b45 : HasBody E 45 := by intro args w; dsimp only [E]; exact Tryz.call45 args w
theorem b46 : HasBody E 46 := by intro args w; dsimp only [E]; exact Tryz.call46 args w
theorem b47 : HasBody E 47 := by intro args w; dsimp only [E]; exact Tryz.call47 args w
theorem b48 : HasBody E 48 := by intro args w; dsimp only [E]; exact Tryz.call48 args w
theorem b51 : HasBody E 51 := by intro args w; dsimp only [E]; exact Tryz.call51 args w
theorem b52 : HasBody E 52 := by intro args w; dsimp only [E]; exact Tryz.call52 args w
theorem b53 : HasBody E 53 := by intro args w; dsimp only [E]; exact Tryz.call53 args w
theorem b54 : HasBody E 54 := by intro args w; dsimp only [E]; exact Tryz.call54 args w
theorem b55 : HasBody E 55 := by intro args w; dsimp only [E]; exact Tryz.call55 args w
theorem b56 : HasBody E 56 := by intro args w; dsimp only [E]; exact Tryz.call56 args w
theorem b57 : HasBody E 57 := by intro args w; dsimp only [E]; exact Tryz.call57 args w
theorem b58 : HasBody E 58 := by intro args w; dsimp only [E]; exact Tryz.call58 args w
theorem b59 : HasBody E 59 := by intro args w; dsimp only [E]; exact Tryz.call59 args w
theorem b60 : HasBody E 60 := by intro args w; dsimp only [E]; exact Tryz.call60 args w
theorem b61 : HasBody E 61 := by intro args w; dsimp only [E]; exact Tryz.call61 args w
theorem b62 : HasBody E 62 := by intro args w; dsimp only [E]; exact Tryz.call62 args w
theorem b63 : HasBody E 63 := by intro args w; dsimp only [E]; exact Tryz.call63 args w
theorem b64 : HasBody E 64 := by intro args w; dsimp only [E]; exact Tryz.call64 args w
theorem b65 : HasBody E 65 := by intro args w; dsimp only [E]; exact Tryz.call65 args w
theorem b66 : HasBody E 66 := by intro args w; dsimp only [E]; exact Tryz.call66 args w
theorem b72 : HasBody E 72 := by intro args w; dsimp only [E]; exact Tryz.call72 args w
theorem b73 : HasBody E 73 := by intro args w; dsimp only [E]; exact Tryz.call73 args w
theorem b74 : HasBody E 74 := by intro args w; dsimp only [E]; exact Tryz.call74 args w
theorem b75 : HasBody E 75 := by intro args w; dsimp only [E]; exact Tryz.call75 args w
theorem b76 : HasBody E 76 := by intro args w; dsimp only [E]; exact Tryz.call76 args w
theorem b77 : HasBody E 77 := by intro args w; dsimp only [E]; exact Tryz.call77 args w
theorem b78 : HasBody E 78 := by intro args w; dsimp only [E]; exact Tryz.call78 args w
theorem b79 : HasBody E 79 := by intro args w; dsimp only [E]; exact Tryz.call79 args w
theorem b80 : HasBody E 80 := by intro args w; dsimp only [E]; exact Tryz.call80 args w
theorem b81 : HasBody E 81 := by intro args w; dsimp only [E]; exact Tryz.call81 args w
theorem b82 : HasBody E 82 := by intro args w; dsimp only [E]; exact Tryz.call82 args w
theorem b83 : HasBody E 83 := by intro args w; dsimp only [E]; exact Tryz.call83 args w
theorem b84 : HasBody E 84 := by intro args w; dsimp only [E]; exact Tryz.call84 args w
theorem b85 : HasBody E 85 := by intro args w; dsimp only [E]; exact Tryz.call85 args w
theorem b86 : HasBody E 86 := by intro args w; dsimp only [E]; exact Tryz.call86 args w
theorem b87 : HasBody E 87 := by intro args w; dsimp only [E]; exact Tryz.call87 args w
theorem b88 : HasBody E 88 := by intro args w; dsimp only [E]; exact Tryz.call88 args w
theorem b89 : HasBody E 89 := by intro args w; dsimp only [E]; exact Tryz.call89 args w
theorem b90 : HasBody E 90 := by intro args w; dsimp only [E]; exact Tryz.call90 args w
theorem b91 : HasBody E 91 := by intro args w; dsimp only [E]; exact Tryz.call91 args w
theorem b92 : HasBody E 92 := by intro args w; dsimp only [E]; exact Tryz.call92 args w
theorem b93 : HasBody E 93 := by intro args w; dsimp only [E]; exact Tryz.call93 args w
theorem b94 : HasBody E 94 := by intro args w; dsimp only [E]; exact Tryz.call94 args w
theorem b95 : HasBody E 95 := by intro args w; dsimp only [E]; exact Tryz.call95 args w
theorem b96 : HasBody E 96 := by intro args w; dsimp only [E]; exact Tryz.call96 args w
theorem b97 : HasBody E 97 := by intro args w; dsimp only [E]; exact Tryz.call97 args w
theorem b98 : HasBody E 98 := by intro args w; dsimp only [E]; exact Tryz.call98 args w
theorem b99 : HasBody E 99 := by intro args w; dsimp only [E]; exact Tryz.call99 args w
theorem b100 : HasBody E 100 := by intro args w; dsimp only [E]; exact Tryz.call100 args w
theorem b101 : HasBody E 101 := by intro args w; dsimp only [E]; exact Tryz.call101 args w
theorem b102 : HasBody E 102 := by intro args w; dsimp only [E]; exact Tryz.call102 args w
theorem b103 : HasBody E 103 := by intro args w; dsimp only [E]; exact Tryz.call103 args w
theorem b104 : HasBody E 104 := by intro args w; dsimp only [E]; exact Tryz.call104 args w
theorem b105 : HasBody E 105 := by intro args w; dsimp only [E]; exact Tryz.call105 args w
theorem b106 : HasBody E 106 := by intro args w; dsimp only [E]; exact Tryz.call106 args w
theorem b107 : HasBody E 107 := by intro args w; dsimp only [E]; exact Tryz.call107 args w
theorem b108 : HasBody E 108 := by intro args w; dsimp only [E]; exact Tryz.call108 args w
theorem b132 : HasBody E 132 := by intro args w; dsimp only [E]; exact Tryz.call132 args w
theorem b133 : HasBody E 133 := by intro args w; dsimp only [E]; exact Tryz.call133 args w
theorem b134 : HasBody E 134 := by intro args w; dsimp only [E]; exact Tryz.call134 args w
theorem b135 : HasBody E 135 := by intro args w; dsimp only [E]; exact Tryz.call135 args w
theorem b136 : HasBody E 136 := by intro args w; dsimp only [E]; exact Tryz.call136 args w
theorem b137 : HasBody E 137 := by intro args w; dsimp only [E]; exact Tryz.call137 args w
theorem b138 : HasBody E 138 := by intro args w; dsimp only [E]; exact Tryz.call138 args w
theorem b139 : HasBody E 139 := by intro args w; dsimp only [E]; exact Tryz.call139 args w
theorem b140 : HasBody E 140 := by intro args w; dsimp only [E]; exact Tryz.call140 args w
theorem b141 : HasBody E 141 := by intro args w; dsimp only [E]; exact Tryz.call141 args w
theorem b142 : HasBody E 142 := by intro args w; dsimp only [E]; exact Tryz.call142 args w
theorem b143 : HasBody E 143 := by intro args w; dsimp only [E]; exact Tryz.call143 args w
theorem b144 : HasBody E 144 := by intro args w; dsimp only [E]; exact Tryz.call144 args w
theorem b145 : HasBody E 145 := by intro args w; dsimp only [E]; exact Tryz.call145 args w
theorem b148 : HasBody E 148 := by intro args w; dsimp only [E]; exact Tryz.call148 args w
theorem b150 : HasBody E 150 := by intro args w; dsimp only [E]; exact Tryz.call150 args w
theorem b151 : HasBody E 151 := by intro args w; dsimp only [E]; exact Tryz.call151 args w
theorem b152 : HasBody E 152 := by intro args w; dsimp only [E]; exact Tryz.call152 args w
theorem b153 : HasBody E 153 := by intro args w; dsimp only [E]; exact Tryz.call153 args w
theorem b154 : HasBody E 154 := by intro args w; dsimp only [E]; exact Tryz.call154 args w
theorem b155 : HasBody E 155 := by intro args w; dsimp only [E]; exact Tryz.call155 args w
theorem b156 : HasBody E 156 := by intro args w; dsimp only [E]; exact Tryz.call156 args w
theorem b157 : HasBody E 157 := by intro args w; dsimp only [E]; exact Tryz.call157 args w
theorem b158 : HasBody E 158 := by intro args w; dsimp only [E]; exact Tryz.call158 args w
theorem b159 : HasBody E 159 := by intro args w; dsimp only [E]; exact Tryz.call159 args w
theorem b160 : HasBody E 160 := by intro args w; dsimp only [E]; exact Tryz.call160 args w
theorem b161 : HasBody E 161 := by intro args w; dsimp only [E]; exact Tryz.call161 args w
theorem b162 : HasBody E 162 := by intro args w; dsimp only [E]; exact Tryz.call162 args w
theorem b163 : HasBody E 163 := by intro args w; dsimp only [E]; exact Tryz.call163 args w
theorem b164 : HasBody E 164 := by intro args w; dsimp only [E]; exact Tryz.call164 args w
theorem b165 : HasBody E 165 := by intro args w; dsimp only [E]; exact Tryz.call165 args w
theorem b166 : HasBody E 166 := by intro args w; dsimp only [E]; exact Tryz.call166 args w
theorem b168 : HasBody E 168 := by intro args w; dsimp only [E]; exact Tryz.call168 args w
theorem b180 : HasBody E 180 := by intro args w; dsimp only [E]; exact Tryz.call180 args w
theorem b181 : HasBody E 181 := by intro args w; dsimp only [E]; exact Tryz.call181 args w
theorem b182 : HasBody E 182 := by intro args w; dsimp only [E]; exact Tryz.call182 args w
theorem b183 : HasBody E 183 := by intro args w; dsimp only [E]; exact Tryz.call183 args w
theorem b185 : HasBody E 185 := by intro args w; dsimp only [E]; exact Tryz.call185 args w
theorem b192 : HasBody E 192 := by intro args w; dsimp only [E]; exact Tryz.call192 args w
theorem b193 : HasBody E 193 := by intro args w; dsimp only [E]; exact Tryz.call193 args w
theorem b194 : HasBody E 194 := by intro args w; dsimp only [E]; exact Tryz.call194 args w
theorem b195 : HasBody E 195 := by intro args w; dsimp only [E]; exact Tryz.call195 args w
theorem b196 : HasBody E 196 := by intro args w; dsimp only [E]; exact Tryz.call196 args w
theorem b197 : HasBody E 197 := by intro args w; dsimp only [E]; exact Tryz.call197 args w
theorem b198 : HasBody E 198 := by intro args w; dsimp only [E]; exact Tryz.call198 args w
theorem b199 : HasBody E 199 := by intro args w; dsimp only [E]; exact Tryz.call199 args w
theorem b200 : HasBody E 200 := by intro args w; dsimp only [E]; exact Tryz.call200 args w
theorem b201 : HasBody E 201 := by intro args w; dsimp only [E]; exact Tryz.call201 args w
theorem b202 : HasBody E 202 := by intro args w; dsimp only [E]; exact Tryz.call202 args w
theorem b206 : HasBody E 206 := by intro args w; dsimp only [E]; exact Tryz.call206 args w
theorem b207 : HasBody E 207 := by intro args w; dsimp only [E]; exact Tryz.call207 args w
theorem b208 : HasBody E 208 := by intro args w; dsimp only [E]; exact Tryz.call208 args w
theorem b209 : HasBody E 209 := by intro args w; dsimp only [E]; exact Tryz.call209 args w
theorem b210 : HasBody E 210 := by intro args w; dsimp only [E]; exact Tryz.call210 args w
theorem b211 : HasBody E 211 := by intro args w; dsimp only [E]; exact Tryz.call211 args w
theorem b216 : HasBody E 216 := by intro args w; dsimp only [E]; exact Tryz.call216 args w
theorem b223 : HasBody E 223 := by intro args w; dsimp only [E]; exact Tryz.call223 args w
theorem b224 : HasBody E 224 := by intro args w; dsimp only [E]; exact Tryz.call224 args w
theorem b226 : HasBody E 226 := by intro args w; dsimp only [E]; exact Tryz.call226 args w
theorem b228 : HasBody E 228 := by intro args w; dsimp only [E]; exact Tryz.call228 args w
theorem b240 : HasBody E 240 := by intro args w; dsimp only [E]; exact Tryz.call240 args w
end Go.Proofs.YthieohigmpfknaaGreatDoor
