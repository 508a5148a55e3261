/- The walk through a region whose order is drawn and that holds several effects; Calls that are handed objects: data handed back; such calls in a region whose order is drawn; A row that grew out of nil, given up as data; Laws whose statement bears a bound on how much is read; Short names for the steps of a walk whose premises say themselves; In a region whose order is drawn: a literal of a slice as a row of the call's own, and an append whose row is given up as data at once; Drawn regions in which one operation calls a function that is handed objects and leaves them as they are; shifts, masks an. Conditions: each part's own, as it says. -/
import Derived.Test.YtmfjfclpdmpncaaGreatDoorGB
import Derived.Deep.DeepHandedRow
import Derived.Test.YtmfjfclpdmpncaaGreatDoorProg
import Derived.Test.YtmfjfclpdmpncaaGreatDoorGA
import Derived.KernelRfl
import Derived.Lib.LaidTab
import Derived.Shelf.Strconv.Itoa3
set_option linter.unusedVariables false
set_option linter.unusedSimpArgs false
/- The walk through a region whose order is drawn and that holds several effects. Conditions: each rule's own. -/
namespace Go.Abs
open Go Go.RowKit

/-- Fewer objects known than there are. -/
structure Wk (wob ob : List AObj) : Prop where
  len : wob.length ≤ ob.length
  get : ∀ (i : Nat) x, wob[i]? = some x → x.live = true → ob[i]? = some x ∧ x.below wob.length = true
def wkP (n : Nat) : List AObj → List AObj → Prop
  | [], _ => True
  | .dead :: r, _ :: q => True ∧ wkP n r q
  | _ :: _, [] => False
  | x :: r, y :: q => (x = y ∧ x.below n = true) ∧ wkP n r q
theorem wkP_ok {n : Nat} : ∀ {wob ob : List AObj}, wkP n wob ob → wob.length ≤ ob.length ∧ ∀ (i : Nat) x, wob[i]? = some x → x.live = true → ob[i]? = some x ∧ x.below n = true
  | [], _, _ => ⟨Nat.zero_le _, fun i x h => by simp at h⟩
  | x :: r, [], h => by cases x <;> simp [wkP] at h
  | x :: r, y :: q, h => by
    have key : (x.live = true → x = y ∧ x.below n = true) ∧ wkP n r q := by
      cases x with
      | dead => exact ⟨fun hl => by simp [AObj.live] at hl, h.2⟩
      | _ => exact ⟨fun _ => h.1, h.2⟩
    obtain ⟨h1, h2⟩ := wkP_ok key.2
    refine ⟨by simpa using h1, fun i z hz hl => ?_⟩
    cases i with
    | zero =>
      simp at hz
      subst hz
      obtain ⟨rfl, h4⟩ := key.1 hl
      exact ⟨rfl, h4⟩
    | succ i => exact h2 i z (by simpa using hz) hl
theorem Wk.mk' {wob ob : List AObj} (h : wkP wob.length wob ob) : Wk wob ob := ⟨(wkP_ok h).1, (wkP_ok h).2⟩

theorem WInv.wk {E : Env} {B : Base} {F : Nat → Prop} {σ : Sg} {ob wob : List AObj} {w : World} (h : WInv E B F σ ob w) (hw : Wk wob ob) (hn : B.n0 ≤ wob.length) : WInv E B F (σ.take wob.length) wob w := by
  have hlen := h.len
  have hl := hw.len
  have hget : ∀ (o : Nat) p, (σ.take wob.length)[o]? = some p → σ[o]? = some p := by
    intro o p hp
    rw [List.getElem?_take] at hp
    split at hp
    · exact hp
    · cases hp
  refine ⟨h.flt, h.glob, by rw [List.length_take]; omega, fun o x p hx hp => ?_, fun o o' x x' p p' hne hx hlx hx' hlx' hp hp' => ?_, fun i p hi hp => ?_⟩
  · cases hlv : x.live with
    | false => cases x <;> simp [AObj.live] at hlv <;> trivial
    | true => exact (h.obs o x p (hw.get o x hx hlv).1 (hget o p hp)).take (hw.get o x hx hlv).2
  · exact h.inj o o' x x' p p' hne (hw.get o x hx hlx).1 hlx (hw.get o' x' hx' hlx').1 hlx' (hget o p hp) (hget o' p' hp')
  · rw [List.getElem?_take, if_pos (by omega)]
    exact h.pre i p hi hp
theorem St.ev_below {E : Env} {tm : List (Nat × X)} {ob : List AObj} {n : Nat} (h : ∀ t, (lk tm t).below n = true) (z : Operand) : ((⟨tm, ob⟩ : St).ev E z).below n = true := by
  cases z with
  | tmp t => exact h t
  | const v =>
    show (ofConst v).below n = true
    unfold ofConst
    split
    · rfl
    · cases okV v <;> rfl
  | global g =>
    show (findG E.G g).below n = true
    have : ∀ l : List GE, (findG l g).below n = true := by
      intro l
      induction l with
      | nil => rfl
      | cons a r ih =>
        simp only [findG]
        cases Nat.beq a.g g
        · exact ih
        · rfl
    exact this _
  | func f => rfl
theorem VOp.wk {C : Cx} {tm : List (Nat × X)} {ob wob : List AObj} {o : Oper} {x : X} (h : VOp C ⟨tm, wob⟩ o x) (hw : Wk wob ob) (hn : C.base.n0 ≤ wob.length) (hb : ∀ t, (lk tm t).below wob.length = true) : VOp C ⟨tm, ob⟩ o x := by
  intro F σ w a K Q hi hr hK
  refine h F (σ.take wob.length) w a K Q (hi.wk hw hn) (fun y hy => ?_) fun v w' F' he hv => hK v w' F' he ?_
  · have := hr y hy
    exact RdX.take (n := wob.length) this (St.ev_below (ob := ob) hb y)
  · refine hv.mono (fun _ h => h) (fun _ _ => rfl) fun o p hp => ?_
    rw [List.getElem?_take] at hp
    split at hp
    · exact hp
    · cases hp

def fixedB (A E : List Nat) (i : Nat) : Bool := E.all fun e => Nat.beq e i || (bif Nat.blt e i then aheadB A e i else aheadB A i e)
def FixedP (l : List Oper) (E : List Nat) (i : Nat) : Prop := ∀ e, E.contains e = true → (e < i → Ahead l e i) ∧ (i < e → Ahead l i e)
theorem fixedB_ok {l : List Oper} {E : List Nat} {i : Nat} (h : fixedB (ancs l) E i = true) : FixedP l E i := by
  intro e he
  have h1 := List.all_eq_true.1 h e (by simpa using he)
  refine ⟨fun hlt => ?_, fun hlt => ?_⟩
  · have e1 : Nat.beq e i = false := by rw [← Bool.not_eq_true]; intro hb; have := Nat.eq_of_beq_eq_true hb; omega
    have e2 : Nat.blt e i = true := by simpa using hlt
    rw [e1, e2] at h1
    exact ancs_spec (by simpa using h1)
  · have e1 : Nat.beq e i = false := by rw [← Bool.not_eq_true]; intro hb; have := Nat.eq_of_beq_eq_true hb; omega
    have e2 : Nat.blt e i = false := by rw [← Bool.not_eq_true]; simp; omega
    rw [e1, e2] at h1
    exact ancs_spec (by simpa using h1)
def chainB (A E : List Nat) : Bool := E.all fun e => fixedB A E e

inductive RD (C : Cx) (l : List Oper) (E : List Nat) (wob : List AObj) : Nat → List Oper → St → St → Prop
  | nil (i : Nat) (s : St) : RD C l E wob i [] s s
  | same {i : Nat} {ops : List Oper} {s s1 s' : St} (hs : StEq s s1) (h : RD C l E wob i ops s1 s') : RD C l E wob i ops s s'
  | fix {i : Nat} {o : Oper} {rest : List Oper} {s s' : St} {x : X} (hg : GuardIs l.toArray s o true) (hd : dstOK C o = true) (hne : E.contains i = false) (hf : FixedP l E i) (hv : VOp C s o x) (h : RD C l E wob (i + 1) rest (s.put o.dst x) s') : RD C l E wob i (o :: rest) s s'
  | skip {i : Nat} {o : Oper} {rest : List Oper} {s s' : St} (hg : GuardIs l.toArray s o false) (hd : dstOK C o = true) (hne : E.contains i = false) (h : RD C l E wob (i + 1) rest (s.put o.dst .und) s') : RD C l E wob i (o :: rest) s s'
  | weak {i : Nat} {o : Oper} {rest : List Oper} {s s' : St} {x : X} (hg : GuardIs l.toArray s o true) (hd : dstOK C o = true) (hne : E.contains i = false) (hv : VOp C ⟨s.tm, wob⟩ o x) (hb : ∀ t, (lk s.tm t).below wob.length = true) (h : RD C l E wob (i + 1) rest (s.put o.dst x) s') : RD C l E wob i (o :: rest) s s'
  | eff {i : Nat} {o : Oper} {rest : List Oper} {s s' : St} {x : X} {ob' : List AObj} (hg : GuardIs l.toArray s o true) (hd : dstOK C o = true) (hne : E.contains i = true) (hv : EOp C s o x ob') (hw : Wk wob ob') (h : RD C l E wob (i + 1) rest ((⟨s.tm, ob'⟩ : St).put o.dst x) s') : RD C l E wob i (o :: rest) s s'

theorem stps_tm : ∀ (xs : List (Oper × Option X)) (s s2 : St), (∀ t, lk s.tm t = lk s2.tm t) → ∀ t, lk (stps s xs).tm t = lk (stps s2 xs).tm t
  | [], _, _, h => h
  | (o, x) :: r, s, s2, h => by
    refine stps_tm r _ _ fun t => ?_
    cases o.dst with
    | none => exact h t
    | some d =>
      simp only [St.put, lk]
      cases Nat.beq d t
      · exact h t
      · rfl
theorem VOp.look {C : Cx} {tm tm' : List (Nat × X)} {ob : List AObj} {o : Oper} {x : X} (h : VOp C ⟨tm, ob⟩ o x) (he : ∀ t, lk tm' t = lk tm t) : VOp C ⟨tm', ob⟩ o x :=
  StEq.vop (s := ⟨tm, ob⟩) (s' := ⟨tm', ob⟩) ⟨he, rfl⟩ h
theorem EOp.look {C : Cx} {tm tm' : List (Nat × X)} {ob ob' : List AObj} {o : Oper} {x : X} (h : EOp C ⟨tm, ob⟩ o x ob') (he : ∀ t, lk tm' t = lk tm t) : EOp C ⟨tm', ob⟩ o x ob' := by
  intro t2 h2
  refine h t2 fun z hz => (h2 z hz).trans ?_
  cases z with
  | tmp t => exact he t
  | _ => rfl
theorem GuardIs.look {all : Array Oper} {s s' : St} {o : Oper} {b : Bool} (h : GuardIs all s o b) (he : ∀ t, lk s'.tm t = lk s.tm t) : GuardIs all s' o b := by
  unfold GuardIs at *
  cases hgd : o.guard with
  | none => rw [hgd] at h; exact h
  | some jp =>
    rw [hgd] at h
    obtain ⟨t, h1, h2⟩ := h
    exact ⟨t, h1, by rw [he]; exact h2⟩

theorem RD.data {C : Cx} {l : List Oper} {E : List Nat} {wob : List AObj} {i : Nat} {ops : List Oper} {s s' : St} (h : RD C l E wob i ops s s') (hw0 : Wk wob s.ob) :
    ∃ (xs : List (Oper × Option X)) (obT : Nat → List AObj), xs.map (·.1) = ops ∧ obT 0 = s.ob ∧ obT ops.length = s'.ob ∧ (∀ t, lk (stps s xs).tm t = lk s'.tm t) ∧ (∀ j, j ≤ ops.length → Wk wob (obT j)) ∧
      ∀ (j : Nat) o x, xs[j]? = some (o, x) → dstOK C o = true ∧ GuardIs l.toArray (stps s (xs.take j)) o x.isSome ∧
        (E.contains (i + j) = true → ∃ y, x = some y ∧ EOp C ⟨(stps s (xs.take j)).tm, obT j⟩ o y (obT (j + 1))) ∧
        (E.contains (i + j) = false → obT (j + 1) = obT j ∧ ∀ y, x = some y → (FixedP l E (i + j) ∧ VOp C ⟨(stps s (xs.take j)).tm, obT j⟩ o y) ∨ (VOp C ⟨(stps s (xs.take j)).tm, wob⟩ o y ∧ ∀ t, (lk (stps s (xs.take j)).tm t).below wob.length = true)) := by
  induction h with
  | nil i s => exact ⟨[], fun _ => s.ob, rfl, rfl, rfl, fun _ => rfl, fun _ _ => hw0, fun j o x h => by simp at h⟩
  | @same i ops s s1 s' hs hh ih =>
    obtain ⟨xs, obT, h1, h2, h3, h4, h5, h6⟩ := ih (by rw [hs.2]; exact hw0)
    have hst : ∀ ys t, lk (stps s ys).tm t = lk (stps s1 ys).tm t := fun ys => stps_tm ys s s1 fun t => (hs.1 t).symm
    refine ⟨xs, obT, h1, h2.trans hs.2, h3, fun t => (hst xs t).trans (h4 t), h5, fun j o x hj => ?_⟩
    obtain ⟨a1, a2, a3, a4⟩ := h6 j o x hj
    refine ⟨a1, a2.look (hst _), fun he => ?_, fun he => ⟨(a4 he).1, fun y hy => ?_⟩⟩
    · obtain ⟨y, hy, hv⟩ := a3 he
      exact ⟨y, hy, hv.look (hst _)⟩
    · rcases (a4 he).2 y hy with ⟨b1, b2⟩ | ⟨b1, b2⟩
      · exact .inl ⟨b1, b2.look (hst _)⟩
      · exact .inr ⟨b1.look (hst _), fun t => by rw [hst]; exact b2 t⟩
  | @fix i o rest s s' x hg hd hne hf hv hh ih =>
    obtain ⟨xs, obT, h1, h2, h3, h4, h5, h6⟩ := ih (by rw [St.put_ob]; exact hw0)
    rw [St.put_ob] at h2
    refine ⟨(o, some x) :: xs, fun j => match j with | 0 => s.ob | j + 1 => obT j, by simp [h1], rfl, h3, h4, fun j hj => ?_, fun j o' x' hj => ?_⟩
    · cases j with
      | zero => exact hw0
      | succ j => exact h5 j (by simpa using hj)
    · cases j with
      | zero =>
        simp at hj
        obtain ⟨rfl, rfl⟩ := hj
        refine ⟨hd, hg, fun he => ?_, fun _ => ⟨h2, fun y hy => ?_⟩⟩
        · rw [Nat.add_zero, hne] at he; cases he
        · cases hy; exact .inl ⟨hf, hv⟩
      | succ j =>
        have := h6 j o' x' (by simpa using hj)
        rw [show i + 1 + j = i + (j + 1) by omega] at this
        exact this
  | @skip i o rest s s' hg hd hne hh ih =>
    obtain ⟨xs, obT, h1, h2, h3, h4, h5, h6⟩ := ih (by rw [St.put_ob]; exact hw0)
    rw [St.put_ob] at h2
    refine ⟨(o, none) :: xs, fun j => match j with | 0 => s.ob | j + 1 => obT j, by simp [h1], rfl, h3, h4, fun j hj => ?_, fun j o' x' hj => ?_⟩
    · cases j with
      | zero => exact hw0
      | succ j => exact h5 j (by simpa using hj)
    · cases j with
      | zero =>
        simp at hj
        obtain ⟨rfl, rfl⟩ := hj
        refine ⟨hd, hg, fun he => ?_, fun _ => ⟨h2, fun y hy => ?_⟩⟩
        · rw [Nat.add_zero, hne] at he; cases he
        · cases hy
      | succ j =>
        have := h6 j o' x' (by simpa using hj)
        rw [show i + 1 + j = i + (j + 1) by omega] at this
        exact this
  | @weak i o rest s s' x hg hd hne hv hb hh ih =>
    obtain ⟨xs, obT, h1, h2, h3, h4, h5, h6⟩ := ih (by rw [St.put_ob]; exact hw0)
    rw [St.put_ob] at h2
    refine ⟨(o, some x) :: xs, fun j => match j with | 0 => s.ob | j + 1 => obT j, by simp [h1], rfl, h3, h4, fun j hj => ?_, fun j o' x' hj => ?_⟩
    · cases j with
      | zero => exact hw0
      | succ j => exact h5 j (by simpa using hj)
    · cases j with
      | zero =>
        simp at hj
        obtain ⟨rfl, rfl⟩ := hj
        refine ⟨hd, hg, fun he => ?_, fun _ => ⟨h2, fun y hy => ?_⟩⟩
        · rw [Nat.add_zero, hne] at he; cases he
        · cases hy; exact .inr ⟨hv, hb⟩
      | succ j =>
        have := h6 j o' x' (by simpa using hj)
        rw [show i + 1 + j = i + (j + 1) by omega] at this
        exact this
  | @eff i o rest s s' x ob' hg hd hne hv hw hh ih =>
    obtain ⟨xs, obT, h1, h2, h3, h4, h5, h6⟩ := ih (by rw [St.put_ob]; exact hw)
    rw [St.put_ob] at h2
    have hst : ∀ ys t, lk (stps (s.put o.dst x) ys).tm t = lk (stps ((⟨s.tm, ob'⟩ : St).put o.dst x) ys).tm t := fun ys => stps_tm ys _ _ fun t => by cases o.dst <;> rfl
    refine ⟨(o, some x) :: xs, fun j => match j with | 0 => s.ob | j + 1 => obT j, by simp [h1], rfl, h3, fun t => (hst xs t).trans (h4 t), fun j hj => ?_, fun j o' x' hj => ?_⟩
    · cases j with
      | zero => exact hw0
      | succ j => exact h5 j (by simpa using hj)
    · cases j with
      | zero =>
        simp at hj
        obtain ⟨rfl, rfl⟩ := hj
        refine ⟨hd, hg, fun he => ⟨x, rfl, ?_⟩, fun he => ?_⟩
        · show EOp C ⟨s.tm, s.ob⟩ o x (obT 0)
          rw [h2]; exact hv
        · rw [Nat.add_zero, hne] at he; cases he
      | succ j =>
        obtain ⟨a1, a2, a3, a4⟩ := h6 j o' x' (by simpa using hj)
        rw [show i + 1 + j = i + (j + 1) by omega] at a3 a4
        refine ⟨a1, a2.look (hst _), fun he => ?_, fun he => ⟨(a4 he).1, fun y hy => ?_⟩⟩
        · obtain ⟨y, hy, hv'⟩ := a3 he
          exact ⟨y, hy, hv'.look (hst _)⟩
        · rcases (a4 he).2 y hy with ⟨b1, b2⟩ | ⟨b1, b2⟩
          · exact .inl ⟨b1, b2.look (hst _)⟩
          · exact .inr ⟨b1.look (hst _), fun t => by
              have := b2 t
              rw [← hst] at this
              exact this⟩

/-- The goal of such a region: from s, these operations still to do. -/
def RGo (C : Cx) (_id : Nat) (l : List Oper) (E : List Nat) (wob : List AObj) (i : Nat) (ops : List Oper) (s : St) (K : St → Prop) : Prop := ∃ s', RD C l E wob i ops s s' ∧ K s'

theorem SD.obEq {C : Cx} {all : Array Oper} {ops : List Oper} {s s' : St} (h : SD C all true ops s s') : s'.ob = s.ob := by
  obtain ⟨xs, _, h2, _⟩ := h.data
  rw [h2.2, stps_ob]
theorem RD.of_fix_ {C : Cx} {l : List Oper} {E : List Nat} {wob : List AObj} {rest : List Oper} {s' : St} {pu : Bool} {ops : List Oper} {s s1 : St} (h : SD C l.toArray pu ops s s1) : pu = true → ∀ {i : Nat}, (∀ j, j < ops.length → E.contains (i + j) = false ∧ FixedP l E (i + j)) → RD C l E wob (i + ops.length) rest s1 s' → RD C l E wob i (ops ++ rest) s s' := by
  induction h with
  | nil s => exact fun _ _ _ hr => hr
  | @vop o r s s1 x hg hd hv hh ih =>
    intro hpu i hf hr
    refine .fix hg hd (hf 0 (by simp)).1 (hf 0 (by simp)).2 hv (ih hpu (i := i + 1) (fun j hj => ?_) ?_)
    · rw [show i + 1 + j = i + (j + 1) by omega]; exact hf (j + 1) (by simpa using hj)
    · rw [show i + 1 + r.length = i + (o :: r).length by simp; omega]; exact hr
  | @skip o r s s1 hg hd hh ih =>
    intro hpu i hf hr
    refine .skip hg hd (hf 0 (by simp)).1 (ih hpu (i := i + 1) (fun j hj => ?_) ?_)
    · rw [show i + 1 + j = i + (j + 1) by omega]; exact hf (j + 1) (by simpa using hj)
    · rw [show i + 1 + r.length = i + (o :: r).length by simp; omega]; exact hr
  | eff hp => intro hpu; rw [hpu] at hp; cases hp
  | ghost hp => intro hpu; rw [hpu] at hp; cases hp
  | same hs hh ih => exact fun hpu _ hf hr => .same hs (ih hpu hf hr)
theorem RD.of_fix {C : Cx} {l : List Oper} {E : List Nat} {wob : List AObj} {ops rest : List Oper} {s s1 s' : St} (h : SD C l.toArray true ops s s1) {i : Nat} (hf : ∀ j, j < ops.length → E.contains (i + j) = false ∧ FixedP l E (i + j)) (hr : RD C l E wob (i + ops.length) rest s1 s') : RD C l E wob i (ops ++ rest) s s' :=
  RD.of_fix_ h rfl hf hr
theorem SD.keep {C : Cx} {all : Array Oper} {ops : List Oper} {s s' : St} (h : SD C all true ops s s') {t : Nat} (ht : ∀ o ∈ ops, o.dst ≠ some t) : lk s'.tm t = lk s.tm t := by
  obtain ⟨xs, h1, h2, _⟩ := h.data
  rw [h2.1, lk_stps_other s xs t fun p hp => ht p.1 (by rw [← h1]; exact List.mem_map_of_mem hp)]

def TmB (n : Nat) : List (Nat × X) → Prop
  | [] => True
  | (_, x) :: r => x.below n = true ∧ TmB n r
theorem TmB.lk {n : Nat} : ∀ {tm : List (Nat × X)}, TmB n tm → ∀ t, (lk tm t).below n = true
  | [], _, t => rfl
  | (k, x) :: r, h, t => by
    simp only [Go.Abs.lk]
    cases Nat.beq k t
    · exact TmB.lk h.2 t
    · exact h.1

section
variable {C : Cx} {r : List It} {Q : Exit → St → Prop} {tm : List (Nat × X)} {ob : List AObj} {id : Nat} {l : List Oper} {E : List Nat} {wob : List AObj} {i : Nat} {ops : List Oper} {K : St → Prop}
theorem qR_ (wob : List AObj) (E : List Nat) (ho : ordOK l = true) (hE : chainB (ancs l) E = true) (hn : C.base.n0 ≤ wob.length) (hw : Wk wob ob)
    (h : RGo C id l E wob 0 l ⟨tm, ob⟩ (fun s' => go C r s' Q)) : go C (.code (.region id l.toArray true) :: r) ⟨tm, ob⟩ Q := by
  intro a w hr
  obtain ⟨s', h1, h2⟩ := h
  obtain ⟨xs, obT, e1, e2, e3, e4, e5, e6⟩ := h1.data hw
  have hlen : xs.length = l.length := by rw [← e1]; simp
  have hget : ∀ i, i < l.length → ∃ o x, xs[i]? = some (o, x) := fun i hi => by
    have : i < xs.length := by omega
    exact ⟨xs[i].1, xs[i].2, List.getElem?_eq_getElem this⟩
  have hfin : ∀ a w, C.Rel ⟨(stps ⟨tm, ob⟩ xs).tm, obT l.length⟩ a w → C.Rel s' a w := by
    intro a w hr
    rw [e3] at hr
    exact StEq.rel (s := ⟨(stps ⟨tm, ob⟩ xs).tm, s'.ob⟩) (s' := s') ⟨fun t => (e4 t).symm, rfl⟩ hr
  refine wp_region_any C.E.hM ?_
  refine Dr.all (s := ⟨tm, ob⟩) (xs := xs) (obT := obT) (eff := fun i => E.contains i) e1 (ordOK_spec ho) (fun i hi he => ?_) (fun i j hij hj h3 h4 => ?_) (fun i o x hi => ⟨(e6 i o x hi).1, (e6 i o x hi).2.1⟩) (fun i o x he hi y hy => ?_) (fun i o x he hi => ?_) (fun a w hr => ⟨s', hfin a w hr, h2⟩) _ _ _ _ ?_ ⟨by simp, fun j o' ed ho' hL => ?_, tm, 0, Nat.zero_le _, fun i hi => by omega, fun i _ hi _ => ?_, ?_, fun t _ => rfl, fun j o' x t hj hL => ?_⟩
  · obtain ⟨o, x, hx⟩ := hget i hi
    exact ((e6 i o x hx).2.2.2 (by rw [Nat.zero_add]; exact he)).1
  · exact (fixedB_ok (List.all_eq_true.1 hE j (by simpa using h4)) i h3).1 hij
  · rcases ((e6 i o x hi).2.2.2 (by rw [Nat.zero_add]; exact he)).2 y hy with ⟨h3, h4⟩ | ⟨h3, h4⟩
    · rw [Nat.zero_add] at h3
      exact .inl ⟨fun e _ he' => h3 e he', h4⟩
    · exact .inr fun k hk => h3.wk (e5 k hk) hn h4
  · exact (e6 i o x hi).2.2.1 (by rw [Nat.zero_add]; exact he)
  · refine Nat.le_trans (List.length_filter_le _ _) ?_
    simp
  · exfalso
    by_cases hlt : j < l.length <;> simp [hlt] at hL
  · rw [Array.getD_eq_getD_getElem?, Array.getElem?_replicate]
    split <;> rfl
  · rw [e2]
    obtain ⟨F, σ, r1, r2, r3, hi, r4, r5, hs⟩ := hr
    have hext : Ext w F { w with drawn := w.drawn + 1 } F := ⟨⟨rfl, rfl, rfl, Nat.le_refl _, fun _ _ => rfl⟩, fun _ h => h, fun _ h => .inl h, hi.flt⟩
    exact ⟨F, σ, r1.step hext.below, r2, r3, hi.ext hext, r4, r5, fun t => (hs t).ext hext hi.flt⟩
  · exfalso
    by_cases hlt : j < l.length <;> simp [hlt] at hL
theorem qR0 (E : List Nat) (ho : ordOK l = true) (hE : chainB (ancs l) E = true) (hw : wkP (List.replicate C.base.n0 AObj.dead).length (List.replicate C.base.n0 AObj.dead) ob)
    (h : RGo C id l E (List.replicate C.base.n0 AObj.dead) 0 l ⟨tm, ob⟩ (fun s' => go C r s' Q)) : go C (.code (.region id l.toArray true) :: r) ⟨tm, ob⟩ Q := by
  have hn : C.base.n0 ≤ (List.replicate C.base.n0 AObj.dead).length := by simp
  intro a w hr
  obtain ⟨s', h1, h2⟩ := h
  refine qR_ _ E ho hE hn (Wk.mk' hw) ⟨s', h1, h2⟩ a w hr
theorem rgN (h : K ⟨tm, ob⟩) : RGo C id l E wob i [] ⟨tm, ob⟩ K := ⟨_, .nil _ _, h⟩
def rgFB (l : List Oper) (E : List Nat) (i n : Nat) : Bool := (List.range n).all fun j => fixedB (ancs l) E (i + j) && !E.contains (i + j)
/-- Operations that are apart from every effect in one way only. -/
theorem rgF (n : Nat) (hc : rgFB l E i n = true) (hn : Nat.ble n ops.length = true) (h : SGo C l.toArray true (ops.take n) ⟨tm, ob⟩ (fun s1 => RGo C id l E wob (i + n) (ops.drop n) ⟨s1.tm, ob⟩ K)) : RGo C id l E wob i ops ⟨tm, ob⟩ K := by
  obtain ⟨s1, h1, s', h2, h3⟩ := h
  have hlen : (ops.take n).length = n := by rw [List.length_take]; have := Nat.le_of_ble_eq_true hn; omega
  have e : s1 = ⟨s1.tm, ob⟩ := by have := h1.obEq; cases s1; simp at this; rw [this]
  refine ⟨s', ?_, h3⟩
  rw [← List.take_append_drop n ops]
  rw [← e] at h2
  refine RD.of_fix h1 (fun j hj => ?_) (by rw [hlen]; exact h2)
  have := List.all_eq_true.1 hc j (by rw [List.mem_range]; omega)
  rw [Bool.and_eq_true] at this
  exact ⟨by simpa using this.2, fixedB_ok this.1⟩
theorem rgX {o : Oper} {rest : List Oper} {x : X} {ob' : List AObj} (hne : E.contains i = true) (hg : guardX l.toArray tm o = some true) (hd : dstOK C o = true) (hv : EOp C ⟨tm, ob⟩ o x ob') (hw : wkP wob.length wob ob') (h : RGo C id l E wob (i + 1) rest ((⟨tm, ob'⟩ : St).put o.dst x) K) : RGo C id l E wob i (o :: rest) ⟨tm, ob⟩ K :=
  let ⟨s', h1, h2⟩ := h; ⟨s', .eff (guardX_ok hg) hd hne hv (Wk.mk' hw) h1, h2⟩
end
theorem Dats.look {E : Env} {tm tm' : List (Nat × X)} {ob : List AObj} {args : List Operand} {ds : List D} (h : Dats ⟨tm, ob⟩ E args ds) (he : ∀ z ∈ args, (⟨tm', ob⟩ : St).ev E z = (⟨tm, ob⟩ : St).ev E z) : Dats ⟨tm', ob⟩ E args ds := by
  induction h with
  | nil => exact .nil
  | cons h _ ih => exact .cons (by rw [he _ (by simp)]; exact h) (ih fun z hz => he z (by simp [hz]))
section
variable {C : Cx} {tm : List (Nat × X)} {ob : List AObj} {id : Nat} {l : List Oper} {E : List Nat} {wob : List AObj} {i : Nat} {rest : List Oper} {K : St → Prop} {o : Oper} {d : Nat} {p : Prop} {x : X}
theorem fw_same {y x : X} {p : Prop} (h : fw y = some (p, x)) : y = x := (fw_eq h).symm
theorem rgStore {t ty : TypeId} {y z : Operand} {j off : Nat} {c : VC} {e : TE} (hne : E.contains i = true) (ho : o.op = .store t y z) (hg : guardX l.toArray tm o = some true) (hdst : o.dst = none) (hy : (⟨tm, ob⟩ : St).ev C.E y = .ptr j off) (hz : fw ((⟨tm, ob⟩ : St).ev C.E z) = some (p, x)) (hh : x.held = true) (hob : ob[j]? = some (.var ty c))
    (he : findT C.E.T t = some e) (hsz : Nat.beq x.cells.length e.size = true) (hle : Nat.ble (off + x.cells.length) c.cells.length = true) (hw : wkP wob.length wob (ob.set j (.var ty (storeC c off x)))) (h : RGo C id l E wob (i + 1) rest ⟨tm, ob.set j (.var ty (storeC c off x))⟩ K) : RGo C id l E wob i (o :: rest) ⟨tm, ob⟩ K := by
  refine rgX (x := .und) (ob' := ob.set j (.var ty (storeC c off x))) hne hg (by simp only [dstOK, hdst]) (fun tm' hev => ?_) hw (by rw [hdst]; exact h)
  rw [hdst]
  have e1 := hev y (by simp [ho, Op.operands])
  have e2 := hev z (by simp [ho, Op.operands])
  exact s_store (s := ⟨tm', ob⟩) ho hdst (e1.trans hy) (e2.trans (fw_same hz)) hh hob he hsz hle
theorem rgAlloc {t : TypeId} {e : TE} (hne : E.contains i = true) (ho : o.op = .alloc t) (hg : guardX l.toArray tm o = some true) (hdst : o.dst = some d) (hd : Nat.blt d C.N = true) (he : findT C.E.T t = some e) (h1z : oneAll e.zero.cells.toList = true)
    (hw : wkP wob.length wob (ob ++ [.var t (.cs (e.zero.cells.toList.map ofConst))])) (h : RGo C id l E wob (i + 1) rest ⟨(d, .ptr ob.length 0) :: tm, ob ++ [.var t (.cs (e.zero.cells.toList.map ofConst))]⟩ K) : RGo C id l E wob i (o :: rest) ⟨tm, ob⟩ K := by
  have hdk : dstOK C o = true := by simp only [dstOK, hdst]; exact hd
  refine rgX (x := .ptr ob.length 0) (ob' := ob ++ [.var t (.cs (e.zero.cells.toList.map ofConst))]) hne hg hdk (fun tm' hev => ?_) hw (by rw [hdst]; exact h)
  exact s_alloc (s := ⟨tm', ob⟩) ho he h1z hdk
theorem rgBox {t : TypeId} {y : Operand} (hne : E.contains i = true) (ho : o.op = .box t y) (hg : guardX l.toArray tm o = some true) (hdst : o.dst = some d) (hd : Nat.blt d C.N = true) (hx : fw ((⟨tm, ob⟩ : St).ev C.E y) = some (p, x)) (hh : x.held = true)
    (hw : wkP wob.length wob (ob ++ [.var t (.w x)])) (h : RGo C id l E wob (i + 1) rest ⟨(d, .ptr ob.length 0) :: tm, ob ++ [.var t (.w x)]⟩ K) : RGo C id l E wob i (o :: rest) ⟨tm, ob⟩ K := by
  have hdk : dstOK C o = true := by simp only [dstOK, hdst]; exact hd
  refine rgX (x := .ptr ob.length 0) (ob' := ob ++ [.var t (.w x)]) hne hg hdk (fun tm' hev => ?_) hw (by rw [hdst]; exact h)
  exact s_box (s := ⟨tm', ob⟩) ho ((hev y (by simp [ho, Op.operands])).trans (fw_same hx)) hh hdk
theorem rgStoreP {t te : TypeId} {y z : Operand} {k j off size : Nat} {xs : List D} {e : D} {tt : TE} (d0 : D) (hne : E.contains i = true) (ho : o.op = .store t y z) (hg : guardX l.toArray tm o = some true) (hdst : o.dst = none) (hy : (⟨tm, ob⟩ : St).ev C.E y = .pel k j off size) (hz : toD ((⟨tm, ob⟩ : St).ev C.E z) = some e)
    (hob : ob[k]? = some (.row te size xs)) (hd : xs[j]? = some d0) (he : findT C.E.T t = some tt) (hsz : Nat.beq e.cells.length tt.size = true) (hle : Nat.ble (off + e.cells.length) d0.cells.length = true) (hw : wkP wob.length wob (ob.set k (.row te size (xs.set j (subD d0 off e)))))
    (h : RGo C id l E wob (i + 1) rest ⟨tm, ob.set k (.row te size (xs.set j (subD d0 off e)))⟩ K) : RGo C id l E wob i (o :: rest) ⟨tm, ob⟩ K := by
  refine rgX (x := .und) (ob' := ob.set k (.row te size (xs.set j (subD d0 off e)))) hne hg (by simp only [dstOK, hdst]) (fun tm' hev => ?_) hw (by rw [hdst]; exact h)
  rw [hdst]
  have e1 := hev y (by simp [ho, Op.operands])
  have e2 := hev z (by simp [ho, Op.operands])
  exact s_storeP (s := ⟨tm', ob⟩) ho hdst (e1.trans hy) ((congrArg toD e2).trans hz) hob hd he hsz hle
theorem sop2_look {tm2 tm' : List (Nat × X)} {ob' : List AObj} (h : sop2 C o tm ob = some (p, tm', ob')) (he : ∀ z ∈ o.op.operands.toList, (⟨tm2, ob⟩ : St).ev C.E z = (⟨tm, ob⟩ : St).ev C.E z) :
    ∃ d x, o.dst = some d ∧ tm' = (d, x) :: tm ∧ sop2 C o tm2 ob = some (p, (d, x) :: tm2, ob') := by
  unfold sop2 at h ⊢
  split at h
  · rename_i t y z ho
    have e1 := he y (by simp [ho, Op.operands])
    have e2 := he z (by simp [ho, Op.operands])
    simp only [ho] at *
    split at h
    · rename_i d te ky n kz m hdst hte hy hz
      rw [hdst, hte, e1, e2, hy, hz]
      try simp only
      split at h
      · rename_i zd hzd
        cases hb : Nat.blt d C.N && (oneAll te.zero.cells.toList && Nat.beq te.zero.cells.size te.size) with
        | false => rw [hb] at h; cases h
        | true =>
          rw [hb] at h
          simp only [cond_true, Option.some.injEq, Prod.mk.injEq] at h
          obtain ⟨rfl, rfl, rfl⟩ := h
          exact ⟨_, _, rfl, rfl, rfl⟩
      · cases h
    · cases h
  · rename_i c ho
    obtain ⟨ce, args, tys⟩ := c
    obtain ⟨args⟩ := args
    obtain ⟨tys⟩ := tys
    simp only [ho] at *
    split at h
    · split at h
      · rename_i d y z t t' hdst
        have e1 := he y (by simp [Op.operands, Call.operands])
        have e2 := he z (by simp [Op.operands, Call.operands])
        rw [hdst]
        try simp only
        split at h
        · rename_i te ys hte hz
          rw [hte, e1, e2, hz]
          try simp only
          split at h
          · rename_i oi xs hown
            cases hb : Nat.blt d C.N && (Nat.beq t t' && (Nat.beq te.zero.cells.size te.size && Nat.blt 0 te.size)) with
            | false => rw [hb] at h; cases h
            | true =>
              rw [hb] at h
              simp only [cond_true, Option.some.injEq, Prod.mk.injEq] at h
              obtain ⟨rfl, rfl, rfl⟩ := h
              exact ⟨_, _, rfl, rfl, rfl⟩
          · cases h
        · cases h
      · cases h
    · cases h
  · cases h
/-- A row is made, or grows. -/
theorem rgS {tm' : List (Nat × X)} {ob' : List AObj} (hne : E.contains i = true) (hg : guardX l.toArray tm o = some true) (hd : dstOK C o = true) (hs : sop2 C o tm ob = some (p, tm', ob')) (hp : p) (hw : wkP wob.length wob ob') (h : RGo C id l E wob (i + 1) rest ⟨tm', ob'⟩ K) : RGo C id l E wob i (o :: rest) ⟨tm, ob⟩ K := by
  obtain ⟨d, x, hdst, rfl, -⟩ := sop2_look (tm2 := tm) hs fun _ _ => rfl
  refine rgX (x := x) (ob' := ob') hne hg hd (fun tm2 hev => ?_) hw (by rw [hdst]; exact h)
  obtain ⟨d', x', hdst', e, h2⟩ := sop2_look (tm2 := tm2) hs hev
  rw [hdst] at hdst'
  cases hdst'
  cases e
  rw [hdst]
  exact sop2_ok h2 hp
end
end Go.Abs

/- Calls that are handed objects: data handed back; such calls in a region whose order is drawn. Conditions: each rule's own. -/
namespace Go.Abs
open Go Go.RowKit

/-- What the result variables read as. -/
def ResD (C : Cx) (fn : Func) (s : St) (rx : X) : Prop := (∃ q d, fn.results = #[q] ∧ resX C s q = some d ∧ rx = .d d) ∨ ∃ q q' d d', fn.results = #[q, q'] ∧ resX C s q = some d ∧ resX C s q' = some d' ∧ rx = .tup [d, d']
theorem ResD.run {C : Cx} {fn : Func} {s : St} {rx : X} {F : Nat → Prop} {σ σ' : Sg} {w : World} {a : Act} (h : ResD C fn s rx) (hi : WInv C.E C.base F σ s.ob w) (hs : ∀ t, RdX w F σ (lk s.tm t) (a.tmps.getD t undef)) :
    ∃ v, (results fn a.tmps).run C.E.P w = .ok v w ∧ RdX w F σ' rx v := by
  rcases h with ⟨q, d, hr, h, rfl⟩ | ⟨q, q', d, d', hr, h, h', rfl⟩
  · obtain ⟨v, h1, h2⟩ := resX_run hi hs h
    exact ⟨v, by rw [results_eq, hr]; simp [h1], h2⟩
  · obtain ⟨v, h1, h2⟩ := resX_run hi hs h
    obtain ⟨v', h1', h2'⟩ := resX_run hi hs h'
    refine ⟨.tuple #[v, v'], by rw [results_eq, hr]; simp [h1, h1'], [v, v'], rfl, rfl, fun i x u hx hu => ?_⟩
    match i with
    | 0 => simp at hx hu; subst hx hu; exact h2
    | 1 => simp at hx hu; subst hx hu; exact h2'
    | i + 2 => simp at hx
section
variable {C : Cx} {r : List It} {fn : Func} {tm : List (Nat × X)} {ob ob' : List AObj}
end
section
variable {C : Cx} {tm : List (Nat × X)} {ob : List AObj} {id : Nat} {l : List Oper} {E : List Nat} {wob : List AObj} {i : Nat} {rest : List Oper} {K : St → Prop} {o : Oper} {d : Nat}
end
end Go.Abs

/- A row that grew out of nil, given up as data. Conditions: each rule's own. -/
namespace Go.Abs
open Go Go.RowKit

/-- A row that grows out of nil, with a number of its own. -/
def rowK (k : Nat) : List D → X
  | [] => .nilS
  | _ :: _ => .own k
theorem frzX_below {k : Nat} {xs : List D} {x : X} (h : x.below k = true) : frzX k xs x = x := by
  cases x with
  | own i =>
    have : ¬ i = k := by have : i < k := by simpa [X.below] using h
                         omega
    simp only [frzX]
    rw [show Nat.beq i k = false by rw [← Bool.not_eq_true]; exact fun e => this (Nat.eq_of_beq_eq_true e)]
    rfl
  | pel i j off z =>
    have : ¬ i = k := by have : i < k := by simpa [X.below] using h
                         omega
    simp only [frzX]
    rw [show Nat.beq i k = false by rw [← Bool.not_eq_true]; exact fun e => this (Nat.eq_of_beq_eq_true e)]
    rfl
  | st cs =>
    simp only [frzX]
    congr 1
    have : ∀ c ∈ cs, frzP k xs c = c := fun c hc => by
      have h1 := List.all_eq_true.1 h c hc
      cases c with
      | own i =>
        have : ¬ i = k := by have : i < k := by simpa using h1
                             omega
        simp only [frzP]
        rw [show Nat.beq i k = false by rw [← Bool.not_eq_true]; exact fun e => this (Nat.eq_of_beq_eq_true e)]
        rfl
      | _ => rfl
    rw [List.map_congr_left this]
    simp
  | _ => rfl
theorem frzO_below {k : Nat} {xs : List D} {x : AObj} (h : x.below k = true) : frzO k xs x = x := by
  cases x with
  | var t c =>
    simp only [frzO]
    congr 1
    cases c with
    | w y =>
      simp only [frzC]
      congr 1
      cases y with
      | d d => rfl
      | _ => exact frzX_below (List.all_eq_true.1 h _ (by simp [VC.cells, X.cells]))
    | cs l =>
      simp only [frzC]
      congr 1
      have : ∀ y ∈ l, frzX k xs y = y := fun y hy => frzX_below (List.all_eq_true.1 h y hy)
      rw [List.map_congr_left this]
      simp
  | _ => rfl
theorem Le.rowD {C : Cx} {t k : Nat} {te : TypeId} {size : Nat} {ys : List D} {tm : List (Nat × X)} {ob : List AObj} (hk : ob.length = k) (h0 : C.base.n0 ≤ k) (hT : ∀ u, (lk tm u).below k = true) (hO : ∀ x ∈ ob, x.below k = true) :
    Le C ⟨(t, rowK k ys) :: tm, ob ++ rowO te size ys⟩ ⟨(t, .d (.sl ys)) :: tm, ob⟩ := by
  intro a w hr
  cases ys with
  | nil =>
    obtain ⟨F, σ, h1, h2, h3, hi, h4, h5, hs⟩ := hr
    refine ⟨F, σ, h1, h2, h3, by simpa [rowO] using hi, h4, h5, fun u => ?_⟩
    have := hs u
    simp only [lk] at this ⊢
    cases hb : Nat.beq t u with
    | true =>
      rw [hb] at this
      have hv : a.tmps.getD u undef = .slice none 0 0 := this
      rw [hv]
      exact Rd.slnil
    | false => rw [hb] at this; exact this
  | cons y ys =>
    simp only [rowK, rowO] at hr
    have hob : (ob ++ [AObj.row te size (y :: ys)])[k]? = some (.row te size (y :: ys)) := by rw [← hk]; simp
    have hf : frz k ⟨(t, .own k) :: tm, ob ++ [AObj.row te size (y :: ys)]⟩ = some ⟨frzT k (y :: ys) ((t, .own k) :: tm), ((ob ++ [AObj.row te size (y :: ys)]).map (frzO k (y :: ys))).set k .dead⟩ := by
      unfold frz
      simp only [hob]
    obtain ⟨F, σ, h1, h2, h3, hi, h4, h5, hs⟩ := frz_le k hf a w hr
    have hwk : Wk ob (((ob ++ [AObj.row te size (y :: ys)]).map (frzO k (y :: ys))).set k .dead) := by
      refine ⟨by simp, fun i x hx _ => ?_⟩
      have hlt : i < k := by rw [← hk]; exact (List.getElem?_eq_some_iff.1 hx).1
      have hm := List.mem_of_getElem? hx
      refine ⟨?_, by rw [hk]; exact hO x hm⟩
      rw [List.getElem?_set_ne (by omega), List.getElem?_map, List.getElem?_append_left (by omega), hx, Option.map_some, frzO_below (hO x hm)]
    refine ⟨F, σ.take ob.length, h1, h2, h3, hi.wk hwk (by omega), h4, h5, fun u => ?_⟩
    have := hs u
    rw [lk_frz] at this
    simp only [lk] at this ⊢
    cases hb : Nat.beq t u with
    | true =>
      rw [hb] at this
      simp only [cond_true, frzX] at this
      rw [show Nat.beq k k = true by simp] at this
      exact this
    | false =>
      rw [hb] at this
      simp only [cond_false] at this ⊢
      rw [frzX_below (hT u)] at this
      rw [hk]
      exact this.take (hT u)
section
variable {C : Cx} {r : List It} {Q : Exit → St → Prop} {tm : List (Nat × X)} {ob : List AObj}
end
end Go.Abs

/- Laws whose statement bears a bound on how much is read. Conditions: each theorem's own. -/
namespace Go.Abs
open Go Go.RowKit Go.ChangeShapes Go.WideShapes

end Go.Abs

/- Short names for the steps of a walk whose premises say themselves. Conditions: none. -/
namespace Go.Abs
open Go
section
variable {C : Cx} {all : Array Oper} {pu : Bool} {K : St → Prop} {rest : List Oper} {o : Oper} {tm tm' : List (Nat × X)} {ob ob' : List AObj} {r : List It} {s : St} {Q : Exit → St → Prop}
theorem zS {p : Prop} (hv : stepY C all pu o tm ob = some (p, tm', ob')) (h : SGo C all pu rest ⟨tm', ob'⟩ K)
    (hp : p := by first | exact True.intro | rfl | assumption | omega | (simp only [inR]; omega) | ((show _ ≤ (9223372036854775807 : Nat)); (try simp only [ByteArray.size_append]); omega) | exact tmod_ok (by omega) (by omega) | exact tdiv_ok (by omega) (by omega) | exact ⟨rfl, by decide, by decide⟩) :
    SGo C all pu (o :: rest) ⟨tm, ob⟩ K := qS hv hp h
theorem zT {c : Operand} {x y : Code} {b : Bool} (hc : s.ev C.E c = .d (.imm (.bool b))) (ht : go C (.code x :: r) s Q) (hb : b = true := by first | rfl | assumption) : go C (.code (.cond c x y) :: r) s Q := qT hc hb ht
theorem zU {c : Operand} {x y : Code} {b : Bool} (hc : s.ev C.E c = .d (.imm (.bool b))) (hf : go C (.code y :: r) s Q) (hb : b = false := by first | rfl | assumption) : go C (.code (.cond c x y) :: r) s Q := qU hc hb hf
theorem zX {j t : Nat} {pol b : Bool} {q : Oper} (hg : o.guard = some (j, pol)) (hj : all[j]? = some q) (hq : q.dst = some t) (hb : lk tm t = .d (.imm (.bool b)))
    (h : SGo C all pu (o :: rest) ⟨(t, .d (.imm (.bool true))) :: tm, ob⟩ K) (he : b = true := by assumption) : SGo C all pu (o :: rest) ⟨tm, ob⟩ K := qX hg hj hq hb he h
theorem zW {j t : Nat} {pol b : Bool} {q : Oper} (hg : o.guard = some (j, pol)) (hj : all[j]? = some q) (hq : q.dst = some t) (hb : lk tm t = .d (.imm (.bool b)))
    (h : SGo C all pu (o :: rest) ⟨(t, .d (.imm (.bool false))) :: tm, ob⟩ K) (he : b = false := by assumption) : SGo C all pu (o :: rest) ⟨tm, ob⟩ K := qX hg hj hq hb he h
end
theorem zD {d : D} : d = d := rfl
theorem zL {l : List D} : l = l := rfl
theorem zle {C : Cx} {tm tm' : List (Nat × X)} {ob ob' : List AObj} (n : Nat) (hn : Nat.ble C.base.n0 n = true := by exact rfl) (hob : ob' = ob.take n := by exact rfl)
    (ht : TmLe tm n tm' := by repeat (first | exact trivial | refine ⟨⟨rfl, rfl⟩, ?_⟩)) (ho : ObLe n ob' := by repeat (first | exact trivial | refine ⟨rfl, ?_⟩)) : Le C ⟨tm, ob⟩ ⟨tm', ob'⟩ := Le.of' n hn hob ht ho
theorem zren {C : Cx} {tm tm' : List (Nat × X)} {ob ob' : List AObj} (ks : List Nat) (hn : nodupB ks = true := by exact rfl) (hk0 : ((List.range C.base.n0).all fun i => ks[i]? == some i) = true := by exact rfl)
    (hob : renObs ks ob ks = some ob' := by exact rfl) (ht : TmRen tm ks tm' := by repeat (first | exact trivial | refine ⟨rfl, ?_⟩)) : Le C ⟨tm, ob⟩ ⟨tm', ob'⟩ := Le.ren ks hn hk0 hob ht
end Go.Abs

/- In a region whose order is drawn: a literal of a slice as a row of the call's own, and an append whose row is given up as data at once. Conditions: each rule's own. -/
namespace Go.Abs
open Go Go.RowKit

theorem RdX.isBelow {w : World} {F : Nat → Prop} {σ : Sg} {x : X} {v : Value} (h : RdX w F σ x v) : x.below σ.length = true := by
  have key : ∀ (o : Nat) (p : Nat × Nat × Nat), σ[o]? = some p → Nat.blt o σ.length = true := fun o p h => by
    have := (List.getElem?_eq_some_iff.1 h).1
    simpa using this
  have caps : ∀ (cs : List Cap) (us : List Value), cs.length = us.length → (∀ (i : Nat) c u, cs[i]? = some c → us[i]? = some u → CapRd w F σ c u) → ∀ c ∈ cs, c.x.below σ.length = true := by
    intro cs us hl hr c hc
    obtain ⟨i, hi, he⟩ := List.mem_iff_getElem.1 hc
    have h1 := hr i c us[i] (by rw [← he]; exact List.getElem?_eq_getElem hi) (List.getElem?_eq_getElem (by omega))
    cases c with
    | d x => rfl
    | ptr o off => obtain ⟨b, c, n, h2, -⟩ := h1; exact key _ _ h2
    | own o => obtain ⟨b, c, n, h2, -⟩ := h1; exact key _ _ h2
  cases x with
  | ptr o off => obtain ⟨b, c, n, h1, -⟩ := h; exact key _ _ h1
  | own o => obtain ⟨b, c, n, h1, -⟩ := h; exact key _ _ h1
  | mp o => obtain ⟨b, c, n, h1, -⟩ := h; exact key _ _ h1
  | pel o i off size => obtain ⟨b, c, n, h1, -⟩ := h; exact key _ _ h1
  | clo f cs =>
    obtain ⟨us, -, hl, hr⟩ := h
    refine List.all_eq_true.2 fun c hc => ?_
    have := caps cs us hl hr c hc
    cases c with
    | d x => rfl
    | ptr o off => exact this
    | own o => exact this
  | bnd f cs =>
    obtain ⟨us, -, hl, hr⟩ := h
    refine List.all_eq_true.2 fun c hc => ?_
    have := caps cs us hl hr c hc
    cases c with
    | d x => rfl
    | ptr o off => exact this
    | own o => exact this
  | st cs =>
    obtain ⟨us, -, hl, -, hr⟩ := h
    refine List.all_eq_true.2 fun c hc => ?_
    have := caps cs us hl hr c hc
    cases c with
    | d x => rfl
    | ptr o off => exact this
    | own o => exact this
  | _ => rfl
theorem Cx.Rel.tmBelow {C : Cx} {s : St} {a : Act} {w : World} (h : C.Rel s a w) (t : Nat) : (lk s.tm t).below s.ob.length = true := by
  obtain ⟨F, σ, -, -, -, hi, -, -, hs⟩ := h
  rw [← hi.len]
  exact (hs t).isBelow
theorem ObLe.all {n : Nat} : ∀ {l : List AObj}, ObLe n l → ∀ x ∈ l, x.below n = true
  | a :: r, h, x, hx => by
    rcases List.mem_cons.1 hx with rfl | hx
    · exact h.1
    · exact ObLe.all h.2 x hx
theorem EOp.data {C : Cx} {tm : List (Nat × X)} {ob ob1 : List AObj} {o : Oper} {d : Nat} {te : TypeId} {size : Nat} {xs : List D} (hdst : o.dst = some d) (h0 : C.base.n0 ≤ ob1.length) (hlen : ob1.length = ob.length) (hO : ∀ x ∈ ob1, x.below ob1.length = true) (hx : xs ≠ [])
    (h : EOp C ⟨tm, ob⟩ o (.own ob1.length) (ob1 ++ [.row te size xs])) : EOp C ⟨tm, ob⟩ o (.d (.sl xs)) ob1 := by
  intro tm' hev w a K Q hrel hK
  refine h tm' hev w a K Q hrel fun a' w' hr' => hK a' w' ?_
  rw [hdst] at hr' ⊢
  cases xs with
  | nil => exact absurd rfl hx
  | cons y ys => exact Le.rowD (k := ob1.length) (ys := y :: ys) rfl h0 (fun u => by rw [hlen]; exact hrel.tmBelow u) hO a' w' hr'









section
variable {C : Cx} {r : List It} {Q : Exit → St → Prop} {tm : List (Nat × X)} {ob : List AObj} {id : Nat} {l : List Oper} {E : List Nat} {wob : List AObj} {i : Nat} {ops : List Oper} {K : St → Prop}
end
section
variable {C : Cx} {tm : List (Nat × X)} {ob : List AObj} {id : Nat} {l : List Oper} {E : List Nat} {wob : List AObj} {i : Nat} {rest : List Oper} {K : St → Prop} {o : Oper} {d : Nat} {p : Prop} {x : X}
end
end Go.Abs

/- Drawn regions in which one operation calls a function that is handed objects and leaves them as they are; shifts, masks and sums of signed words. Conditions: each operation's own. -/
namespace Go.Abs
open Go Go.RowKit

/-- Memory after an operation that leaves the objects where they lie and as they are said to be. -/
structure Kp (C : Cx) (ob : List AObj) (σ : Sg) (w : World) (F : Nat → Prop) (w' : World) (F' : Nat → Prop) : Prop where
  kept : Kept C.O C.w0 w'
  more : ∀ b, F b → F' b
  new : ∀ b, F' b → F b ∨ ¬ C.O b
  same : ∀ b, F b → w'.heap[b]? = w.heap[b]?
  inv : WInv C.E C.base F' σ ob w'
theorem Kp.of_ext {C : Cx} {ob : List AObj} {σ : Sg} {w w' : World} {F F' : Nat → Prop} (h1 : Kept C.O C.w0 w) (hi : WInv C.E C.base F σ ob w) (he : Ext w F w' F') : Kp C ob σ w F w' F' :=
  ⟨h1.step he.below, he.more, fun b hb => (he.new b hb).imp id h1.new, he.keep hi.flt, hi.ext he⟩
/-- An operation that yields a value and leaves the objects as they are said to be. -/
def POp (C : Cx) (s : St) (o : Oper) (x : X) : Prop :=
  ∀ (F : Nat → Prop) (σ : Sg) (w : World) (a : Act) (K : Act → World → Prop) (Q : Exit → Act → World → Prop), Kept C.O C.w0 w → WInv C.E C.base F σ s.ob w →
    (∀ y ∈ o.op.operands.toList, RdX w F σ (s.ev C.E y) (a.eval y)) →
    (∀ v w' F', Kp C s.ob σ w F w' F' → RdX w' F' σ x v → K (a.put o.dst v) w') → o.wp C.E.P a w K Q
theorem VOp.pop {C : Cx} {s : St} {o : Oper} {x : X} (h : VOp C s o x) : POp C s o x :=
  fun F σ w a K Q h1 hi hr hK => h F σ w a K Q hi hr fun v w' F' he hv => hK v w' F' (Kp.of_ext h1 hi he) hv
theorem StEq.pop {C : Cx} {s s' : St} (h : StEq s s') {o : Oper} {x : X} (hv : POp C s o x) : POp C s' o x := by
  intro F σ w a K Q h1 hi ho hK
  refine hv F σ w a K Q h1 (by rw [← h.2]; exact hi) (fun y hy => ?_) (fun v w' F' hk hx => hK v w' F' (by rw [h.2]; exact hk) hx)
  rw [← h.ev]
  exact ho y hy


section
variable {C : Cx} {s : St} {o : Oper}
end
section
variable {C : Cx} {s : St} {o : Oper}
end
/-- Operations that stand in no order: plain ones, and calls that leave the objects as they are. -/
inductive SP (C : Cx) (all : Array Oper) : List Oper → St → St → Prop
  | nil (s : St) : SP C all [] s s
  | seg {pre rest : List Oper} {s s1 s' : St} (h : SD C all true pre s s1) (hr : SP C all rest s1 s') : SP C all (pre ++ rest) s s'
  | pop {o : Oper} {rest : List Oper} {s s' : St} {x : X} (hg : o.guard = none) (hd : dstOK C o = true) (hv : POp C s o x) (hr : SP C all rest (s.put o.dst x) s') : SP C all (o :: rest) s s'
theorem SP.data {C : Cx} {all : Array Oper} {ops : List Oper} {s s' : St} (h : SP C all ops s s') :
    ∃ xs : List (Oper × Option X), xs.map (·.1) = ops ∧ StEq (stps s xs) s' ∧ ∀ (i : Nat) o x, xs[i]? = some (o, x) → dstOK C o = true ∧ GuardIs all (stps s (xs.take i)) o x.isSome ∧ ∀ y, x = some y → POp C (stps s (xs.take i)) o y := by
  induction h with
  | nil s => exact ⟨[], rfl, StEq.refl _, fun i o x h => by simp at h⟩
  | @seg pre rest s s1 s' h hr ih =>
    obtain ⟨xs1, e1, q1, v1⟩ := h.data
    obtain ⟨xs2, e2, q2, v2⟩ := ih
    refine ⟨xs1 ++ xs2, by simp [e1, e2], by rw [stps_append]; exact (q1.stps xs2).trans q2, fun i o x hi => ?_⟩
    rcases Nat.lt_or_ge i xs1.length with hlt | hge
    · rw [List.getElem?_append_left hlt] at hi
      rw [List.take_append_of_le_length (by omega)]
      obtain ⟨a1, a2, a3⟩ := v1 i o x hi
      exact ⟨a1, a2, fun y hy => (a3 y hy).pop⟩
    · obtain ⟨m, rfl⟩ : ∃ m, i = xs1.length + m := ⟨i - xs1.length, by omega⟩
      rw [List.getElem?_append_right (by omega), Nat.add_sub_cancel_left] at hi
      rw [List.take_length_add_append, stps_append]
      obtain ⟨a1, a2, a3⟩ := v2 m o x hi
      have hss := (q1.stps (xs2.take m)).symm
      exact ⟨a1, hss.guard a2, fun y hy => hss.pop (a3 y hy)⟩
  | @pop o rest s s' x hg hd hv hr ih =>
    obtain ⟨xs, h1, h2, h3⟩ := ih
    refine ⟨(o, some x) :: xs, by simp [h1], h2, fun i o' x' hi => ?_⟩
    cases i with
    | zero =>
      simp at hi
      obtain ⟨rfl, rfl⟩ := hi
      exact ⟨hd, by unfold GuardIs; rw [hg]; rfl, fun y hy => by cases hy; exact hv⟩
    | succ i => exact h3 i o' x' (by simpa using hi)
section
variable {C : Cx} {r : List It} {s : St} {Q : Exit → St → Prop} {all : Array Oper} {K : St → Prop} {id i : Nat}
end

section
variable {C : Cx} {s : St} {o : Oper}
end
section
variable {C : Cx} {K : St → Prop} {all : Array Oper} {rest : List Oper} {tm : List (Nat × X)} {ob : List AObj} {d : Nat} {o : Oper}
end

section
variable {C : Cx} {r : List It} {Q : Exit → St → Prop} {tm : List (Nat × X)} {ob : List AObj}
end

/-! ## Signed words -/
section
variable {C : Cx} {K : St → Prop} {all : Array Oper} {rest : List Oper} {tm : List (Nat × X)} {ob : List AObj} {d : Nat} {pu : Bool} {o : Oper}
end
end Go.Abs

/- Struct values some of whose cells are rows of the call's own, or variables' addresses: how they are built and put into a variable. Conditions: each operation's own. -/
namespace Go.Abs
open Go Go.RowKit

/-- The cells of what a slot holds, as parts of a struct. -/
def capsOf : X → Option (List Cap)
  | .d d => some (d.cells.map Cap.d)
  | .nilS => some [.d (.sl [])]
  | .own o => some [.own o]
  | .ptr o off => some [.ptr o off]
  | .st cs => some cs
  | _ => none
theorem capsOf_ok {w : World} {F : Nat → Prop} {σ : Sg} {x : X} {v : Value} {ds : List Cap} (h : capsOf x = some ds) (hv : RdX w F σ x v) :
    v.cells.size = ds.length ∧ (∀ (i : Nat) c u, ds[i]? = some c → v.cells.toList[i]? = some u → CapRd w F σ c u) ∧ ∀ u ∈ v.cells.toList, u.oneCell' = true := by
  have one : v.oneCell' = true → ∀ c, CapRd w F σ c v → v.cells.size = [c].length ∧ (∀ (i : Nat) c' u, [c][i]? = some c' → v.cells.toList[i]? = some u → CapRd w F σ c' u) ∧ ∀ u ∈ v.cells.toList, u.oneCell' = true := by
    intro h1 c hc
    have hvc : v.cells = #[v] := by cases v <;> simp_all [Value.oneCell', Value.cells]
    rw [hvc]
    refine ⟨rfl, fun i c' u hi hu => ?_, by simpa using h1⟩
    cases i with
    | zero => simp at hi hu; subst hi hu; exact hc
    | succ i => simp at hi
  cases x with
  | d d =>
    simp only [capsOf] at h
    cases h
    obtain ⟨a1, a2, a3⟩ := RdX.cells_ (x := .d d) hv rfl
    refine ⟨by simpa [X.cells] using a1, fun i c u hi hu => ?_, a2⟩
    rw [List.getElem?_map, Option.map_eq_some_iff] at hi
    obtain ⟨e, he, rfl⟩ := hi
    exact a3 i (.d e) u (by simp [X.cells, he]) hu
  | nilS =>
    simp only [capsOf] at h
    cases h
    refine one (by rw [show v = _ from hv]; rfl) _ ?_
    rw [show v = .slice none 0 0 from hv]
    exact Rd.slnil
  | own o =>
    simp only [capsOf] at h
    cases h
    refine one ?_ _ hv
    obtain ⟨b, c, n, -, rfl⟩ := hv
    rfl
  | ptr o off =>
    simp only [capsOf] at h
    cases h
    refine one ?_ _ hv
    obtain ⟨b, c, n, -, rfl⟩ := hv
    rfl
  | st cs =>
    simp only [capsOf] at h
    cases h
    obtain ⟨us, rfl, hl, h1, hr⟩ := hv
    exact ⟨by simpa [Value.cells] using hl.symm, fun i c u hi hu => hr i c u hi (by simpa [Value.cells] using hu), fun u hu => h1 u (by simpa [Value.cells] using hu)⟩
  | _ => simp [capsOf] at h
structure CellsP (w : World) (F : Nat → Prop) (σ : Sg) (vs : List Value) (cs : List Cap) : Prop where
  len : cs.length = vs.length
  one : ∀ v ∈ vs, v.oneCell' = true
  rd : ∀ (i : Nat) c v, cs[i]? = some c → vs[i]? = some v → CapRd w F σ c v
def setAllC : List Cap → Nat → List Cap → List Cap
  | cs, _, [] => cs
  | cs, k, d :: r => setAllC (cs.set k d) (k + 1) r
theorem setAllC_spec : ∀ (r cs : List Cap) (k : Nat), k + r.length ≤ cs.length → setAllC cs k r = cs.take k ++ r ++ cs.drop (k + r.length)
  | [], cs, k, _ => by simp [setAllC]
  | d :: r, cs, k, h => by
    simp only [setAllC]
    simp only [List.length_cons] at h
    rw [setAllC_spec r (cs.set k d) (k + 1) (by simp; omega)]
    have e1 : (cs.set k d).take (k + 1) = cs.take k ++ [d] := by
      rw [List.take_succ_eq_append_getElem (by simp; omega), List.take_set_of_le (Nat.le_refl _)]
      simp
    have e2 : (cs.set k d).drop (k + 1 + r.length) = cs.drop (k + (d :: r).length) := by
      rw [List.drop_set_of_lt (by omega)]
      simp only [List.length_cons]
      congr 1
      omega
    rw [e1, e2]
    simp
theorem CellsP.set_ {w : World} {F : Nat → Prop} {σ : Sg} {vs : List Value} {cs ds : List Cap} {v : Value} {off : Nat} (h : CellsP w F σ vs cs) (a1 : v.cells.size = ds.length)
    (a2 : ∀ (i : Nat) c u, ds[i]? = some c → v.cells.toList[i]? = some u → CapRd w F σ c u) (a3 : ∀ u ∈ v.cells.toList, u.oneCell' = true) (hle : off + ds.length ≤ cs.length) :
    CellsP w F σ (vs.take off ++ v.cells.toList ++ vs.drop (off + v.cells.toList.length)) (setAllC cs off ds) := by
  have hl : v.cells.toList.length = ds.length := by simpa using a1
  rw [setAllC_spec _ _ _ hle]
  have hlen := h.len
  have h1 : (cs.take off).length = off := by rw [List.length_take]; omega
  have h2 : (vs.take off).length = off := by rw [List.length_take]; omega
  refine ⟨?_, fun u hu => ?_, fun i c u hc hu => ?_⟩
  · simp only [List.length_append, List.length_take, List.length_drop, hl, hlen]
  · rw [List.mem_append, List.mem_append] at hu
    rcases hu with (hu | hu) | hu
    · exact h.one u (List.mem_of_mem_take hu)
    · exact a3 u hu
    · exact h.one u (List.mem_of_mem_drop hu)
  · rcases Nat.lt_or_ge i off with hlt | hge
    · rw [List.append_assoc, List.getElem?_append_left (by omega), List.getElem?_take, if_pos hlt] at hu hc
      exact h.rd i c u hc hu
    · rw [List.append_assoc, List.getElem?_append_right (by omega)] at hu hc
      rw [h2] at hu
      rw [h1] at hc
      rcases Nat.lt_or_ge (i - off) ds.length with hlt | hge2
      · rw [List.getElem?_append_left (by omega)] at hu hc
        exact a2 _ c u hc hu
      · rw [List.getElem?_append_right (by omega), List.getElem?_drop] at hu hc
        rw [hl] at hu
        exact h.rd _ c u hc hu
section
variable {C : Cx} {s : St} {o : Oper} {x : X}
/-- A variable that holds such a struct. -/
theorem s_boxP {t : TypeId} {y : Operand} {cs : List Cap} (ho : o.op = .box t y) (hx : s.ev C.E y = .st cs) (hd : dstOK C o = true) : SOp C s o (s.add o.dst (.var t (.cs (cs.map Cap.x))) (.ptr s.ob.length 0)) := by
  rintro w a K Q ⟨F, σ, h1, h2, h3, hi, h4, h5, hs⟩ hK
  have hv := ev_rd (E := C.E) hi hs y
  rw [hx] at hv
  have hrun : (execOp a.eval o).run C.E.P w = .ok (.value (.pointer (some ⟨w.heap.size, 0, none⟩))) (w.alloc (.cells (a.eval y).cells t)) := by
    simp [execOp, ho, Instr.box, newVar, newRow]
  unfold Oper.wp
  rw [hrun]
  have he := ext_alloc (F := F) (.cells (a.eval y).cells t) hi.flt
  have hv' : RdX (w.alloc (.cells (a.eval y).cells t)) F (σ ++ [(w.heap.size, 0, 0)]) (.st cs) (a.eval y) := (hv.ext he hi.flt).mono (fun _ h => h) (fun _ _ => rfl) σ_app
  obtain ⟨c1, c2, c3⟩ := capsOf_ok (x := .st cs) rfl hv'
  refine hK _ _ (rel_add h1 h2 h3 hi h4 h5 hs hd (x := .var t (.cs (cs.map Cap.x))) (c := 0) (n := 0) ⟨(a.eval y).cells.toList, by simpa using heap_push, by simpa [VC.cells] using c1.symm, c3, fun i x v hx hv => ?_, h1.new (Nat.le_refl _), fun hf => ?_⟩ ⟨w.heap.size, 0, 0, ?_, rfl⟩)
  · simp only [VC.cells, List.getElem?_map, Option.map_eq_some_iff] at hx
    obtain ⟨c, hc, rfl⟩ := hx
    exact Cap.x_rd (c2 i c v hc hv)
  · exact absurd (hi.flt _ hf) (Nat.lt_irrefl _)
  · rw [← hi.len]; simp
end
section
variable {C : Cx} {K : St → Prop} {all : Array Oper} {rest : List Oper} {tm : List (Nat × X)} {ob : List AObj} {d : Nat} {pu : Bool} {o : Oper}
end
section
variable {C : Cx} {id : Nat} {l : List Oper} {E : List Nat} {wob : List AObj} {i : Nat} {rest : List Oper} {o : Oper} {tm : List (Nat × X)} {ob : List AObj} {K : St → Prop} {d : Nat}
theorem rgBoxP {t : TypeId} {y : Operand} {cs : List Cap} {m : List X} (hne : E.contains i = true) (ho : o.op = .box t y) (hg : guardX l.toArray tm o = some true) (hdst : o.dst = some d) (hd : Nat.blt d C.N = true) (hx : (⟨tm, ob⟩ : St).ev C.E y = .st cs) (hm : cs.map Cap.x = m)
    (hw : wkP wob.length wob (ob ++ [.var t (.cs m)])) (h : RGo C id l E wob (i + 1) rest ⟨(d, .ptr ob.length 0) :: tm, ob ++ [.var t (.cs m)]⟩ K) : RGo C id l E wob i (o :: rest) ⟨tm, ob⟩ K := by
  subst hm
  have hdk : dstOK C o = true := by simp only [dstOK, hdst]; exact hd
  refine rgX (x := .ptr ob.length 0) (ob' := ob ++ [.var t (.cs (cs.map Cap.x))]) hne hg hdk (fun tm' hev => ?_) hw (by rw [hdst]; exact h)
  exact s_boxP (s := ⟨tm', ob⟩) ho ((hev y (by simp [ho, Op.operands])).trans hx) hdk
end
end Go.Abs

/- A call that is handed objects, in a drawn region whose floating operations may stand behind it. Conditions: the call's own contract. -/
namespace Go.Abs
open Go Go.RowKit
section
variable {C : Cx} {tm : List (Nat × X)} {ob : List AObj} {id : Nat} {l : List Oper} {E : List Nat} {wob : List AObj} {i : Nat} {rest : List Oper} {K : St → Prop} {o : Oper} {d : Nat}
end
end Go.Abs

/- Maps of the call's own: made, read, written. Conditions: keys that are integers, texts or truth values; nothing is taken out, and nobody ranges over them. -/
namespace Go.Abs
open Go Go.RowKit

section
variable {C : Cx} {s : St} {o : Oper}
end
section
variable {C : Cx} {K : St → Prop} {all : Array Oper} {pu : Bool} {rest : List Oper} {tm : List (Nat × X)} {ob : List AObj} {d : Nat} {o : Oper}
end
end Go.Abs

/- A part that stands at the front of a struct is read. Conditions: none. -/
namespace Go.Abs
open Go Go.RowKit

theorem WInv.recell {E : Env} {B : Base} {F : Nat → Prop} {σ : Sg} {ob : List AObj} {w : World} {k : Nat} {ty : TypeId} {vc : VC} (hi : WInv E B F σ ob w) (hk : ob[k]? = some (.var ty vc)) : WInv E B F σ (ob.set k (.var ty (.cs vc.cells))) w := by
  have hlt : k < ob.length := (List.getElem?_eq_some_iff.1 hk).1
  have hget : ∀ (i : Nat) (y : AObj), (ob.set k (.var ty (.cs vc.cells)))[i]? = some y → (i = k ∧ y = .var ty (.cs vc.cells)) ∨ ob[i]? = some y := by
    intro i y hy
    by_cases h : i = k
    · subst h
      rw [List.getElem?_set_self hlt] at hy
      cases hy
      exact .inl ⟨rfl, rfl⟩
    · rw [List.getElem?_set_ne (Ne.symm h)] at hy
      exact .inr hy
  have hliv : ∀ (i : Nat) (y : AObj), (ob.set k (.var ty (.cs vc.cells)))[i]? = some y → y.live = true → ∃ z, ob[i]? = some z ∧ z.live = true := by
    intro i y hy hl
    rcases hget i y hy with ⟨rfl, rfl⟩ | h
    · exact ⟨_, hk, rfl⟩
    · exact ⟨y, h, hl⟩
  refine ⟨hi.flt, hi.glob, by rw [List.length_set]; exact hi.len, fun o x p hx hp => ?_, fun o o' x x' p p' hne hx hlx hx' hlx' hp hp' => ?_, hi.pre⟩
  · rcases hget o x hx with ⟨rfl, rfl⟩ | hx
    · have hob := hi.obs o _ p hk hp
      obtain ⟨pb, pc, pn⟩ := p
      exact hob
    · exact hi.obs o x p hx hp
  · obtain ⟨z, hz, hzl⟩ := hliv o x hx hlx
    obtain ⟨z', hz', hzl'⟩ := hliv o' x' hx' hlx'
    exact hi.inj o o' z z' p p' hne hz hzl hz' hzl' hp hp'
section
variable {C : Cx} {s : St} {o : Oper} {p : Prop} {x : X}
theorem v_load0 {t : TypeId} {y : Operand} {k off : Nat} {ty : TypeId} {vc : VC} (ho : o.op = .load t y) (hy : s.ev C.E y = .ptr k off) (hob : s.ob[k]? = some (.var ty vc))
    (h : loadX C.E (s.ob.set k (.var ty (.cs vc.cells))) t (.ptr k off) = some (p, x)) : VOp C s o x := by
  refine VOp.pure_ fun F σ w a hi hr => ?_
  have h0 := hr y (by simp [ho, Op.operands])
  rw [hy] at h0
  obtain ⟨v, h1, h2⟩ := load_ok (hi.recell hob) h0 h
  exact ⟨v, by simp [execOp, ho, h1], h2⟩
theorem v_loadA {t : TypeId} {y : Operand} {z : D} (n : Nat) (ho : o.op = .load t y) (hy : s.ev C.E y = .at_ z 0)
    (h : loadX C.E s.ob t (.at_ (.agg (z.cells.take n)) 0) = some (p, x)) : VOp C s o x := by
  refine VOp.pure_ fun F σ w a hi hr => ?_
  have h0 := hr y (by simp [ho, Op.operands])
  rw [hy] at h0
  obtain ⟨ad, ⟨hF, hone, hm⟩, hv⟩ := h0
  have h0' : RdX w F σ (.at_ (.agg (z.cells.take n)) 0) (a.eval y) := by
    refine ⟨ad, ⟨hF, fun c hc => hone c (List.mem_of_mem_take hc), fun j c hj => hm j c ?_⟩, hv⟩
    have hj' : (z.cells.take n)[j]? = some c := hj
    rw [List.getElem?_take] at hj'
    split at hj'
    · exact hj'
    · cases hj'
  obtain ⟨v, h1, h2⟩ := load_ok hi h0' h
  exact ⟨v, by simp [execOp, ho, h1], h2⟩
end
section
variable {C : Cx} {all : Array Oper} {pu : Bool} {rest : List Oper} {tm : List (Nat × X)} {ob : List AObj} {K : St → Prop} {o : Oper} {d : Nat} {p : Prop} {x : X}
theorem go_load0 {t : TypeId} {y : Operand} {k off : Nat} {ty : TypeId} {vc : VC} (ho : o.op = .load t y) (hg : guardX all tm o = some true) (hdst : o.dst = some d) (hd : Nat.blt d C.N = true) (hy : (⟨tm, ob⟩ : St).ev C.E y = .ptr k off) (hob : ob[k]? = some (.var ty vc))
    (hl : loadX C.E (ob.set k (.var ty (.cs vc.cells))) t (.ptr k off) = some (p, x)) (h : SGo C all pu rest ⟨(d, x) :: tm, ob⟩ K) : SGo C all pu (o :: rest) ⟨tm, ob⟩ K :=
  go_vopG hg hdst hd (v_load0 ho hy hob hl) h
theorem go_loadA {t : TypeId} {y : Operand} {z : D} (n : Nat) (ho : o.op = .load t y) (hg : guardX all tm o = some true) (hdst : o.dst = some d) (hd : Nat.blt d C.N = true) (hy : (⟨tm, ob⟩ : St).ev C.E y = .at_ z 0)
    (hl : loadX C.E ob t (.at_ (.agg (z.cells.take n)) 0) = some (p, x)) (h : SGo C all pu rest ⟨(d, x) :: tm, ob⟩ K) : SGo C all pu (o :: rest) ⟨tm, ob⟩ K :=
  go_vopG hg hdst hd (v_loadA n ho hy hl) h
end
end Go.Abs

/- Values as plain trees, how they are written as data, and what the functions of layers 1, 3 and 4 come to. Conditions: none; plain definitions and lemmas. -/
namespace Go.Val
open Go Go.Abs

/-- A value: its kind, its two numbers, its string, its elements. -/
inductive V where
  | mk (k n d : Int) (s : ByteArray) (l : List V)
  deriving Inhabited
def V.k : V → Int | .mk k _ _ _ _ => k
def V.n : V → Int | .mk _ n _ _ _ => n
def V.d : V → Int | .mk _ _ d _ _ => d
def V.s : V → ByteArray | .mk _ _ _ s _ => s
def V.l : V → List V | .mk _ _ _ _ l => l
theorem V.eta (v : V) : V.mk v.k v.n v.d v.s v.l = v := by cases v; rfl

mutual
def kids : V → List D
  | .mk _ _ _ _ l => encL l
def encL : List V → List D
  | [] => []
  | v :: r => .agg [.int v.k, .int v.n, .int v.d, .str v.s, .sl (kids v)] :: encL r
end
def enc (v : V) : D := .agg [.int v.k, .int v.n, .int v.d, .str v.s, .sl (kids v)]
theorem encL_map (l : List V) : encL l = l.map enc := by
  induction l with
  | nil => simp [encL]
  | cons v r ih => simp [encL, ih, enc]
theorem kids_eq (v : V) : kids v = v.l.map enc := by
  cases v
  simp [kids, encL_map, V.l]
theorem encL_get {l : List V} {i : Nat} {x : V} (h : l[i]? = some x) : (encL l)[i]? = some (enc x) := by
  rw [encL_map, List.getElem?_map, h]; rfl
theorem kids_len (v : V) : (kids v).length = v.l.length := by rw [kids_eq]; simp
theorem encL_len (l : List V) : (encL l).length = l.length := by rw [encL_map]; simp
def encR (l : List (List V)) : List D := l.map fun r => .sl (encL r)

theorem fit_enc {v : V} (h : Fit (enc v)) : inR .i64 v.k ∧ inR .i64 v.n ∧ inR .i64 v.d ∧ v.s.size ≤ 9223372036854775807 ∧ v.l.length ≤ 9223372036854775807 ∧ ∀ x ∈ v.l, Fit (enc x) := by
  have hc := h.aggs
  have h5 := (hc (.sl (kids v)) (by simp)).sls
  rw [kids_len] at h5
  refine ⟨(hc (.int v.k) (by simp)).int, (hc (.int v.n) (by simp)).int, (hc (.int v.d) (by simp)).int, (hc (.str v.s) (by simp)).str, h5.1, fun x hx => h5.2 _ ?_⟩
  rw [kids_eq]
  exact List.mem_map_of_mem hx
theorem fit_encL {l : List V} (h : Fit (.sl (encL l))) : l.length ≤ 9223372036854775807 ∧ ∀ x ∈ l, Fit (enc x) := by
  have h5 := h.sls
  rw [encL_len] at h5
  refine ⟨h5.1, fun x hx => h5.2 _ ?_⟩
  rw [encL_map]
  exact List.mem_map_of_mem hx
/-! ## Layer 1 and layer 3 -/
def inM (n : Int) : Bool := decide (n ≥ -1000000000000000) && decide (n ≤ 1000000000000000)
theorem inM_iff (n : Int) : inM n = true ↔ -1000000000000000 ≤ n ∧ n ≤ 1000000000000000 := by simp [inM]
def gcdF (a b : Int) : Int := bif inM a && inM b then (Int.gcd a b : Int) else 0
def fval (n d : Int) : Bool := decide (d ≥ 1) && (decide (d ≤ 1000000000000000) && (inM n && ((Int.gcd n d : Int) == 1)))
/-! ## Layer 4: Kleene's logic -/
def tt (b : Bool) : Int := bif b then 2 else 0
def vInt (n : Int) : V := .mk 2 n 0 ⟨#[]⟩ []
/-! ## Which values are valid -/
def s0 (s : ByteArray) : Bool := s.toList == (⟨#[]⟩ : ByteArray).toList
def strOK (s : ByteArray) : Bool := s.data.toList.all (fun b => !(decide (b.toNat < 32) || decide (b.toNat > 126))) && decide (s.size ≤ 100)
def okFlat (v : V) : Bool :=
  (v.k == 0 && (v.d == 0 && s0 v.s && v.l.length == 0) && v.n == 0) ||
  (v.k == 1 && (v.d == 0 && s0 v.s && v.l.length == 0) && (v.n == 0 || v.n == 1)) ||
  (v.k == 2 && (v.d == 0 && s0 v.s && v.l.length == 0) && inM v.n) ||
  (v.k == 3 && (s0 v.s && v.l.length == 0) && (decide (v.d ≥ 2) && fval v.n v.d)) ||
  (v.k == 4 && (v.d == 0 && v.l.length == 0) && (v.n == 0 && strOK v.s)) ||
  ((v.k == 5 || v.k == 6) && (v.d == 0 && s0 v.s && v.l.length == 0) && (decide (v.n ≥ 1) && decide (v.n ≤ 1000000)))
def okStep (i : Nat) (v : V) : Bool := v.k == (bif i % 2 == 0 then 5 else 6) && okFlat v
def okSteps : Nat → List V → Bool
  | _, [] => true
  | i, v :: r => okStep i v && okSteps (i + 1) r
def okPath (l : List V) : Bool := l.length % 2 == 1 && decide (l.length ≤ 25) && okSteps 0 l
/-- Valid where so many more lists may be nested. -/
def okN : Nat → V → Bool
  | 0, v => okFlat v || (v.k == 7 && (v.d == 0 && s0 v.s) && (v.n == 0 && okPath v.l))
  | m + 1, v => okFlat v || (v.k == 7 && (v.d == 0 && s0 v.s) && (v.n == 0 && okPath v.l)) || (v.k == 8 && (v.d == 0 && s0 v.s) && (v.n == 0 && decide (v.l.length ≤ 64) && v.l.all (okN m)))
def okV (v : V) : Bool := okN 8 v
end Go.Val

/- The table of the seat's types and listed variables, off the loaded program. Conditions: none. -/
namespace Go.Proofs.YtmfjfclpdmpncaaGreatDoor
open Go Go.Abs
set_option maxRecDepth 100000
def te3 : TE := { t := 3, desc := Go.TypeDesc.int Go.IntKind.i64, size := 1, bytes := 8, zero := Go.Value.int Go.IntKind.i64 0 }
def te4 : TE := { t := 4, desc := Go.TypeDesc.bool, size := 1, bytes := 1, zero := Go.Value.bool false }
def te9 : TE := { t := 9, desc := Go.TypeDesc.string, size := 1, bytes := 16, zero := Go.Value.string { data := #[] } }
def te24 : TE := { t := 24, desc := Go.TypeDesc.struct #[{ name := "Nodes", type := 3, offset := 0, embedded := false, tag := "", pkgPath := "", byteOffset := 0 }, { name := "Edges", type := 3, offset := 1, embedded := false, tag := "", pkgPath := "", byteOffset := 8 }, { name := "Labels", type := 22, offset := 2, embedded := false, tag := "", pkgPath := "", byteOffset := 16 }, { name := "Types", type := 22, offset := 3, embedded := false, tag := "", pkgPath := "", byteOffset := 40 }, { name := "Outs", type := 23, offset := 4, embedded := false, tag := "", pkgPath := "", byteOffset := 64 }, { name := "Ins", type := 23, offset := 5, embedded := false, tag := "", pkgPath := "", byteOffset := 88 }], size := 6, bytes := 112, zero := Go.Value.agg #[Go.Value.int Go.IntKind.i64 0, Go.Value.int Go.IntKind.i64 0, Go.Value.slice Option.none 0 0, Go.Value.slice Option.none 0 0, Go.Value.slice Option.none 0 0, Go.Value.slice Option.none 0 0] }
def te25 : TE := { t := 25, desc := Go.TypeDesc.struct #[{ name := "Nodes", type := 3, offset := 0, embedded := false, tag := "", pkgPath := "", byteOffset := 0 }, { name := "Edges", type := 3, offset := 1, embedded := false, tag := "", pkgPath := "", byteOffset := 8 }, { name := "Labels", type := 22, offset := 2, embedded := false, tag := "", pkgPath := "", byteOffset := 16 }, { name := "Types", type := 22, offset := 3, embedded := false, tag := "", pkgPath := "", byteOffset := 40 }, { name := "Outs", type := 23, offset := 4, embedded := false, tag := "", pkgPath := "", byteOffset := 64 }, { name := "Ins", type := 23, offset := 5, embedded := false, tag := "", pkgPath := "", byteOffset := 88 }], size := 6, bytes := 112, zero := Go.Value.agg #[Go.Value.int Go.IntKind.i64 0, Go.Value.int Go.IntKind.i64 0, Go.Value.slice Option.none 0 0, Go.Value.slice Option.none 0 0, Go.Value.slice Option.none 0 0, Go.Value.slice Option.none 0 0] }
def te28 : TE := { t := 28, desc := Go.TypeDesc.struct #[{ name := "Vars", type := 26, offset := 0, embedded := false, tag := "", pkgPath := "", byteOffset := 0 }, { name := "Atoms", type := 27, offset := 1, embedded := false, tag := "", pkgPath := "", byteOffset := 24 }], size := 2, bytes := 48, zero := Go.Value.agg #[Go.Value.slice Option.none 0 0, Go.Value.slice Option.none 0 0] }
def te29 : TE := { t := 29, desc := Go.TypeDesc.struct #[{ name := "Vars", type := 26, offset := 0, embedded := false, tag := "", pkgPath := "", byteOffset := 0 }, { name := "Atoms", type := 27, offset := 1, embedded := false, tag := "", pkgPath := "", byteOffset := 24 }], size := 2, bytes := 48, zero := Go.Value.agg #[Go.Value.slice Option.none 0 0, Go.Value.slice Option.none 0 0] }
def te37 : TE := { t := 37, desc := Go.TypeDesc.struct #[{ name := "Kind", type := 3, offset := 0, embedded := false, tag := "", pkgPath := "", byteOffset := 0 }, { name := "N", type := 3, offset := 1, embedded := false, tag := "", pkgPath := "", byteOffset := 8 }, { name := "D", type := 3, offset := 2, embedded := false, tag := "", pkgPath := "", byteOffset := 16 }, { name := "S", type := 9, offset := 3, embedded := false, tag := "", pkgPath := "", byteOffset := 24 }, { name := "L", type := 36, offset := 4, embedded := false, tag := "", pkgPath := "", byteOffset := 40 }], size := 5, bytes := 64, zero := Go.Value.agg #[Go.Value.int Go.IntKind.i64 0, Go.Value.int Go.IntKind.i64 0, Go.Value.int Go.IntKind.i64 0, Go.Value.string { data := #[] }, Go.Value.slice Option.none 0 0] }
def te38 : TE := { t := 38, desc := Go.TypeDesc.struct #[{ name := "Kind", type := 3, offset := 0, embedded := false, tag := "", pkgPath := "", byteOffset := 0 }, { name := "N", type := 3, offset := 1, embedded := false, tag := "", pkgPath := "", byteOffset := 8 }, { name := "D", type := 3, offset := 2, embedded := false, tag := "", pkgPath := "", byteOffset := 16 }, { name := "S", type := 9, offset := 3, embedded := false, tag := "", pkgPath := "", byteOffset := 24 }, { name := "L", type := 36, offset := 4, embedded := false, tag := "", pkgPath := "", byteOffset := 40 }], size := 5, bytes := 64, zero := Go.Value.agg #[Go.Value.int Go.IntKind.i64 0, Go.Value.int Go.IntKind.i64 0, Go.Value.int Go.IntKind.i64 0, Go.Value.string { data := #[] }, Go.Value.slice Option.none 0 0] }
def te39 : TE := { t := 39, desc := Go.TypeDesc.struct #[{ name := "Op", type := 3, offset := 0, embedded := false, tag := "", pkgPath := "", byteOffset := 0 }, { name := "V", type := 38, offset := 1, embedded := false, tag := "", pkgPath := "", byteOffset := 8 }, { name := "Name", type := 9, offset := 6, embedded := false, tag := "", pkgPath := "", byteOffset := 72 }, { name := "Distinct", type := 4, offset := 7, embedded := false, tag := "", pkgPath := "", byteOffset := 88 }, { name := "Kids", type := 35, offset := 8, embedded := false, tag := "", pkgPath := "", byteOffset := 96 }], size := 9, bytes := 120, zero := Go.Value.agg #[Go.Value.int Go.IntKind.i64 0, Go.Value.int Go.IntKind.i64 0, Go.Value.int Go.IntKind.i64 0, Go.Value.int Go.IntKind.i64 0, Go.Value.string { data := #[] }, Go.Value.slice Option.none 0 0, Go.Value.string { data := #[] }, Go.Value.bool false, Go.Value.slice Option.none 0 0] }
def te40 : TE := { t := 40, desc := Go.TypeDesc.struct #[{ name := "Op", type := 3, offset := 0, embedded := false, tag := "", pkgPath := "", byteOffset := 0 }, { name := "V", type := 38, offset := 1, embedded := false, tag := "", pkgPath := "", byteOffset := 8 }, { name := "Name", type := 9, offset := 6, embedded := false, tag := "", pkgPath := "", byteOffset := 72 }, { name := "Distinct", type := 4, offset := 7, embedded := false, tag := "", pkgPath := "", byteOffset := 88 }, { name := "Kids", type := 35, offset := 8, embedded := false, tag := "", pkgPath := "", byteOffset := 96 }], size := 9, bytes := 120, zero := Go.Value.agg #[Go.Value.int Go.IntKind.i64 0, Go.Value.int Go.IntKind.i64 0, Go.Value.int Go.IntKind.i64 0, Go.Value.int Go.IntKind.i64 0, Go.Value.string { data := #[] }, Go.Value.slice Option.none 0 0, Go.Value.string { data := #[] }, Go.Value.bool false, Go.Value.slice Option.none 0 0] }
def te44 : TE := { t := 44, desc := Go.TypeDesc.struct #[{ name := "Kind", type := 3, offset := 0, embedded := false, tag := "", pkgPath := "", byteOffset := 0 }, { name := "Opt", type := 4, offset := 1, embedded := false, tag := "", pkgPath := "", byteOffset := 8 }, { name := "Distinct", type := 4, offset := 2, embedded := false, tag := "", pkgPath := "", byteOffset := 9 }, { name := "Paths", type := 34, offset := 3, embedded := false, tag := "", pkgPath := "", byteOffset := 16 }, { name := "Where", type := 35, offset := 4, embedded := false, tag := "", pkgPath := "", byteOffset := 40 }, { name := "E", type := 40, offset := 5, embedded := false, tag := "", pkgPath := "", byteOffset := 64 }, { name := "Name", type := 9, offset := 14, embedded := false, tag := "", pkgPath := "", byteOffset := 184 }, { name := "Items", type := 41, offset := 15, embedded := false, tag := "", pkgPath := "", byteOffset := 200 }, { name := "Order", type := 42, offset := 16, embedded := false, tag := "", pkgPath := "", byteOffset := 224 }, { name := "Skip", type := 3, offset := 17, embedded := false, tag := "", pkgPath := "", byteOffset := 248 }, { name := "Limit", type := 3, offset := 18, embedded := false, tag := "", pkgPath := "", byteOffset := 256 }, { name := "Sets", type := 43, offset := 19, embedded := false, tag := "", pkgPath := "", byteOffset := 264 }, { name := "Names", type := 26, offset := 20, embedded := false, tag := "", pkgPath := "", byteOffset := 288 }], size := 21, bytes := 312, zero := Go.Value.agg #[Go.Value.int Go.IntKind.i64 0, Go.Value.bool false, Go.Value.bool false, Go.Value.slice Option.none 0 0, Go.Value.slice Option.none 0 0, Go.Value.int Go.IntKind.i64 0, Go.Value.int Go.IntKind.i64 0, Go.Value.int Go.IntKind.i64 0, Go.Value.int Go.IntKind.i64 0, Go.Value.string { data := #[] }, Go.Value.slice Option.none 0 0, Go.Value.string { data := #[] }, Go.Value.bool false, Go.Value.slice Option.none 0 0, Go.Value.string { data := #[] }, Go.Value.slice Option.none 0 0, Go.Value.slice Option.none 0 0, Go.Value.int Go.IntKind.i64 0, Go.Value.int Go.IntKind.i64 0, Go.Value.slice Option.none 0 0, Go.Value.slice Option.none 0 0] }
def te45 : TE := { t := 45, desc := Go.TypeDesc.struct #[{ name := "Kind", type := 3, offset := 0, embedded := false, tag := "", pkgPath := "", byteOffset := 0 }, { name := "Opt", type := 4, offset := 1, embedded := false, tag := "", pkgPath := "", byteOffset := 8 }, { name := "Distinct", type := 4, offset := 2, embedded := false, tag := "", pkgPath := "", byteOffset := 9 }, { name := "Paths", type := 34, offset := 3, embedded := false, tag := "", pkgPath := "", byteOffset := 16 }, { name := "Where", type := 35, offset := 4, embedded := false, tag := "", pkgPath := "", byteOffset := 40 }, { name := "E", type := 40, offset := 5, embedded := false, tag := "", pkgPath := "", byteOffset := 64 }, { name := "Name", type := 9, offset := 14, embedded := false, tag := "", pkgPath := "", byteOffset := 184 }, { name := "Items", type := 41, offset := 15, embedded := false, tag := "", pkgPath := "", byteOffset := 200 }, { name := "Order", type := 42, offset := 16, embedded := false, tag := "", pkgPath := "", byteOffset := 224 }, { name := "Skip", type := 3, offset := 17, embedded := false, tag := "", pkgPath := "", byteOffset := 248 }, { name := "Limit", type := 3, offset := 18, embedded := false, tag := "", pkgPath := "", byteOffset := 256 }, { name := "Sets", type := 43, offset := 19, embedded := false, tag := "", pkgPath := "", byteOffset := 264 }, { name := "Names", type := 26, offset := 20, embedded := false, tag := "", pkgPath := "", byteOffset := 288 }], size := 21, bytes := 312, zero := Go.Value.agg #[Go.Value.int Go.IntKind.i64 0, Go.Value.bool false, Go.Value.bool false, Go.Value.slice Option.none 0 0, Go.Value.slice Option.none 0 0, Go.Value.int Go.IntKind.i64 0, Go.Value.int Go.IntKind.i64 0, Go.Value.int Go.IntKind.i64 0, Go.Value.int Go.IntKind.i64 0, Go.Value.string { data := #[] }, Go.Value.slice Option.none 0 0, Go.Value.string { data := #[] }, Go.Value.bool false, Go.Value.slice Option.none 0 0, Go.Value.string { data := #[] }, Go.Value.slice Option.none 0 0, Go.Value.slice Option.none 0 0, Go.Value.int Go.IntKind.i64 0, Go.Value.int Go.IntKind.i64 0, Go.Value.slice Option.none 0 0, Go.Value.slice Option.none 0 0] }
def te46 : TE := { t := 46, desc := Go.TypeDesc.struct #[{ name := "Op", type := 3, offset := 0, embedded := false, tag := "", pkgPath := "", byteOffset := 0 }, { name := "Kids", type := 33, offset := 1, embedded := false, tag := "", pkgPath := "", byteOffset := 8 }, { name := "Conj", type := 29, offset := 2, embedded := false, tag := "", pkgPath := "", byteOffset := 32 }, { name := "Clause", type := 45, offset := 4, embedded := false, tag := "", pkgPath := "", byteOffset := 80 }, { name := "E", type := 40, offset := 25, embedded := false, tag := "", pkgPath := "", byteOffset := 392 }, { name := "Name", type := 9, offset := 34, embedded := false, tag := "", pkgPath := "", byteOffset := 512 }, { name := "Items", type := 41, offset := 35, embedded := false, tag := "", pkgPath := "", byteOffset := 528 }, { name := "Order", type := 42, offset := 36, embedded := false, tag := "", pkgPath := "", byteOffset := 552 }, { name := "Skip", type := 3, offset := 37, embedded := false, tag := "", pkgPath := "", byteOffset := 576 }, { name := "Limit", type := 3, offset := 38, embedded := false, tag := "", pkgPath := "", byteOffset := 584 }], size := 39, bytes := 592, zero := Go.Value.agg #[Go.Value.int Go.IntKind.i64 0, Go.Value.slice Option.none 0 0, Go.Value.slice Option.none 0 0, Go.Value.slice Option.none 0 0, Go.Value.int Go.IntKind.i64 0, Go.Value.bool false, Go.Value.bool false, Go.Value.slice Option.none 0 0, Go.Value.slice Option.none 0 0, Go.Value.int Go.IntKind.i64 0, Go.Value.int Go.IntKind.i64 0, Go.Value.int Go.IntKind.i64 0, Go.Value.int Go.IntKind.i64 0, Go.Value.string { data := #[] }, Go.Value.slice Option.none 0 0, Go.Value.string { data := #[] }, Go.Value.bool false, Go.Value.slice Option.none 0 0, Go.Value.string { data := #[] }, Go.Value.slice Option.none 0 0, Go.Value.slice Option.none 0 0, Go.Value.int Go.IntKind.i64 0, Go.Value.int Go.IntKind.i64 0, Go.Value.slice Option.none 0 0, Go.Value.slice Option.none 0 0, Go.Value.int Go.IntKind.i64 0, Go.Value.int Go.IntKind.i64 0, Go.Value.int Go.IntKind.i64 0, Go.Value.int Go.IntKind.i64 0, Go.Value.string { data := #[] }, Go.Value.slice Option.none 0 0, Go.Value.string { data := #[] }, Go.Value.bool false, Go.Value.slice Option.none 0 0, Go.Value.string { data := #[] }, Go.Value.slice Option.none 0 0, Go.Value.slice Option.none 0 0, Go.Value.int Go.IntKind.i64 0, Go.Value.int Go.IntKind.i64 0] }
def te47 : TE := { t := 47, desc := Go.TypeDesc.struct #[{ name := "Op", type := 3, offset := 0, embedded := false, tag := "", pkgPath := "", byteOffset := 0 }, { name := "Kids", type := 33, offset := 1, embedded := false, tag := "", pkgPath := "", byteOffset := 8 }, { name := "Conj", type := 29, offset := 2, embedded := false, tag := "", pkgPath := "", byteOffset := 32 }, { name := "Clause", type := 45, offset := 4, embedded := false, tag := "", pkgPath := "", byteOffset := 80 }, { name := "E", type := 40, offset := 25, embedded := false, tag := "", pkgPath := "", byteOffset := 392 }, { name := "Name", type := 9, offset := 34, embedded := false, tag := "", pkgPath := "", byteOffset := 512 }, { name := "Items", type := 41, offset := 35, embedded := false, tag := "", pkgPath := "", byteOffset := 528 }, { name := "Order", type := 42, offset := 36, embedded := false, tag := "", pkgPath := "", byteOffset := 552 }, { name := "Skip", type := 3, offset := 37, embedded := false, tag := "", pkgPath := "", byteOffset := 576 }, { name := "Limit", type := 3, offset := 38, embedded := false, tag := "", pkgPath := "", byteOffset := 584 }], size := 39, bytes := 592, zero := Go.Value.agg #[Go.Value.int Go.IntKind.i64 0, Go.Value.slice Option.none 0 0, Go.Value.slice Option.none 0 0, Go.Value.slice Option.none 0 0, Go.Value.int Go.IntKind.i64 0, Go.Value.bool false, Go.Value.bool false, Go.Value.slice Option.none 0 0, Go.Value.slice Option.none 0 0, Go.Value.int Go.IntKind.i64 0, Go.Value.int Go.IntKind.i64 0, Go.Value.int Go.IntKind.i64 0, Go.Value.int Go.IntKind.i64 0, Go.Value.string { data := #[] }, Go.Value.slice Option.none 0 0, Go.Value.string { data := #[] }, Go.Value.bool false, Go.Value.slice Option.none 0 0, Go.Value.string { data := #[] }, Go.Value.slice Option.none 0 0, Go.Value.slice Option.none 0 0, Go.Value.int Go.IntKind.i64 0, Go.Value.int Go.IntKind.i64 0, Go.Value.slice Option.none 0 0, Go.Value.slice Option.none 0 0, Go.Value.int Go.IntKind.i64 0, Go.Value.int Go.IntKind.i64 0, Go.Value.int Go.IntKind.i64 0, Go.Value.int Go.IntKind.i64 0, Go.Value.string { data := #[] }, Go.Value.slice Option.none 0 0, Go.Value.string { data := #[] }, Go.Value.bool false, Go.Value.slice Option.none 0 0, Go.Value.string { data := #[] }, Go.Value.slice Option.none 0 0, Go.Value.slice Option.none 0 0, Go.Value.int Go.IntKind.i64 0, Go.Value.int Go.IntKind.i64 0] }
def te57 : TE := { t := 57, desc := Go.TypeDesc.struct #[{ name := "Clauses", type := 56, offset := 0, embedded := false, tag := "", pkgPath := "", byteOffset := 0 }], size := 1, bytes := 24, zero := Go.Value.agg #[Go.Value.slice Option.none 0 0] }
def te58 : TE := { t := 58, desc := Go.TypeDesc.struct #[{ name := "Clauses", type := 56, offset := 0, embedded := false, tag := "", pkgPath := "", byteOffset := 0 }], size := 1, bytes := 24, zero := Go.Value.agg #[Go.Value.slice Option.none 0 0] }
def te68 : TE := { t := 68, desc := Go.TypeDesc.struct #[{ name := "Kind", type := 3, offset := 0, embedded := false, tag := "", pkgPath := "", byteOffset := 0 }, { name := "Vars", type := 67, offset := 1, embedded := false, tag := "", pkgPath := "", byteOffset := 8 }, { name := "Name", type := 9, offset := 2, embedded := false, tag := "", pkgPath := "", byteOffset := 32 }, { name := "Types", type := 26, offset := 3, embedded := false, tag := "", pkgPath := "", byteOffset := 48 }, { name := "V", type := 38, offset := 4, embedded := false, tag := "", pkgPath := "", byteOffset := 72 }], size := 9, bytes := 136, zero := Go.Value.agg #[Go.Value.int Go.IntKind.i64 0, Go.Value.slice Option.none 0 0, Go.Value.string { data := #[] }, Go.Value.slice Option.none 0 0, Go.Value.int Go.IntKind.i64 0, Go.Value.int Go.IntKind.i64 0, Go.Value.int Go.IntKind.i64 0, Go.Value.string { data := #[] }, Go.Value.slice Option.none 0 0] }
def te69 : TE := { t := 69, desc := Go.TypeDesc.struct #[{ name := "Kind", type := 3, offset := 0, embedded := false, tag := "", pkgPath := "", byteOffset := 0 }, { name := "Vars", type := 67, offset := 1, embedded := false, tag := "", pkgPath := "", byteOffset := 8 }, { name := "Name", type := 9, offset := 2, embedded := false, tag := "", pkgPath := "", byteOffset := 32 }, { name := "Types", type := 26, offset := 3, embedded := false, tag := "", pkgPath := "", byteOffset := 48 }, { name := "V", type := 38, offset := 4, embedded := false, tag := "", pkgPath := "", byteOffset := 72 }], size := 9, bytes := 136, zero := Go.Value.agg #[Go.Value.int Go.IntKind.i64 0, Go.Value.slice Option.none 0 0, Go.Value.string { data := #[] }, Go.Value.slice Option.none 0 0, Go.Value.int Go.IntKind.i64 0, Go.Value.int Go.IntKind.i64 0, Go.Value.int Go.IntKind.i64 0, Go.Value.string { data := #[] }, Go.Value.slice Option.none 0 0] }
def te80 : TE := { t := 80, desc := Go.TypeDesc.struct #[{ name := "N", type := 3, offset := 0, embedded := false, tag := "", pkgPath := "", byteOffset := 0 }, { name := "Edges", type := 23, offset := 1, embedded := false, tag := "", pkgPath := "", byteOffset := 8 }], size := 2, bytes := 32, zero := Go.Value.agg #[Go.Value.int Go.IntKind.i64 0, Go.Value.slice Option.none 0 0] }
def te81 : TE := { t := 81, desc := Go.TypeDesc.struct #[{ name := "N", type := 3, offset := 0, embedded := false, tag := "", pkgPath := "", byteOffset := 0 }, { name := "Edges", type := 23, offset := 1, embedded := false, tag := "", pkgPath := "", byteOffset := 8 }], size := 2, bytes := 32, zero := Go.Value.agg #[Go.Value.int Go.IntKind.i64 0, Go.Value.slice Option.none 0 0] }
def te84 : TE := { t := 84, desc := Go.TypeDesc.struct #[{ name := "E", type := 40, offset := 0, embedded := false, tag := "", pkgPath := "", byteOffset := 0 }, { name := "As", type := 9, offset := 9, embedded := false, tag := "", pkgPath := "", byteOffset := 120 }], size := 10, bytes := 136, zero := Go.Value.agg #[Go.Value.int Go.IntKind.i64 0, Go.Value.int Go.IntKind.i64 0, Go.Value.int Go.IntKind.i64 0, Go.Value.int Go.IntKind.i64 0, Go.Value.string { data := #[] }, Go.Value.slice Option.none 0 0, Go.Value.string { data := #[] }, Go.Value.bool false, Go.Value.slice Option.none 0 0, Go.Value.string { data := #[] }] }
def te85 : TE := { t := 85, desc := Go.TypeDesc.struct #[{ name := "E", type := 40, offset := 0, embedded := false, tag := "", pkgPath := "", byteOffset := 0 }, { name := "As", type := 9, offset := 9, embedded := false, tag := "", pkgPath := "", byteOffset := 120 }], size := 10, bytes := 136, zero := Go.Value.agg #[Go.Value.int Go.IntKind.i64 0, Go.Value.int Go.IntKind.i64 0, Go.Value.int Go.IntKind.i64 0, Go.Value.int Go.IntKind.i64 0, Go.Value.string { data := #[] }, Go.Value.slice Option.none 0 0, Go.Value.string { data := #[] }, Go.Value.bool false, Go.Value.slice Option.none 0 0, Go.Value.string { data := #[] }] }
def te86 : TE := { t := 86, desc := Go.TypeDesc.struct #[{ name := "E", type := 40, offset := 0, embedded := false, tag := "", pkgPath := "", byteOffset := 0 }, { name := "Desc", type := 4, offset := 9, embedded := false, tag := "", pkgPath := "", byteOffset := 120 }], size := 10, bytes := 128, zero := Go.Value.agg #[Go.Value.int Go.IntKind.i64 0, Go.Value.int Go.IntKind.i64 0, Go.Value.int Go.IntKind.i64 0, Go.Value.int Go.IntKind.i64 0, Go.Value.string { data := #[] }, Go.Value.slice Option.none 0 0, Go.Value.string { data := #[] }, Go.Value.bool false, Go.Value.slice Option.none 0 0, Go.Value.bool false] }
def te87 : TE := { t := 87, desc := Go.TypeDesc.struct #[{ name := "E", type := 40, offset := 0, embedded := false, tag := "", pkgPath := "", byteOffset := 0 }, { name := "Desc", type := 4, offset := 9, embedded := false, tag := "", pkgPath := "", byteOffset := 120 }], size := 10, bytes := 128, zero := Go.Value.agg #[Go.Value.int Go.IntKind.i64 0, Go.Value.int Go.IntKind.i64 0, Go.Value.int Go.IntKind.i64 0, Go.Value.int Go.IntKind.i64 0, Go.Value.string { data := #[] }, Go.Value.slice Option.none 0 0, Go.Value.string { data := #[] }, Go.Value.bool false, Go.Value.slice Option.none 0 0, Go.Value.bool false] }
def te88 : TE := { t := 88, desc := Go.TypeDesc.struct #[{ name := "Var", type := 9, offset := 0, embedded := false, tag := "", pkgPath := "", byteOffset := 0 }, { name := "Key", type := 9, offset := 1, embedded := false, tag := "", pkgPath := "", byteOffset := 16 }, { name := "Label", type := 9, offset := 2, embedded := false, tag := "", pkgPath := "", byteOffset := 32 }, { name := "Off", type := 4, offset := 3, embedded := false, tag := "", pkgPath := "", byteOffset := 48 }, { name := "E", type := 40, offset := 4, embedded := false, tag := "", pkgPath := "", byteOffset := 56 }], size := 13, bytes := 176, zero := Go.Value.agg #[Go.Value.string { data := #[] }, Go.Value.string { data := #[] }, Go.Value.string { data := #[] }, Go.Value.bool false, Go.Value.int Go.IntKind.i64 0, Go.Value.int Go.IntKind.i64 0, Go.Value.int Go.IntKind.i64 0, Go.Value.int Go.IntKind.i64 0, Go.Value.string { data := #[] }, Go.Value.slice Option.none 0 0, Go.Value.string { data := #[] }, Go.Value.bool false, Go.Value.slice Option.none 0 0] }
def te89 : TE := { t := 89, desc := Go.TypeDesc.struct #[{ name := "Var", type := 9, offset := 0, embedded := false, tag := "", pkgPath := "", byteOffset := 0 }, { name := "Key", type := 9, offset := 1, embedded := false, tag := "", pkgPath := "", byteOffset := 16 }, { name := "Label", type := 9, offset := 2, embedded := false, tag := "", pkgPath := "", byteOffset := 32 }, { name := "Off", type := 4, offset := 3, embedded := false, tag := "", pkgPath := "", byteOffset := 48 }, { name := "E", type := 40, offset := 4, embedded := false, tag := "", pkgPath := "", byteOffset := 56 }], size := 13, bytes := 176, zero := Go.Value.agg #[Go.Value.string { data := #[] }, Go.Value.string { data := #[] }, Go.Value.string { data := #[] }, Go.Value.bool false, Go.Value.int Go.IntKind.i64 0, Go.Value.int Go.IntKind.i64 0, Go.Value.int Go.IntKind.i64 0, Go.Value.int Go.IntKind.i64 0, Go.Value.string { data := #[] }, Go.Value.slice Option.none 0 0, Go.Value.string { data := #[] }, Go.Value.bool false, Go.Value.slice Option.none 0 0] }
def te99 : TE := { t := 99, desc := Go.TypeDesc.struct #[{ name := "Var", type := 9, offset := 0, embedded := false, tag := "", pkgPath := "", byteOffset := 0 }, { name := "Nodes", type := 97, offset := 1, embedded := false, tag := "", pkgPath := "", byteOffset := 16 }, { name := "Edges", type := 98, offset := 2, embedded := false, tag := "", pkgPath := "", byteOffset := 40 }], size := 3, bytes := 64, zero := Go.Value.agg #[Go.Value.string { data := #[] }, Go.Value.slice Option.none 0 0, Go.Value.slice Option.none 0 0] }
def te100 : TE := { t := 100, desc := Go.TypeDesc.struct #[{ name := "Var", type := 9, offset := 0, embedded := false, tag := "", pkgPath := "", byteOffset := 0 }, { name := "Nodes", type := 97, offset := 1, embedded := false, tag := "", pkgPath := "", byteOffset := 16 }, { name := "Edges", type := 98, offset := 2, embedded := false, tag := "", pkgPath := "", byteOffset := 40 }], size := 3, bytes := 64, zero := Go.Value.agg #[Go.Value.string { data := #[] }, Go.Value.slice Option.none 0 0, Go.Value.slice Option.none 0 0] }
def te102 : TE := { t := 102, desc := Go.TypeDesc.struct #[{ name := "Var", type := 9, offset := 0, embedded := false, tag := "", pkgPath := "", byteOffset := 0 }, { name := "Labels", type := 26, offset := 1, embedded := false, tag := "", pkgPath := "", byteOffset := 16 }, { name := "Props", type := 101, offset := 2, embedded := false, tag := "", pkgPath := "", byteOffset := 40 }], size := 3, bytes := 64, zero := Go.Value.agg #[Go.Value.string { data := #[] }, Go.Value.slice Option.none 0 0, Go.Value.slice Option.none 0 0] }
def te103 : TE := { t := 103, desc := Go.TypeDesc.struct #[{ name := "Var", type := 9, offset := 0, embedded := false, tag := "", pkgPath := "", byteOffset := 0 }, { name := "Labels", type := 26, offset := 1, embedded := false, tag := "", pkgPath := "", byteOffset := 16 }, { name := "Props", type := 101, offset := 2, embedded := false, tag := "", pkgPath := "", byteOffset := 40 }], size := 3, bytes := 64, zero := Go.Value.agg #[Go.Value.string { data := #[] }, Go.Value.slice Option.none 0 0, Go.Value.slice Option.none 0 0] }
def te105 : TE := { t := 105, desc := Go.TypeDesc.struct #[{ name := "Var", type := 9, offset := 0, embedded := false, tag := "", pkgPath := "", byteOffset := 0 }, { name := "Types", type := 26, offset := 1, embedded := false, tag := "", pkgPath := "", byteOffset := 16 }, { name := "Dir", type := 3, offset := 2, embedded := false, tag := "", pkgPath := "", byteOffset := 40 }, { name := "Mode", type := 3, offset := 3, embedded := false, tag := "", pkgPath := "", byteOffset := 48 }, { name := "Min", type := 3, offset := 4, embedded := false, tag := "", pkgPath := "", byteOffset := 56 }, { name := "Max", type := 3, offset := 5, embedded := false, tag := "", pkgPath := "", byteOffset := 64 }, { name := "Props", type := 101, offset := 6, embedded := false, tag := "", pkgPath := "", byteOffset := 72 }], size := 7, bytes := 96, zero := Go.Value.agg #[Go.Value.string { data := #[] }, Go.Value.slice Option.none 0 0, Go.Value.int Go.IntKind.i64 0, Go.Value.int Go.IntKind.i64 0, Go.Value.int Go.IntKind.i64 0, Go.Value.int Go.IntKind.i64 0, Go.Value.slice Option.none 0 0] }
def te106 : TE := { t := 106, desc := Go.TypeDesc.struct #[{ name := "Var", type := 9, offset := 0, embedded := false, tag := "", pkgPath := "", byteOffset := 0 }, { name := "Types", type := 26, offset := 1, embedded := false, tag := "", pkgPath := "", byteOffset := 16 }, { name := "Dir", type := 3, offset := 2, embedded := false, tag := "", pkgPath := "", byteOffset := 40 }, { name := "Mode", type := 3, offset := 3, embedded := false, tag := "", pkgPath := "", byteOffset := 48 }, { name := "Min", type := 3, offset := 4, embedded := false, tag := "", pkgPath := "", byteOffset := 56 }, { name := "Max", type := 3, offset := 5, embedded := false, tag := "", pkgPath := "", byteOffset := 64 }, { name := "Props", type := 101, offset := 6, embedded := false, tag := "", pkgPath := "", byteOffset := 72 }], size := 7, bytes := 96, zero := Go.Value.agg #[Go.Value.string { data := #[] }, Go.Value.slice Option.none 0 0, Go.Value.int Go.IntKind.i64 0, Go.Value.int Go.IntKind.i64 0, Go.Value.int Go.IntKind.i64 0, Go.Value.int Go.IntKind.i64 0, Go.Value.slice Option.none 0 0] }
def te107 : TE := { t := 107, desc := Go.TypeDesc.struct #[{ name := "conj", type := 29, offset := 0, embedded := false, tag := "", pkgPath := "graphdb/atoms", byteOffset := 0 }, { name := "conds", type := 35, offset := 2, embedded := false, tag := "", pkgPath := "graphdb/atoms", byteOffset := 48 }, { name := "unnamed", type := 3, offset := 3, embedded := false, tag := "", pkgPath := "graphdb/atoms", byteOffset := 72 }], size := 4, bytes := 80, zero := Go.Value.agg #[Go.Value.slice Option.none 0 0, Go.Value.slice Option.none 0 0, Go.Value.slice Option.none 0 0, Go.Value.int Go.IntKind.i64 0] }
def te108 : TE := { t := 108, desc := Go.TypeDesc.struct #[{ name := "conj", type := 29, offset := 0, embedded := false, tag := "", pkgPath := "graphdb/atoms", byteOffset := 0 }, { name := "conds", type := 35, offset := 2, embedded := false, tag := "", pkgPath := "graphdb/atoms", byteOffset := 48 }, { name := "unnamed", type := 3, offset := 3, embedded := false, tag := "", pkgPath := "graphdb/atoms", byteOffset := 72 }], size := 4, bytes := 80, zero := Go.Value.agg #[Go.Value.slice Option.none 0 0, Go.Value.slice Option.none 0 0, Go.Value.slice Option.none 0 0, Go.Value.int Go.IntKind.i64 0] }
def te113 : TE := { t := 113, desc := Go.TypeDesc.struct #[{ name := "C", type := 29, offset := 0, embedded := false, tag := "", pkgPath := "", byteOffset := 0 }, { name := "E", type := 35, offset := 2, embedded := false, tag := "", pkgPath := "", byteOffset := 48 }, { name := "Next", type := 3, offset := 3, embedded := false, tag := "", pkgPath := "", byteOffset := 72 }], size := 4, bytes := 80, zero := Go.Value.agg #[Go.Value.slice Option.none 0 0, Go.Value.slice Option.none 0 0, Go.Value.slice Option.none 0 0, Go.Value.int Go.IntKind.i64 0] }
def te114 : TE := { t := 114, desc := Go.TypeDesc.struct #[{ name := "C", type := 29, offset := 0, embedded := false, tag := "", pkgPath := "", byteOffset := 0 }, { name := "E", type := 35, offset := 2, embedded := false, tag := "", pkgPath := "", byteOffset := 48 }, { name := "Next", type := 3, offset := 3, embedded := false, tag := "", pkgPath := "", byteOffset := 72 }], size := 4, bytes := 80, zero := Go.Value.agg #[Go.Value.slice Option.none 0 0, Go.Value.slice Option.none 0 0, Go.Value.slice Option.none 0 0, Go.Value.int Go.IntKind.i64 0] }
def te145 : TE := { t := 145, desc := Go.TypeDesc.struct #[{ name := "s", type := 25, offset := 0, embedded := false, tag := "", pkgPath := "graphdb/estimate", byteOffset := 0 }, { name := "c", type := 29, offset := 6, embedded := false, tag := "", pkgPath := "graphdb/estimate", byteOffset := 112 }, { name := "best", type := 144, offset := 8, embedded := false, tag := "", pkgPath := "graphdb/estimate", byteOffset := 160 }], size := 9, bytes := 184, zero := Go.Value.agg #[Go.Value.int Go.IntKind.i64 0, Go.Value.int Go.IntKind.i64 0, Go.Value.slice Option.none 0 0, Go.Value.slice Option.none 0 0, Go.Value.slice Option.none 0 0, Go.Value.slice Option.none 0 0, Go.Value.slice Option.none 0 0, Go.Value.slice Option.none 0 0, Go.Value.slice Option.none 0 0] }
def te146 : TE := { t := 146, desc := Go.TypeDesc.struct #[{ name := "s", type := 25, offset := 0, embedded := false, tag := "", pkgPath := "graphdb/estimate", byteOffset := 0 }, { name := "c", type := 29, offset := 6, embedded := false, tag := "", pkgPath := "graphdb/estimate", byteOffset := 112 }, { name := "best", type := 144, offset := 8, embedded := false, tag := "", pkgPath := "graphdb/estimate", byteOffset := 160 }], size := 9, bytes := 184, zero := Go.Value.agg #[Go.Value.int Go.IntKind.i64 0, Go.Value.int Go.IntKind.i64 0, Go.Value.slice Option.none 0 0, Go.Value.slice Option.none 0 0, Go.Value.slice Option.none 0 0, Go.Value.slice Option.none 0 0, Go.Value.slice Option.none 0 0, Go.Value.slice Option.none 0 0, Go.Value.slice Option.none 0 0] }
def te157 : TE := { t := 157, desc := Go.TypeDesc.struct #[{ name := "e", type := 48, offset := 0, embedded := false, tag := "", pkgPath := "graphdb/syntax", byteOffset := 0 }], size := 1, bytes := 8, zero := Go.Value.agg #[Go.Value.int Go.IntKind.i64 0] }
def te158 : TE := { t := 158, desc := Go.TypeDesc.struct #[{ name := "e", type := 48, offset := 0, embedded := false, tag := "", pkgPath := "graphdb/syntax", byteOffset := 0 }], size := 1, bytes := 8, zero := Go.Value.agg #[Go.Value.int Go.IntKind.i64 0] }
def te168 : TE := { t := 168, desc := Go.TypeDesc.struct #[{ name := "addr", type := 166, offset := 0, embedded := false, tag := "", pkgPath := "strings", byteOffset := 0 }, { name := "buf", type := 167, offset := 1, embedded := false, tag := "", pkgPath := "strings", byteOffset := 8 }], size := 2, bytes := 32, zero := Go.Value.agg #[Go.Value.pointer Option.none, Go.Value.slice Option.none 0 0] }
def te169 : TE := { t := 169, desc := Go.TypeDesc.struct #[{ name := "addr", type := 166, offset := 0, embedded := false, tag := "", pkgPath := "strings", byteOffset := 0 }, { name := "buf", type := 167, offset := 1, embedded := false, tag := "", pkgPath := "strings", byteOffset := 8 }], size := 2, bytes := 32, zero := Go.Value.agg #[Go.Value.pointer Option.none, Go.Value.slice Option.none 0 0] }
def te176 : TE := { t := 176, desc := Go.TypeDesc.struct #[{ name := "Key", type := 9, offset := 0, embedded := false, tag := "", pkgPath := "", byteOffset := 0 }, { name := "E", type := 40, offset := 1, embedded := false, tag := "", pkgPath := "", byteOffset := 16 }], size := 10, bytes := 136, zero := Go.Value.agg #[Go.Value.string { data := #[] }, Go.Value.int Go.IntKind.i64 0, Go.Value.int Go.IntKind.i64 0, Go.Value.int Go.IntKind.i64 0, Go.Value.int Go.IntKind.i64 0, Go.Value.string { data := #[] }, Go.Value.slice Option.none 0 0, Go.Value.string { data := #[] }, Go.Value.bool false, Go.Value.slice Option.none 0 0] }
def te177 : TE := { t := 177, desc := Go.TypeDesc.struct #[{ name := "Key", type := 9, offset := 0, embedded := false, tag := "", pkgPath := "", byteOffset := 0 }, { name := "E", type := 40, offset := 1, embedded := false, tag := "", pkgPath := "", byteOffset := 16 }], size := 10, bytes := 136, zero := Go.Value.agg #[Go.Value.string { data := #[] }, Go.Value.int Go.IntKind.i64 0, Go.Value.int Go.IntKind.i64 0, Go.Value.int Go.IntKind.i64 0, Go.Value.int Go.IntKind.i64 0, Go.Value.string { data := #[] }, Go.Value.slice Option.none 0 0, Go.Value.string { data := #[] }, Go.Value.bool false, Go.Value.slice Option.none 0 0] }
def te184 : TE := { t := 184, desc := Go.TypeDesc.struct #[{ name := "name", type := 9, offset := 0, embedded := false, tag := "", pkgPath := "graphdb/syntax", byteOffset := 0 }, { name := "names", type := 26, offset := 1, embedded := false, tag := "", pkgPath := "graphdb/syntax", byteOffset := 16 }, { name := "props", type := 101, offset := 2, embedded := false, tag := "", pkgPath := "graphdb/syntax", byteOffset := 40 }], size := 3, bytes := 64, zero := Go.Value.agg #[Go.Value.string { data := #[] }, Go.Value.slice Option.none 0 0, Go.Value.slice Option.none 0 0] }
def te248 : TE := { t := 248, desc := Go.TypeDesc.struct #[{ name := "N", type := 3, offset := 0, embedded := false, tag := "", pkgPath := "", byteOffset := 0 }, { name := "D", type := 3, offset := 1, embedded := false, tag := "", pkgPath := "", byteOffset := 8 }], size := 2, bytes := 16, zero := Go.Value.agg #[Go.Value.int Go.IntKind.i64 0, Go.Value.int Go.IntKind.i64 0] }
def te360 : TE := { t := 360, desc := Go.TypeDesc.struct #[{ name := "lo", type := 5, offset := 0, embedded := false, tag := "", pkgPath := "unicode/utf8", byteOffset := 0 }, { name := "hi", type := 5, offset := 1, embedded := false, tag := "", pkgPath := "unicode/utf8", byteOffset := 1 }], size := 2, bytes := 2, zero := Go.Value.agg #[Go.Value.int Go.IntKind.u8 0, Go.Value.int Go.IntKind.u8 0] }
def te22 : TE := { t := 22, desc := Go.TypeDesc.slice 267, size := 1, bytes := 24, zero := Go.Value.slice Option.none 0 0 }
def te23 : TE := { t := 23, desc := Go.TypeDesc.slice 67, size := 1, bytes := 24, zero := Go.Value.slice Option.none 0 0 }
def te26 : TE := { t := 26, desc := Go.TypeDesc.slice 9, size := 1, bytes := 24, zero := Go.Value.slice Option.none 0 0 }
def te27 : TE := { t := 27, desc := Go.TypeDesc.slice 69, size := 1, bytes := 24, zero := Go.Value.slice Option.none 0 0 }
def te33 : TE := { t := 33, desc := Go.TypeDesc.slice 47, size := 1, bytes := 24, zero := Go.Value.slice Option.none 0 0 }
def te34 : TE := { t := 34, desc := Go.TypeDesc.slice 100, size := 1, bytes := 24, zero := Go.Value.slice Option.none 0 0 }
def te35 : TE := { t := 35, desc := Go.TypeDesc.slice 40, size := 1, bytes := 24, zero := Go.Value.slice Option.none 0 0 }
def te36 : TE := { t := 36, desc := Go.TypeDesc.slice 38, size := 1, bytes := 24, zero := Go.Value.slice Option.none 0 0 }
def te41 : TE := { t := 41, desc := Go.TypeDesc.slice 85, size := 1, bytes := 24, zero := Go.Value.slice Option.none 0 0 }
def te42 : TE := { t := 42, desc := Go.TypeDesc.slice 87, size := 1, bytes := 24, zero := Go.Value.slice Option.none 0 0 }
def te43 : TE := { t := 43, desc := Go.TypeDesc.slice 89, size := 1, bytes := 24, zero := Go.Value.slice Option.none 0 0 }
def te56 : TE := { t := 56, desc := Go.TypeDesc.slice 45, size := 1, bytes := 24, zero := Go.Value.slice Option.none 0 0 }
def te67 : TE := { t := 67, desc := Go.TypeDesc.slice 3, size := 1, bytes := 24, zero := Go.Value.slice Option.none 0 0 }
def te97 : TE := { t := 97, desc := Go.TypeDesc.slice 103, size := 1, bytes := 24, zero := Go.Value.slice Option.none 0 0 }
def te98 : TE := { t := 98, desc := Go.TypeDesc.slice 106, size := 1, bytes := 24, zero := Go.Value.slice Option.none 0 0 }
def te101 : TE := { t := 101, desc := Go.TypeDesc.slice 177, size := 1, bytes := 24, zero := Go.Value.slice Option.none 0 0 }
def te131 : TE := { t := 131, desc := Go.TypeDesc.slice 4, size := 1, bytes := 24, zero := Go.Value.slice Option.none 0 0 }
def te139 : TE := { t := 139, desc := Go.TypeDesc.slice 3, size := 1, bytes := 24, zero := Go.Value.slice Option.none 0 0 }
def te144 : TE := { t := 144, desc := Go.TypeDesc.slice 139, size := 1, bytes := 24, zero := Go.Value.slice Option.none 0 0 }
def te167 : TE := { t := 167, desc := Go.TypeDesc.slice 5, size := 1, bytes := 24, zero := Go.Value.slice Option.none 0 0 }
def te180 : TE := { t := 180, desc := Go.TypeDesc.slice 184, size := 1, bytes := 24, zero := Go.Value.slice Option.none 0 0 }
def te203 : TE := { t := 203, desc := Go.TypeDesc.slice 38, size := 1, bytes := 24, zero := Go.Value.slice Option.none 0 0 }
def te1 : TE := { t := 1, desc := Go.TypeDesc.func #[] #[] false, size := 1, bytes := 8, zero := Go.Value.nilFunc }
def te2 : TE := { t := 2, desc := Go.TypeDesc.int Go.IntKind.i64, size := 1, bytes := 8, zero := Go.Value.int Go.IntKind.i64 0 }
def te5 : TE := { t := 5, desc := Go.TypeDesc.int Go.IntKind.u8, size := 1, bytes := 1, zero := Go.Value.int Go.IntKind.u8 0 }
def te12 : TE := { t := 12, desc := Go.TypeDesc.int Go.IntKind.u64, size := 1, bytes := 8, zero := Go.Value.int Go.IntKind.u64 0 }
def te21 : TE := { t := 21, desc := Go.TypeDesc.int Go.IntKind.i32, size := 1, bytes := 4, zero := Go.Value.int Go.IntKind.i32 0 }
def te30 : TE := { t := 30, desc := Go.TypeDesc.func #[25] #[4] false, size := 1, bytes := 8, zero := Go.Value.nilFunc }
def te31 : TE := { t := 31, desc := Go.TypeDesc.func #[29] #[4] false, size := 1, bytes := 8, zero := Go.Value.nilFunc }
def te32 : TE := { t := 32, desc := Go.TypeDesc.func #[] #[4] false, size := 1, bytes := 8, zero := Go.Value.nilFunc }
def te48 : TE := { t := 48, desc := Go.TypeDesc.int Go.IntKind.i64, size := 1, bytes := 8, zero := Go.Value.int Go.IntKind.i64 0 }
def te50 : TE := { t := 50, desc := Go.TypeDesc.func #[25, 29] #[47, 48] false, size := 1, bytes := 8, zero := Go.Value.nilFunc }
def te51 : TE := { t := 51, desc := Go.TypeDesc.func #[47, 47] #[4] false, size := 1, bytes := 8, zero := Go.Value.nilFunc }
def te52 : TE := { t := 52, desc := Go.TypeDesc.func #[25, 29] #[4] false, size := 1, bytes := 8, zero := Go.Value.nilFunc }
def te53 : TE := { t := 53, desc := Go.TypeDesc.func #[45] #[4] false, size := 1, bytes := 8, zero := Go.Value.nilFunc }
def te55 : TE := { t := 55, desc := Go.TypeDesc.func #[45] #[9, 48] false, size := 1, bytes := 8, zero := Go.Value.nilFunc }
def te59 : TE := { t := 59, desc := Go.TypeDesc.func #[58] #[4] false, size := 1, bytes := 8, zero := Go.Value.nilFunc }
def te60 : TE := { t := 60, desc := Go.TypeDesc.func #[58] #[9, 48] false, size := 1, bytes := 8, zero := Go.Value.nilFunc }
def te61 : TE := { t := 61, desc := Go.TypeDesc.func #[34] #[4] false, size := 1, bytes := 8, zero := Go.Value.nilFunc }
def te63 : TE := { t := 63, desc := Go.TypeDesc.func #[34] #[29, 35, 34] false, size := 1, bytes := 8, zero := Go.Value.nilFunc }
def te64 : TE := { t := 64, desc := Go.TypeDesc.func #[29, 29] #[4] false, size := 1, bytes := 8, zero := Go.Value.nilFunc }
def te65 : TE := { t := 65, desc := Go.TypeDesc.func #[35, 35] #[4] false, size := 1, bytes := 8, zero := Go.Value.nilFunc }
def te66 : TE := { t := 66, desc := Go.TypeDesc.func #[34, 34] #[4] false, size := 1, bytes := 8, zero := Go.Value.nilFunc }
def te70 : TE := { t := 70, desc := Go.TypeDesc.func #[67, 67] #[3] false, size := 1, bytes := 8, zero := Go.Value.nilFunc }
def te71 : TE := { t := 71, desc := Go.TypeDesc.func #[69] #[67] false, size := 1, bytes := 8, zero := Go.Value.nilFunc }
def te72 : TE := { t := 72, desc := Go.TypeDesc.func #[29] #[48] false, size := 1, bytes := 8, zero := Go.Value.nilFunc }
def te73 : TE := { t := 73, desc := Go.TypeDesc.func #[3, 3, 3] #[69] false, size := 1, bytes := 8, zero := Go.Value.nilFunc }
def te74 : TE := { t := 74, desc := Go.TypeDesc.func #[29] #[29] false, size := 1, bytes := 8, zero := Go.Value.nilFunc }
def te75 : TE := { t := 75, desc := Go.TypeDesc.func #[25, 29] #[67] false, size := 1, bytes := 8, zero := Go.Value.nilFunc }
def te76 : TE := { t := 76, desc := Go.TypeDesc.func #[29, 69] #[29] false, size := 1, bytes := 8, zero := Go.Value.nilFunc }
def te77 : TE := { t := 77, desc := Go.TypeDesc.func #[29] #[47] false, size := 1, bytes := 8, zero := Go.Value.nilFunc }
def te78 : TE := { t := 78, desc := Go.TypeDesc.func #[3, 47, 47] #[47] false, size := 1, bytes := 8, zero := Go.Value.nilFunc }
def te79 : TE := { t := 79, desc := Go.TypeDesc.func #[81] #[4] false, size := 1, bytes := 8, zero := Go.Value.nilFunc }
def te82 : TE := { t := 82, desc := Go.TypeDesc.func #[29] #[81] false, size := 1, bytes := 8, zero := Go.Value.nilFunc }
def te83 : TE := { t := 83, desc := Go.TypeDesc.func #[40] #[4] false, size := 1, bytes := 8, zero := Go.Value.nilFunc }
def te90 : TE := { t := 90, desc := Go.TypeDesc.func #[40] #[9, 48] false, size := 1, bytes := 8, zero := Go.Value.nilFunc }
def te91 : TE := { t := 91, desc := Go.TypeDesc.func #[9] #[40] false, size := 1, bytes := 8, zero := Go.Value.nilFunc }
def te92 : TE := { t := 92, desc := Go.TypeDesc.func #[45] #[48] false, size := 1, bytes := 8, zero := Go.Value.nilFunc }
def te93 : TE := { t := 93, desc := Go.TypeDesc.func #[45] #[9] false, size := 1, bytes := 8, zero := Go.Value.nilFunc }
def te95 : TE := { t := 95, desc := Go.TypeDesc.func #[58] #[3, 48] false, size := 1, bytes := 8, zero := Go.Value.nilFunc }
def te96 : TE := { t := 96, desc := Go.TypeDesc.func #[26, 9] #[9] false, size := 1, bytes := 8, zero := Go.Value.nilFunc }
def te104 : TE := { t := 104, desc := Go.TypeDesc.func #[101] #[4] false, size := 1, bytes := 8, zero := Go.Value.nilFunc }
def te109 : TE := { t := 109, desc := Go.TypeDesc.func #[100, 4] #[48] false, size := 1, bytes := 8, zero := Go.Value.nilFunc }
def te110 : TE := { t := 110, desc := Go.TypeDesc.func #[100] #[4] false, size := 1, bytes := 8, zero := Go.Value.nilFunc }
def te111 : TE := { t := 111, desc := Go.TypeDesc.func #[100] #[] false, size := 1, bytes := 8, zero := Go.Value.nilFunc }
def te112 : TE := { t := 112, desc := Go.TypeDesc.func #[100] #[100] false, size := 1, bytes := 8, zero := Go.Value.nilFunc }
def te115 : TE := { t := 115, desc := Go.TypeDesc.func #[114, 100] #[114] false, size := 1, bytes := 8, zero := Go.Value.nilFunc }
def te116 : TE := { t := 116, desc := Go.TypeDesc.func #[69, 69] #[4] false, size := 1, bytes := 8, zero := Go.Value.nilFunc }
def te117 : TE := { t := 117, desc := Go.TypeDesc.func #[40, 40] #[4] false, size := 1, bytes := 8, zero := Go.Value.nilFunc }
def te118 : TE := { t := 118, desc := Go.TypeDesc.func #[69] #[4] false, size := 1, bytes := 8, zero := Go.Value.nilFunc }
def te119 : TE := { t := 119, desc := Go.TypeDesc.func #[67] #[67] false, size := 1, bytes := 8, zero := Go.Value.nilFunc }
def te120 : TE := { t := 120, desc := Go.TypeDesc.func #[122] #[67] false, size := 1, bytes := 8, zero := Go.Value.nilFunc }
def te121 : TE := { t := 121, desc := Go.TypeDesc.func #[206] #[] false, size := 1, bytes := 8, zero := Go.Value.nilFunc }
def te122 : TE := { t := 122, desc := Go.TypeDesc.func #[206] #[] false, size := 1, bytes := 8, zero := Go.Value.nilFunc }
def te123 : TE := { t := 123, desc := Go.TypeDesc.func #[67] #[122] false, size := 1, bytes := 8, zero := Go.Value.nilFunc }
def te124 : TE := { t := 124, desc := Go.TypeDesc.func #[67, 3] #[67] false, size := 1, bytes := 8, zero := Go.Value.nilFunc }
def te125 : TE := { t := 125, desc := Go.TypeDesc.func #[67] #[3] false, size := 1, bytes := 8, zero := Go.Value.nilFunc }
def te126 : TE := { t := 126, desc := Go.TypeDesc.func #[128] #[26] false, size := 1, bytes := 8, zero := Go.Value.nilFunc }
def te127 : TE := { t := 127, desc := Go.TypeDesc.func #[182] #[] false, size := 1, bytes := 8, zero := Go.Value.nilFunc }
def te128 : TE := { t := 128, desc := Go.TypeDesc.func #[182] #[] false, size := 1, bytes := 8, zero := Go.Value.nilFunc }
def te129 : TE := { t := 129, desc := Go.TypeDesc.func #[26] #[128] false, size := 1, bytes := 8, zero := Go.Value.nilFunc }
def te130 : TE := { t := 130, desc := Go.TypeDesc.func #[26] #[26] false, size := 1, bytes := 8, zero := Go.Value.nilFunc }
def te132 : TE := { t := 132, desc := Go.TypeDesc.func #[131, 4] #[4] false, size := 1, bytes := 8, zero := Go.Value.nilFunc }
def te133 : TE := { t := 133, desc := Go.TypeDesc.func #[69, 3] #[4] false, size := 1, bytes := 8, zero := Go.Value.nilFunc }
def te134 : TE := { t := 134, desc := Go.TypeDesc.func #[26] #[4] false, size := 1, bytes := 8, zero := Go.Value.nilFunc }
def te135 : TE := { t := 135, desc := Go.TypeDesc.func #[27, 3] #[4] false, size := 1, bytes := 8, zero := Go.Value.nilFunc }
def te136 : TE := { t := 136, desc := Go.TypeDesc.func #[27] #[27] false, size := 1, bytes := 8, zero := Go.Value.nilFunc }
def te137 : TE := { t := 137, desc := Go.TypeDesc.pointer 146, size := 1, bytes := 8, zero := Go.Value.pointer Option.none }
def te138 : TE := { t := 138, desc := Go.TypeDesc.func #[25, 29] #[137] false, size := 1, bytes := 8, zero := Go.Value.nilFunc }
def te140 : TE := { t := 140, desc := Go.TypeDesc.func #[3] #[139] false, size := 1, bytes := 8, zero := Go.Value.nilFunc }
def te142 : TE := { t := 142, desc := Go.TypeDesc.func #[139, 139] #[139, 4] false, size := 1, bytes := 8, zero := Go.Value.nilFunc }
def te143 : TE := { t := 143, desc := Go.TypeDesc.func #[3, 3] #[139] false, size := 1, bytes := 8, zero := Go.Value.nilFunc }
def te147 : TE := { t := 147, desc := Go.TypeDesc.func #[139, 139] #[3] false, size := 1, bytes := 8, zero := Go.Value.nilFunc }
def te148 : TE := { t := 148, desc := Go.TypeDesc.func #[67, 3] #[3] false, size := 1, bytes := 8, zero := Go.Value.nilFunc }
def te149 : TE := { t := 149, desc := Go.TypeDesc.func #[25, 29] #[144] false, size := 1, bytes := 8, zero := Go.Value.nilFunc }
def te150 : TE := { t := 150, desc := Go.TypeDesc.func #[29, 3] #[67] false, size := 1, bytes := 8, zero := Go.Value.nilFunc }
def te151 : TE := { t := 151, desc := Go.TypeDesc.int Go.IntKind.u64, size := 1, bytes := 8, zero := Go.Value.int Go.IntKind.u64 0 }
def te152 : TE := { t := 152, desc := Go.TypeDesc.func #[25, 69, 67] #[3] false, size := 1, bytes := 8, zero := Go.Value.nilFunc }
def te153 : TE := { t := 153, desc := Go.TypeDesc.func #[81] #[81] false, size := 1, bytes := 8, zero := Go.Value.nilFunc }
def te154 : TE := { t := 154, desc := Go.TypeDesc.func #[40, 3, 3] #[3] false, size := 1, bytes := 8, zero := Go.Value.nilFunc }
def te155 : TE := { t := 155, desc := Go.TypeDesc.func #[40] #[48] false, size := 1, bytes := 8, zero := Go.Value.nilFunc }
def te156 : TE := { t := 156, desc := Go.TypeDesc.func #[40] #[9] false, size := 1, bytes := 8, zero := Go.Value.nilFunc }
def te159 : TE := { t := 159, desc := Go.TypeDesc.func #[48] #[] false, size := 1, bytes := 8, zero := Go.Value.nilFunc }
def te160 : TE := { t := 160, desc := Go.TypeDesc.func #[9] #[] false, size := 1, bytes := 8, zero := Go.Value.nilFunc }
def te161 : TE := { t := 161, desc := Go.TypeDesc.func #[89] #[48] false, size := 1, bytes := 8, zero := Go.Value.nilFunc }
def te162 : TE := { t := 162, desc := Go.TypeDesc.func #[34] #[9] false, size := 1, bytes := 8, zero := Go.Value.nilFunc }
def te163 : TE := { t := 163, desc := Go.TypeDesc.func #[35] #[9] false, size := 1, bytes := 8, zero := Go.Value.nilFunc }
def te164 : TE := { t := 164, desc := Go.TypeDesc.func #[43] #[9] false, size := 1, bytes := 8, zero := Go.Value.nilFunc }
def te165 : TE := { t := 165, desc := Go.TypeDesc.func #[26] #[9] false, size := 1, bytes := 8, zero := Go.Value.nilFunc }
def te166 : TE := { t := 166, desc := Go.TypeDesc.pointer 169, size := 1, bytes := 8, zero := Go.Value.pointer Option.none }
def te178 : TE := { t := 178, desc := Go.TypeDesc.func #[98, 179] #[4] false, size := 1, bytes := 8, zero := Go.Value.nilFunc }
def te179 : TE := { t := 179, desc := Go.TypeDesc.func #[106] #[4] false, size := 1, bytes := 8, zero := Go.Value.nilFunc }
def te181 : TE := { t := 181, desc := Go.TypeDesc.func #[100] #[180] false, size := 1, bytes := 8, zero := Go.Value.nilFunc }
def te182 : TE := { t := 182, desc := Go.TypeDesc.func #[9] #[4] false, size := 1, bytes := 8, zero := Go.Value.nilFunc }
def te191 : TE := { t := 191, desc := Go.TypeDesc.func #[97] #[97] false, size := 1, bytes := 8, zero := Go.Value.nilFunc }
def te194 : TE := { t := 194, desc := Go.TypeDesc.func #[100] #[48] false, size := 1, bytes := 8, zero := Go.Value.nilFunc }
def te200 : TE := { t := 200, desc := Go.TypeDesc.func #[114, 3, 101, 4] #[114] false, size := 1, bytes := 8, zero := Go.Value.nilFunc }
def te201 : TE := { t := 201, desc := Go.TypeDesc.func #[38, 38] #[3] false, size := 1, bytes := 8, zero := Go.Value.nilFunc }
def te205 : TE := { t := 205, desc := Go.TypeDesc.func #[67] #[] false, size := 1, bytes := 8, zero := Go.Value.nilFunc }
def te210 : TE := { t := 210, desc := Go.TypeDesc.func #[26, 182] #[4] false, size := 1, bytes := 8, zero := Go.Value.nilFunc }
def te215 : TE := { t := 215, desc := Go.TypeDesc.func #[139] #[139] false, size := 1, bytes := 8, zero := Go.Value.nilFunc }
def te216 : TE := { t := 216, desc := Go.TypeDesc.func #[3, 3] #[3] false, size := 1, bytes := 8, zero := Go.Value.nilFunc }
def te217 : TE := { t := 217, desc := Go.TypeDesc.func #[67, 3] #[4] false, size := 1, bytes := 8, zero := Go.Value.nilFunc }
def te222 : TE := { t := 222, desc := Go.TypeDesc.func #[23, 23, 223] #[4] false, size := 1, bytes := 8, zero := Go.Value.nilFunc }
def te226 : TE := { t := 226, desc := Go.TypeDesc.func #[40, 4] #[48] false, size := 1, bytes := 8, zero := Go.Value.nilFunc }
def te227 : TE := { t := 227, desc := Go.TypeDesc.func #[38] #[9] false, size := 1, bytes := 8, zero := Go.Value.nilFunc }
def te229 : TE := { t := 229, desc := Go.TypeDesc.func #[67] #[4] true, size := 1, bytes := 8, zero := Go.Value.nilFunc }
def te230 : TE := { t := 230, desc := Go.TypeDesc.func #[3, 3, 3] #[4] false, size := 1, bytes := 8, zero := Go.Value.nilFunc }
def te231 : TE := { t := 231, desc := Go.TypeDesc.pointer 158, size := 1, bytes := 8, zero := Go.Value.pointer Option.none }
def te235 : TE := { t := 235, desc := Go.TypeDesc.func #[100] #[9] false, size := 1, bytes := 8, zero := Go.Value.nilFunc }
def te238 : TE := { t := 238, desc := Go.TypeDesc.pointer 5, size := 1, bytes := 8, zero := Go.Value.pointer Option.none }
def te243 : TE := { t := 243, desc := Go.TypeDesc.func #[177] #[4] false, size := 1, bytes := 8, zero := Go.Value.nilFunc }
def te246 : TE := { t := 246, desc := Go.TypeDesc.func #[4] #[3] false, size := 1, bytes := 8, zero := Go.Value.nilFunc }
def te250 : TE := { t := 250, desc := Go.TypeDesc.func #[38] #[248, 4] false, size := 1, bytes := 8, zero := Go.Value.nilFunc }
def te255 : TE := { t := 255, desc := Go.TypeDesc.func #[151] #[3] false, size := 1, bytes := 8, zero := Go.Value.nilFunc }
def te257 : TE := { t := 257, desc := Go.TypeDesc.func #[9, 9] #[3] false, size := 1, bytes := 8, zero := Go.Value.nilFunc }
def te258 : TE := { t := 258, desc := Go.TypeDesc.func #[36, 36, 201] #[3] false, size := 1, bytes := 8, zero := Go.Value.nilFunc }
def te261 : TE := { t := 261, desc := Go.TypeDesc.func #[5] #[4] false, size := 1, bytes := 8, zero := Go.Value.nilFunc }
def te262 : TE := { t := 262, desc := Go.TypeDesc.func #[26, 182] #[3] false, size := 1, bytes := 8, zero := Go.Value.nilFunc }
def te275 : TE := { t := 275, desc := Go.TypeDesc.func #[9, 9] #[4] false, size := 1, bytes := 8, zero := Go.Value.nilFunc }
def te277 : TE := { t := 277, desc := Go.TypeDesc.func #[35, 83] #[3] false, size := 1, bytes := 8, zero := Go.Value.nilFunc }
def te279 : TE := { t := 279, desc := Go.TypeDesc.func #[3] #[38] false, size := 1, bytes := 8, zero := Go.Value.nilFunc }
def te281 : TE := { t := 281, desc := Go.TypeDesc.func #[36, 36] #[3] false, size := 1, bytes := 8, zero := Go.Value.nilFunc }
def te282 : TE := { t := 282, desc := Go.TypeDesc.func #[248] #[4] false, size := 1, bytes := 8, zero := Go.Value.nilFunc }
def te290 : TE := { t := 290, desc := Go.TypeDesc.func #[67, 3, 3] #[4] false, size := 1, bytes := 8, zero := Go.Value.nilFunc }
def te296 : TE := { t := 296, desc := Go.TypeDesc.int Go.IntKind.u32, size := 1, bytes := 4, zero := Go.Value.int Go.IntKind.u32 0 }
def te298 : TE := { t := 298, desc := Go.TypeDesc.int Go.IntKind.u64, size := 1, bytes := 8, zero := Go.Value.int Go.IntKind.u64 0 }
def te299 : TE := { t := 299, desc := Go.TypeDesc.func #[38] #[3] false, size := 1, bytes := 8, zero := Go.Value.nilFunc }
def te304 : TE := { t := 304, desc := Go.TypeDesc.func #[26, 3, 3, 3] #[3, 4] false, size := 1, bytes := 8, zero := Go.Value.nilFunc }
def te306 : TE := { t := 306, desc := Go.TypeDesc.func #[22, 307] #[3] false, size := 1, bytes := 8, zero := Go.Value.nilFunc }
def te307 : TE := { t := 307, desc := Go.TypeDesc.func #[267] #[4] false, size := 1, bytes := 8, zero := Go.Value.nilFunc }
def te309 : TE := { t := 309, desc := Go.TypeDesc.func #[9] #[3, 3] false, size := 1, bytes := 8, zero := Go.Value.nilFunc }
def te316 : TE := { t := 316, desc := Go.TypeDesc.func #[9, 9] #[9] false, size := 1, bytes := 8, zero := Go.Value.nilFunc }
def te321 : TE := { t := 321, desc := Go.TypeDesc.func #[67, 67] #[67] false, size := 1, bytes := 8, zero := Go.Value.nilFunc }
def te323 : TE := { t := 323, desc := Go.TypeDesc.func #[3] #[151] false, size := 1, bytes := 8, zero := Go.Value.nilFunc }
def te328 : TE := { t := 328, desc := Go.TypeDesc.func #[9, 329] #[3] false, size := 1, bytes := 8, zero := Go.Value.nilFunc }
def te329 : TE := { t := 329, desc := Go.TypeDesc.func #[21] #[4] false, size := 1, bytes := 8, zero := Go.Value.nilFunc }
def te335 : TE := { t := 335, desc := Go.TypeDesc.func #[26, 3, 326] #[3] false, size := 1, bytes := 8, zero := Go.Value.nilFunc }
def te349 : TE := { t := 349, desc := Go.TypeDesc.func #[331] #[4] false, size := 1, bytes := 8, zero := Go.Value.nilFunc }
def te357 : TE := { t := 357, desc := Go.TypeDesc.func #[9] #[296, 296] false, size := 1, bytes := 8, zero := Go.Value.nilFunc }
theorem ok3 : te3.ok Tryz.prog := ⟨Tryz.underlying3, Tryz.t3, Tryz.type3, rfl, rfl, rfl⟩
theorem ok4 : te4.ok Tryz.prog := ⟨Tryz.underlying4, Tryz.t4, Tryz.type4, rfl, rfl, rfl⟩
theorem ok9 : te9.ok Tryz.prog := ⟨Tryz.underlying9, Tryz.t9, Tryz.type9, rfl, rfl, rfl⟩
theorem ok24 : te24.ok Tryz.prog := ⟨Tryz.underlying24, Tryz.t24, Tryz.type24, rfl, rfl, rfl⟩
theorem ok25 : te25.ok Tryz.prog := ⟨Tryz.underlying25, Tryz.t25, Tryz.type25, rfl, rfl, rfl⟩
theorem ok28 : te28.ok Tryz.prog := ⟨Tryz.underlying28, Tryz.t28, Tryz.type28, rfl, rfl, rfl⟩
theorem ok29 : te29.ok Tryz.prog := ⟨Tryz.underlying29, Tryz.t29, Tryz.type29, rfl, rfl, rfl⟩
theorem ok37 : te37.ok Tryz.prog := ⟨Tryz.underlying37, Tryz.t37, Tryz.type37, rfl, rfl, rfl⟩
theorem ok38 : te38.ok Tryz.prog := ⟨Tryz.underlying38, Tryz.t38, Tryz.type38, rfl, rfl, rfl⟩
theorem ok39 : te39.ok Tryz.prog := ⟨Tryz.underlying39, Tryz.t39, Tryz.type39, rfl, rfl, rfl⟩
theorem ok40 : te40.ok Tryz.prog := ⟨Tryz.underlying40, Tryz.t40, Tryz.type40, rfl, rfl, rfl⟩
theorem ok44 : te44.ok Tryz.prog := ⟨Tryz.underlying44, Tryz.t44, Tryz.type44, rfl, rfl, rfl⟩
theorem ok45 : te45.ok Tryz.prog := ⟨Tryz.underlying45, Tryz.t45, Tryz.type45, rfl, rfl, rfl⟩
theorem ok46 : te46.ok Tryz.prog := ⟨Tryz.underlying46, Tryz.t46, Tryz.type46, rfl, rfl, rfl⟩
theorem ok47 : te47.ok Tryz.prog := ⟨Tryz.underlying47, Tryz.t47, Tryz.type47, rfl, rfl, rfl⟩
theorem ok57 : te57.ok Tryz.prog := ⟨Tryz.underlying57, Tryz.t57, Tryz.type57, rfl, rfl, rfl⟩
theorem ok58 : te58.ok Tryz.prog := ⟨Tryz.underlying58, Tryz.t58, Tryz.type58, rfl, rfl, rfl⟩
theorem ok68 : te68.ok Tryz.prog := ⟨Tryz.underlying68, Tryz.t68, Tryz.type68, rfl, rfl, rfl⟩
theorem ok69 : te69.ok Tryz.prog := ⟨Tryz.underlying69, Tryz.t69, Tryz.type69, rfl, rfl, rfl⟩
theorem ok80 : te80.ok Tryz.prog := ⟨Tryz.underlying80, Tryz.t80, Tryz.type80, rfl, rfl, rfl⟩
theorem ok81 : te81.ok Tryz.prog := ⟨Tryz.underlying81, Tryz.t81, Tryz.type81, rfl, rfl, rfl⟩
theorem ok84 : te84.ok Tryz.prog := ⟨Tryz.underlying84, Tryz.t84, Tryz.type84, rfl, rfl, rfl⟩
theorem ok85 : te85.ok Tryz.prog := ⟨Tryz.underlying85, Tryz.t85, Tryz.type85, rfl, rfl, rfl⟩
theorem ok86 : te86.ok Tryz.prog := ⟨Tryz.underlying86, Tryz.t86, Tryz.type86, rfl, rfl, rfl⟩
theorem ok87 : te87.ok Tryz.prog := ⟨Tryz.underlying87, Tryz.t87, Tryz.type87, rfl, rfl, rfl⟩
theorem ok88 : te88.ok Tryz.prog := ⟨Tryz.underlying88, Tryz.t88, Tryz.type88, rfl, rfl, rfl⟩
theorem ok89 : te89.ok Tryz.prog := ⟨Tryz.underlying89, Tryz.t89, Tryz.type89, rfl, rfl, rfl⟩
theorem ok99 : te99.ok Tryz.prog := ⟨Tryz.underlying99, Tryz.t99, Tryz.type99, rfl, rfl, rfl⟩
theorem ok100 : te100.ok Tryz.prog := ⟨Tryz.underlying100, Tryz.t100, Tryz.type100, rfl, rfl, rfl⟩
theorem ok102 : te102.ok Tryz.prog := ⟨Tryz.underlying102, Tryz.t102, Tryz.type102, rfl, rfl, rfl⟩
theorem ok103 : te103.ok Tryz.prog := ⟨Tryz.underlying103, Tryz.t103, Tryz.type103, rfl, rfl, rfl⟩
theorem ok105 : te105.ok Tryz.prog := ⟨Tryz.underlying105, Tryz.t105, Tryz.type105, rfl, rfl, rfl⟩
theorem ok106 : te106.ok Tryz.prog := ⟨Tryz.underlying106, Tryz.t106, Tryz.type106, rfl, rfl, rfl⟩
theorem ok107 : te107.ok Tryz.prog := ⟨Tryz.underlying107, Tryz.t107, Tryz.type107, rfl, rfl, rfl⟩
theorem ok108 : te108.ok Tryz.prog := ⟨Tryz.underlying108, Tryz.t108, Tryz.type108, rfl, rfl, rfl⟩
theorem ok113 : te113.ok Tryz.prog := ⟨Tryz.underlying113, Tryz.t113, Tryz.type113, rfl, rfl, rfl⟩
theorem ok114 : te114.ok Tryz.prog := ⟨Tryz.underlying114, Tryz.t114, Tryz.type114, rfl, rfl, rfl⟩
theorem ok145 : te145.ok Tryz.prog := ⟨Tryz.underlying145, Tryz.t145, Tryz.type145, rfl, rfl, rfl⟩
theorem ok146 : te146.ok Tryz.prog := ⟨Tryz.underlying146, Tryz.t146, Tryz.type146, rfl, rfl, rfl⟩
theorem ok157 : te157.ok Tryz.prog := ⟨Tryz.underlying157, Tryz.t157, Tryz.type157, rfl, rfl, rfl⟩
theorem ok158 : te158.ok Tryz.prog := ⟨Tryz.underlying158, Tryz.t158, Tryz.type158, rfl, rfl, rfl⟩
theorem ok168 : te168.ok Tryz.prog := ⟨Tryz.underlying168, Tryz.t168, Tryz.type168, rfl, rfl, rfl⟩
theorem ok169 : te169.ok Tryz.prog := ⟨Tryz.underlying169, Tryz.t169, Tryz.type169, rfl, rfl, rfl⟩
theorem ok176 : te176.ok Tryz.prog := ⟨Tryz.underlying176, Tryz.t176, Tryz.type176, rfl, rfl, rfl⟩
theorem ok177 : te177.ok Tryz.prog := ⟨Tryz.underlying177, Tryz.t177, Tryz.type177, rfl, rfl, rfl⟩
theorem ok184 : te184.ok Tryz.prog := ⟨Tryz.underlying184, Tryz.t184, Tryz.type184, rfl, rfl, rfl⟩
theorem ok248 : te248.ok Tryz.prog := ⟨Tryz.underlying248, Tryz.t248, Tryz.type248, rfl, rfl, rfl⟩
theorem ok360 : te360.ok Tryz.prog := ⟨Tryz.underlying360, Tryz.t360, Tryz.type360, rfl, rfl, rfl⟩
theorem ok22 : te22.ok Tryz.prog := ⟨Tryz.underlying22, Tryz.t22, Tryz.type22, rfl, rfl, rfl⟩
theorem ok23 : te23.ok Tryz.prog := ⟨Tryz.underlying23, Tryz.t23, Tryz.type23, rfl, rfl, rfl⟩
theorem ok26 : te26.ok Tryz.prog := ⟨Tryz.underlying26, Tryz.t26, Tryz.type26, rfl, rfl, rfl⟩
theorem ok27 : te27.ok Tryz.prog := ⟨Tryz.underlying27, Tryz.t27, Tryz.type27, rfl, rfl, rfl⟩
theorem ok33 : te33.ok Tryz.prog := ⟨Tryz.underlying33, Tryz.t33, Tryz.type33, rfl, rfl, rfl⟩
theorem ok34 : te34.ok Tryz.prog := ⟨Tryz.underlying34, Tryz.t34, Tryz.type34, rfl, rfl, rfl⟩
theorem ok35 : te35.ok Tryz.prog := ⟨Tryz.underlying35, Tryz.t35, Tryz.type35, rfl, rfl, rfl⟩
theorem ok36 : te36.ok Tryz.prog := ⟨Tryz.underlying36, Tryz.t36, Tryz.type36, rfl, rfl, rfl⟩
theorem ok41 : te41.ok Tryz.prog := ⟨Tryz.underlying41, Tryz.t41, Tryz.type41, rfl, rfl, rfl⟩
theorem ok42 : te42.ok Tryz.prog := ⟨Tryz.underlying42, Tryz.t42, Tryz.type42, rfl, rfl, rfl⟩
theorem ok43 : te43.ok Tryz.prog := ⟨Tryz.underlying43, Tryz.t43, Tryz.type43, rfl, rfl, rfl⟩
theorem ok56 : te56.ok Tryz.prog := ⟨Tryz.underlying56, Tryz.t56, Tryz.type56, rfl, rfl, rfl⟩
theorem ok67 : te67.ok Tryz.prog := ⟨Tryz.underlying67, Tryz.t67, Tryz.type67, rfl, rfl, rfl⟩
theorem ok97 : te97.ok Tryz.prog := ⟨Tryz.underlying97, Tryz.t97, Tryz.type97, rfl, rfl, rfl⟩
theorem ok98 : te98.ok Tryz.prog := ⟨Tryz.underlying98, Tryz.t98, Tryz.type98, rfl, rfl, rfl⟩
theorem ok101 : te101.ok Tryz.prog := ⟨Tryz.underlying101, Tryz.t101, Tryz.type101, rfl, rfl, rfl⟩
theorem ok131 : te131.ok Tryz.prog := ⟨Tryz.underlying131, Tryz.t131, Tryz.type131, rfl, rfl, rfl⟩
theorem ok139 : te139.ok Tryz.prog := ⟨Tryz.underlying139, Tryz.t139, Tryz.type139, rfl, rfl, rfl⟩
theorem ok144 : te144.ok Tryz.prog := ⟨Tryz.underlying144, Tryz.t144, Tryz.type144, rfl, rfl, rfl⟩
theorem ok167 : te167.ok Tryz.prog := ⟨Tryz.underlying167, Tryz.t167, Tryz.type167, rfl, rfl, rfl⟩
theorem ok180 : te180.ok Tryz.prog := ⟨Tryz.underlying180, Tryz.t180, Tryz.type180, rfl, rfl, rfl⟩
theorem ok203 : te203.ok Tryz.prog := ⟨Tryz.underlying203, Tryz.t203, Tryz.type203, rfl, rfl, rfl⟩
theorem ok1 : te1.ok Tryz.prog := ⟨Tryz.underlying1, Tryz.t1, Tryz.type1, rfl, rfl, rfl⟩
theorem ok2 : te2.ok Tryz.prog := ⟨Tryz.underlying2, Tryz.t2, Tryz.type2, rfl, rfl, rfl⟩
theorem ok5 : te5.ok Tryz.prog := ⟨Tryz.underlying5, Tryz.t5, Tryz.type5, rfl, rfl, rfl⟩
theorem ok12 : te12.ok Tryz.prog := ⟨Tryz.underlying12, Tryz.t12, Tryz.type12, rfl, rfl, rfl⟩
theorem ok21 : te21.ok Tryz.prog := ⟨Tryz.underlying21, Tryz.t21, Tryz.type21, rfl, rfl, rfl⟩
theorem ok30 : te30.ok Tryz.prog := ⟨Tryz.underlying30, Tryz.t30, Tryz.type30, rfl, rfl, rfl⟩
theorem ok31 : te31.ok Tryz.prog := ⟨Tryz.underlying31, Tryz.t31, Tryz.type31, rfl, rfl, rfl⟩
theorem ok32 : te32.ok Tryz.prog := ⟨Tryz.underlying32, Tryz.t32, Tryz.type32, rfl, rfl, rfl⟩
theorem ok48 : te48.ok Tryz.prog := ⟨Tryz.underlying48, Tryz.t48, Tryz.type48, rfl, rfl, rfl⟩
theorem ok50 : te50.ok Tryz.prog := ⟨Tryz.underlying50, Tryz.t50, Tryz.type50, rfl, rfl, rfl⟩
theorem ok51 : te51.ok Tryz.prog := ⟨Tryz.underlying51, Tryz.t51, Tryz.type51, rfl, rfl, rfl⟩
theorem ok52 : te52.ok Tryz.prog := ⟨Tryz.underlying52, Tryz.t52, Tryz.type52, rfl, rfl, rfl⟩
theorem ok53 : te53.ok Tryz.prog := ⟨Tryz.underlying53, Tryz.t53, Tryz.type53, rfl, rfl, rfl⟩
theorem ok55 : te55.ok Tryz.prog := ⟨Tryz.underlying55, Tryz.t55, Tryz.type55, rfl, rfl, rfl⟩
theorem ok59 : te59.ok Tryz.prog := ⟨Tryz.underlying59, Tryz.t59, Tryz.type59, rfl, rfl, rfl⟩
theorem ok60 : te60.ok Tryz.prog := ⟨Tryz.underlying60, Tryz.t60, Tryz.type60, rfl, rfl, rfl⟩
theorem ok61 : te61.ok Tryz.prog := ⟨Tryz.underlying61, Tryz.t61, Tryz.type61, rfl, rfl, rfl⟩
theorem ok63 : te63.ok Tryz.prog := ⟨Tryz.underlying63, Tryz.t63, Tryz.type63, rfl, rfl, rfl⟩
theorem ok64 : te64.ok Tryz.prog := ⟨Tryz.underlying64, Tryz.t64, Tryz.type64, rfl, rfl, rfl⟩
theorem ok65 : te65.ok Tryz.prog := ⟨Tryz.underlying65, Tryz.t65, Tryz.type65, rfl, rfl, rfl⟩
theorem ok66 : te66.ok Tryz.prog := ⟨Tryz.underlying66, Tryz.t66, Tryz.type66, rfl, rfl, rfl⟩
theorem ok70 : te70.ok Tryz.prog := ⟨Tryz.underlying70, Tryz.t70, Tryz.type70, rfl, rfl, rfl⟩
theorem ok71 : te71.ok Tryz.prog := ⟨Tryz.underlying71, Tryz.t71, Tryz.type71, rfl, rfl, rfl⟩
theorem ok72 : te72.ok Tryz.prog := ⟨Tryz.underlying72, Tryz.t72, Tryz.type72, rfl, rfl, rfl⟩
theorem ok73 : te73.ok Tryz.prog := ⟨Tryz.underlying73, Tryz.t73, Tryz.type73, rfl, rfl, rfl⟩
theorem ok74 : te74.ok Tryz.prog := ⟨Tryz.underlying74, Tryz.t74, Tryz.type74, rfl, rfl, rfl⟩
theorem ok75 : te75.ok Tryz.prog := ⟨Tryz.underlying75, Tryz.t75, Tryz.type75, rfl, rfl, rfl⟩
theorem ok76 : te76.ok Tryz.prog := ⟨Tryz.underlying76, Tryz.t76, Tryz.type76, rfl, rfl, rfl⟩
theorem ok77 : te77.ok Tryz.prog := ⟨Tryz.underlying77, Tryz.t77, Tryz.type77, rfl, rfl, rfl⟩
theorem ok78 : te78.ok Tryz.prog := ⟨Tryz.underlying78, Tryz.t78, Tryz.type78, rfl, rfl, rfl⟩
theorem ok79 : te79.ok Tryz.prog := ⟨Tryz.underlying79, Tryz.t79, Tryz.type79, rfl, rfl, rfl⟩
theorem ok82 : te82.ok Tryz.prog := ⟨Tryz.underlying82, Tryz.t82, Tryz.type82, rfl, rfl, rfl⟩
theorem ok83 : te83.ok Tryz.prog := ⟨Tryz.underlying83, Tryz.t83, Tryz.type83, rfl, rfl, rfl⟩
theorem ok90 : te90.ok Tryz.prog := ⟨Tryz.underlying90, Tryz.t90, Tryz.type90, rfl, rfl, rfl⟩
theorem ok91 : te91.ok Tryz.prog := ⟨Tryz.underlying91, Tryz.t91, Tryz.type91, rfl, rfl, rfl⟩
theorem ok92 : te92.ok Tryz.prog := ⟨Tryz.underlying92, Tryz.t92, Tryz.type92, rfl, rfl, rfl⟩
theorem ok93 : te93.ok Tryz.prog := ⟨Tryz.underlying93, Tryz.t93, Tryz.type93, rfl, rfl, rfl⟩
theorem ok95 : te95.ok Tryz.prog := ⟨Tryz.underlying95, Tryz.t95, Tryz.type95, rfl, rfl, rfl⟩
theorem ok96 : te96.ok Tryz.prog := ⟨Tryz.underlying96, Tryz.t96, Tryz.type96, rfl, rfl, rfl⟩
theorem ok104 : te104.ok Tryz.prog := ⟨Tryz.underlying104, Tryz.t104, Tryz.type104, rfl, rfl, rfl⟩
theorem ok109 : te109.ok Tryz.prog := ⟨Tryz.underlying109, Tryz.t109, Tryz.type109, rfl, rfl, rfl⟩
theorem ok110 : te110.ok Tryz.prog := ⟨Tryz.underlying110, Tryz.t110, Tryz.type110, rfl, rfl, rfl⟩
theorem ok111 : te111.ok Tryz.prog := ⟨Tryz.underlying111, Tryz.t111, Tryz.type111, rfl, rfl, rfl⟩
theorem ok112 : te112.ok Tryz.prog := ⟨Tryz.underlying112, Tryz.t112, Tryz.type112, rfl, rfl, rfl⟩
theorem ok115 : te115.ok Tryz.prog := ⟨Tryz.underlying115, Tryz.t115, Tryz.type115, rfl, rfl, rfl⟩
theorem ok116 : te116.ok Tryz.prog := ⟨Tryz.underlying116, Tryz.t116, Tryz.type116, rfl, rfl, rfl⟩
theorem ok117 : te117.ok Tryz.prog := ⟨Tryz.underlying117, Tryz.t117, Tryz.type117, rfl, rfl, rfl⟩
theorem ok118 : te118.ok Tryz.prog := ⟨Tryz.underlying118, Tryz.t118, Tryz.type118, rfl, rfl, rfl⟩
theorem ok119 : te119.ok Tryz.prog := ⟨Tryz.underlying119, Tryz.t119, Tryz.type119, rfl, rfl, rfl⟩
theorem ok120 : te120.ok Tryz.prog := ⟨Tryz.underlying120, Tryz.t120, Tryz.type120, rfl, rfl, rfl⟩
theorem ok121 : te121.ok Tryz.prog := ⟨Tryz.underlying121, Tryz.t121, Tryz.type121, rfl, rfl, rfl⟩
theorem ok122 : te122.ok Tryz.prog := ⟨Tryz.underlying122, Tryz.t122, Tryz.type122, rfl, rfl, rfl⟩
theorem ok123 : te123.ok Tryz.prog := ⟨Tryz.underlying123, Tryz.t123, Tryz.type123, rfl, rfl, rfl⟩
theorem ok124 : te124.ok Tryz.prog := ⟨Tryz.underlying124, Tryz.t124, Tryz.type124, rfl, rfl, rfl⟩
theorem ok125 : te125.ok Tryz.prog := ⟨Tryz.underlying125, Tryz.t125, Tryz.type125, rfl, rfl, rfl⟩
theorem ok126 : te126.ok Tryz.prog := ⟨Tryz.underlying126, Tryz.t126, Tryz.type126, rfl, rfl, rfl⟩
theorem ok127 : te127.ok Tryz.prog := ⟨Tryz.underlying127, Tryz.t127, Tryz.type127, rfl, rfl, rfl⟩
theorem ok128 : te128.ok Tryz.prog := ⟨Tryz.underlying128, Tryz.t128, Tryz.type128, rfl, rfl, rfl⟩
theorem ok129 : te129.ok Tryz.prog := ⟨Tryz.underlying129, Tryz.t129, Tryz.type129, rfl, rfl, rfl⟩
theorem ok130 : te130.ok Tryz.prog := ⟨Tryz.underlying130, Tryz.t130, Tryz.type130, rfl, rfl, rfl⟩
theorem ok132 : te132.ok Tryz.prog := ⟨Tryz.underlying132, Tryz.t132, Tryz.type132, rfl, rfl, rfl⟩
theorem ok133 : te133.ok Tryz.prog := ⟨Tryz.underlying133, Tryz.t133, Tryz.type133, rfl, rfl, rfl⟩
theorem ok134 : te134.ok Tryz.prog := ⟨Tryz.underlying134, Tryz.t134, Tryz.type134, rfl, rfl, rfl⟩
theorem ok135 : te135.ok Tryz.prog := ⟨Tryz.underlying135, Tryz.t135, Tryz.type135, rfl, rfl, rfl⟩
theorem ok136 : te136.ok Tryz.prog := ⟨Tryz.underlying136, Tryz.t136, Tryz.type136, rfl, rfl, rfl⟩
theorem ok137 : te137.ok Tryz.prog := ⟨Tryz.underlying137, Tryz.t137, Tryz.type137, rfl, rfl, rfl⟩
theorem ok138 : te138.ok Tryz.prog := ⟨Tryz.underlying138, Tryz.t138, Tryz.type138, rfl, rfl, rfl⟩
theorem ok140 : te140.ok Tryz.prog := ⟨Tryz.underlying140, Tryz.t140, Tryz.type140, rfl, rfl, rfl⟩
theorem ok142 : te142.ok Tryz.prog := ⟨Tryz.underlying142, Tryz.t142, Tryz.type142, rfl, rfl, rfl⟩
theorem ok143 : te143.ok Tryz.prog := ⟨Tryz.underlying143, Tryz.t143, Tryz.type143, rfl, rfl, rfl⟩
theorem ok147 : te147.ok Tryz.prog := ⟨Tryz.underlying147, Tryz.t147, Tryz.type147, rfl, rfl, rfl⟩
theorem ok148 : te148.ok Tryz.prog := ⟨Tryz.underlying148, Tryz.t148, Tryz.type148, rfl, rfl, rfl⟩
theorem ok149 : te149.ok Tryz.prog := ⟨Tryz.underlying149, Tryz.t149, Tryz.type149, rfl, rfl, rfl⟩
theorem ok150 : te150.ok Tryz.prog := ⟨Tryz.underlying150, Tryz.t150, Tryz.type150, rfl, rfl, rfl⟩
theorem ok151 : te151.ok Tryz.prog := ⟨Tryz.underlying151, Tryz.t151, Tryz.type151, rfl, rfl, rfl⟩
theorem ok152 : te152.ok Tryz.prog := ⟨Tryz.underlying152, Tryz.t152, Tryz.type152, rfl, rfl, rfl⟩
theorem ok153 : te153.ok Tryz.prog := ⟨Tryz.underlying153, Tryz.t153, Tryz.type153, rfl, rfl, rfl⟩
theorem ok154 : te154.ok Tryz.prog := ⟨Tryz.underlying154, Tryz.t154, Tryz.type154, rfl, rfl, rfl⟩
theorem ok155 : te155.ok Tryz.prog := ⟨Tryz.underlying155, Tryz.t155, Tryz.type155, rfl, rfl, rfl⟩
theorem ok156 : te156.ok Tryz.prog := ⟨Tryz.underlying156, Tryz.t156, Tryz.type156, rfl, rfl, rfl⟩
theorem ok159 : te159.ok Tryz.prog := ⟨Tryz.underlying159, Tryz.t159, Tryz.type159, rfl, rfl, rfl⟩
theorem ok160 : te160.ok Tryz.prog := ⟨Tryz.underlying160, Tryz.t160, Tryz.type160, rfl, rfl, rfl⟩
theorem ok161 : te161.ok Tryz.prog := ⟨Tryz.underlying161, Tryz.t161, Tryz.type161, rfl, rfl, rfl⟩
theorem ok162 : te162.ok Tryz.prog := ⟨Tryz.underlying162, Tryz.t162, Tryz.type162, rfl, rfl, rfl⟩
theorem ok163 : te163.ok Tryz.prog := ⟨Tryz.underlying163, Tryz.t163, Tryz.type163, rfl, rfl, rfl⟩
theorem ok164 : te164.ok Tryz.prog := ⟨Tryz.underlying164, Tryz.t164, Tryz.type164, rfl, rfl, rfl⟩
theorem ok165 : te165.ok Tryz.prog := ⟨Tryz.underlying165, Tryz.t165, Tryz.type165, rfl, rfl, rfl⟩
theorem ok166 : te166.ok Tryz.prog := ⟨Tryz.underlying166, Tryz.t166, Tryz.type166, rfl, rfl, rfl⟩
theorem ok178 : te178.ok Tryz.prog := ⟨Tryz.underlying178, Tryz.t178, Tryz.type178, rfl, rfl, rfl⟩
theorem ok179 : te179.ok Tryz.prog := ⟨Tryz.underlying179, Tryz.t179, Tryz.type179, rfl, rfl, rfl⟩
theorem ok181 : te181.ok Tryz.prog := ⟨Tryz.underlying181, Tryz.t181, Tryz.type181, rfl, rfl, rfl⟩
theorem ok182 : te182.ok Tryz.prog := ⟨Tryz.underlying182, Tryz.t182, Tryz.type182, rfl, rfl, rfl⟩
theorem ok191 : te191.ok Tryz.prog := ⟨Tryz.underlying191, Tryz.t191, Tryz.type191, rfl, rfl, rfl⟩
theorem ok194 : te194.ok Tryz.prog := ⟨Tryz.underlying194, Tryz.t194, Tryz.type194, rfl, rfl, rfl⟩
theorem ok200 : te200.ok Tryz.prog := ⟨Tryz.underlying200, Tryz.t200, Tryz.type200, rfl, rfl, rfl⟩
theorem ok201 : te201.ok Tryz.prog := ⟨Tryz.underlying201, Tryz.t201, Tryz.type201, rfl, rfl, rfl⟩
theorem ok205 : te205.ok Tryz.prog := ⟨Tryz.underlying205, Tryz.t205, Tryz.type205, rfl, rfl, rfl⟩
theorem ok210 : te210.ok Tryz.prog := ⟨Tryz.underlying210, Tryz.t210, Tryz.type210, rfl, rfl, rfl⟩
theorem ok215 : te215.ok Tryz.prog := ⟨Tryz.underlying215, Tryz.t215, Tryz.type215, rfl, rfl, rfl⟩
theorem ok216 : te216.ok Tryz.prog := ⟨Tryz.underlying216, Tryz.t216, Tryz.type216, rfl, rfl, rfl⟩
theorem ok217 : te217.ok Tryz.prog := ⟨Tryz.underlying217, Tryz.t217, Tryz.type217, rfl, rfl, rfl⟩
theorem ok222 : te222.ok Tryz.prog := ⟨Tryz.underlying222, Tryz.t222, Tryz.type222, rfl, rfl, rfl⟩
theorem ok226 : te226.ok Tryz.prog := ⟨Tryz.underlying226, Tryz.t226, Tryz.type226, rfl, rfl, rfl⟩
theorem ok227 : te227.ok Tryz.prog := ⟨Tryz.underlying227, Tryz.t227, Tryz.type227, rfl, rfl, rfl⟩
theorem ok229 : te229.ok Tryz.prog := ⟨Tryz.underlying229, Tryz.t229, Tryz.type229, rfl, rfl, rfl⟩
theorem ok230 : te230.ok Tryz.prog := ⟨Tryz.underlying230, Tryz.t230, Tryz.type230, rfl, rfl, rfl⟩
theorem ok231 : te231.ok Tryz.prog := ⟨Tryz.underlying231, Tryz.t231, Tryz.type231, rfl, rfl, rfl⟩
theorem ok235 : te235.ok Tryz.prog := ⟨Tryz.underlying235, Tryz.t235, Tryz.type235, rfl, rfl, rfl⟩
theorem ok238 : te238.ok Tryz.prog := ⟨Tryz.underlying238, Tryz.t238, Tryz.type238, rfl, rfl, rfl⟩
theorem ok243 : te243.ok Tryz.prog := ⟨Tryz.underlying243, Tryz.t243, Tryz.type243, rfl, rfl, rfl⟩
theorem ok246 : te246.ok Tryz.prog := ⟨Tryz.underlying246, Tryz.t246, Tryz.type246, rfl, rfl, rfl⟩
theorem ok250 : te250.ok Tryz.prog := ⟨Tryz.underlying250, Tryz.t250, Tryz.type250, rfl, rfl, rfl⟩
theorem ok255 : te255.ok Tryz.prog := ⟨Tryz.underlying255, Tryz.t255, Tryz.type255, rfl, rfl, rfl⟩
theorem ok257 : te257.ok Tryz.prog := ⟨Tryz.underlying257, Tryz.t257, Tryz.type257, rfl, rfl, rfl⟩
theorem ok258 : te258.ok Tryz.prog := ⟨Tryz.underlying258, Tryz.t258, Tryz.type258, rfl, rfl, rfl⟩
theorem ok261 : te261.ok Tryz.prog := ⟨Tryz.underlying261, Tryz.t261, Tryz.type261, rfl, rfl, rfl⟩
theorem ok262 : te262.ok Tryz.prog := ⟨Tryz.underlying262, Tryz.t262, Tryz.type262, rfl, rfl, rfl⟩
theorem ok275 : te275.ok Tryz.prog := ⟨Tryz.underlying275, Tryz.t275, Tryz.type275, rfl, rfl, rfl⟩
theorem ok277 : te277.ok Tryz.prog := ⟨Tryz.underlying277, Tryz.t277, Tryz.type277, rfl, rfl, rfl⟩
theorem ok279 : te279.ok Tryz.prog := ⟨Tryz.underlying279, Tryz.t279, Tryz.type279, rfl, rfl, rfl⟩
theorem ok281 : te281.ok Tryz.prog := ⟨Tryz.underlying281, Tryz.t281, Tryz.type281, rfl, rfl, rfl⟩
theorem ok282 : te282.ok Tryz.prog := ⟨Tryz.underlying282, Tryz.t282, Tryz.type282, rfl, rfl, rfl⟩
theorem ok290 : te290.ok Tryz.prog := ⟨Tryz.underlying290, Tryz.t290, Tryz.type290, rfl, rfl, rfl⟩
theorem ok296 : te296.ok Tryz.prog := ⟨Tryz.underlying296, Tryz.t296, Tryz.type296, rfl, rfl, rfl⟩
theorem ok298 : te298.ok Tryz.prog := ⟨Tryz.underlying298, Tryz.t298, Tryz.type298, rfl, rfl, rfl⟩
theorem ok299 : te299.ok Tryz.prog := ⟨Tryz.underlying299, Tryz.t299, Tryz.type299, rfl, rfl, rfl⟩
theorem ok304 : te304.ok Tryz.prog := ⟨Tryz.underlying304, Tryz.t304, Tryz.type304, rfl, rfl, rfl⟩
theorem ok306 : te306.ok Tryz.prog := ⟨Tryz.underlying306, Tryz.t306, Tryz.type306, rfl, rfl, rfl⟩
theorem ok307 : te307.ok Tryz.prog := ⟨Tryz.underlying307, Tryz.t307, Tryz.type307, rfl, rfl, rfl⟩
theorem ok309 : te309.ok Tryz.prog := ⟨Tryz.underlying309, Tryz.t309, Tryz.type309, rfl, rfl, rfl⟩
theorem ok316 : te316.ok Tryz.prog := ⟨Tryz.underlying316, Tryz.t316, Tryz.type316, rfl, rfl, rfl⟩
theorem ok321 : te321.ok Tryz.prog := ⟨Tryz.underlying321, Tryz.t321, Tryz.type321, rfl, rfl, rfl⟩
theorem ok323 : te323.ok Tryz.prog := ⟨Tryz.underlying323, Tryz.t323, Tryz.type323, rfl, rfl, rfl⟩
theorem ok328 : te328.ok Tryz.prog := ⟨Tryz.underlying328, Tryz.t328, Tryz.type328, rfl, rfl, rfl⟩
theorem ok329 : te329.ok Tryz.prog := ⟨Tryz.underlying329, Tryz.t329, Tryz.type329, rfl, rfl, rfl⟩
theorem ok335 : te335.ok Tryz.prog := ⟨Tryz.underlying335, Tryz.t335, Tryz.type335, rfl, rfl, rfl⟩
theorem ok349 : te349.ok Tryz.prog := ⟨Tryz.underlying349, Tryz.t349, Tryz.type349, rfl, rfl, rfl⟩
theorem ok357 : te357.ok Tryz.prog := ⟨Tryz.underlying357, Tryz.t357, Tryz.type357, rfl, rfl, rfl⟩
def seatT : List TE := [te3, te4, te9, te24, te25, te28, te29, te37, te38, te39, te40, te44, te45, te46, te47, te57, te58, te68, te69, te80, te81, te84, te85, te86, te87, te88, te89, te99, te100, te102, te103, te105, te106, te107, te108, te113, te114, te145, te146, te157, te158, te168, te169, te176, te177, te184, te248, te360, te22, te23, te26, te27, te33, te34, te35, te36, te41, te42, te43, te56, te67, te97, te98, te101, te131, te139, te144, te167, te180, te203, te1, te2, te5, te12, te21, te30, te31, te32, te48, te50, te51, te52, te53, te55, te59, te60, te61, te63, te64, te65, te66, te70, te71, te72, te73, te74, te75, te76, te77, te78, te79, te82, te83, te90, te91, te92, te93, te95, te96, te104, te109, te110, te111, te112, te115, te116, te117, te118, te119, te120, te121, te122, te123, te124, te125, te126, te127, te128, te129, te130, te132, te133, te134, te135, te136, te137, te138, te140, te142, te143, te147, te148, te149, te150, te151, te152, te153, te154, te155, te156, te159, te160, te161, te162, te163, te164, te165, te166, te178, te179, te181, te182, te191, te194, te200, te201, te205, te210, te215, te216, te217, te222, te226, te227, te229, te230, te231, te235, te238, te243, te246, te250, te255, te257, te258, te261, te262, te275, te277, te279, te281, te282, te290, te296, te298, te299, te304, te306, te307, te309, te316, te321, te323, te328, te329, te335, te349, te357]
theorem seatT_ok : ∀ e ∈ seatT, e.ok Tryz.prog := by
  unfold seatT
  refine List.forall_mem_cons.2 ⟨ok3, ?_⟩
  refine List.forall_mem_cons.2 ⟨ok4, ?_⟩
  refine List.forall_mem_cons.2 ⟨ok9, ?_⟩
  refine List.forall_mem_cons.2 ⟨ok24, ?_⟩
  refine List.forall_mem_cons.2 ⟨ok25, ?_⟩
  refine List.forall_mem_cons.2 ⟨ok28, ?_⟩
  refine List.forall_mem_cons.2 ⟨ok29, ?_⟩
  refine List.forall_mem_cons.2 ⟨ok37, ?_⟩
  refine List.forall_mem_cons.2 ⟨ok38, ?_⟩
  refine List.forall_mem_cons.2 ⟨ok39, ?_⟩
  refine List.forall_mem_cons.2 ⟨ok40, ?_⟩
  refine List.forall_mem_cons.2 ⟨ok44, ?_⟩
  refine List.forall_mem_cons.2 ⟨ok45, ?_⟩
  refine List.forall_mem_cons.2 ⟨ok46, ?_⟩
  refine List.forall_mem_cons.2 ⟨ok47, ?_⟩
  refine List.forall_mem_cons.2 ⟨ok57, ?_⟩
  refine List.forall_mem_cons.2 ⟨ok58, ?_⟩
  refine List.forall_mem_cons.2 ⟨ok68, ?_⟩
  refine List.forall_mem_cons.2 ⟨ok69, ?_⟩
  refine List.forall_mem_cons.2 ⟨ok80, ?_⟩
  refine List.forall_mem_cons.2 ⟨ok81, ?_⟩
  refine List.forall_mem_cons.2 ⟨ok84, ?_⟩
  refine List.forall_mem_cons.2 ⟨ok85, ?_⟩
  refine List.forall_mem_cons.2 ⟨ok86, ?_⟩
  refine List.forall_mem_cons.2 ⟨ok87, ?_⟩
  refine List.forall_mem_cons.2 ⟨ok88, ?_⟩
  refine List.forall_mem_cons.2 ⟨ok89, ?_⟩
  refine List.forall_mem_cons.2 ⟨ok99, ?_⟩
  refine List.forall_mem_cons.2 ⟨ok100, ?_⟩
  refine List.forall_mem_cons.2 ⟨ok102, ?_⟩
  refine List.forall_mem_cons.2 ⟨ok103, ?_⟩
  refine List.forall_mem_cons.2 ⟨ok105, ?_⟩
  refine List.forall_mem_cons.2 ⟨ok106, ?_⟩
  refine List.forall_mem_cons.2 ⟨ok107, ?_⟩
  refine List.forall_mem_cons.2 ⟨ok108, ?_⟩
  refine List.forall_mem_cons.2 ⟨ok113, ?_⟩
  refine List.forall_mem_cons.2 ⟨ok114, ?_⟩
  refine List.forall_mem_cons.2 ⟨ok145, ?_⟩
  refine List.forall_mem_cons.2 ⟨ok146, ?_⟩
  refine List.forall_mem_cons.2 ⟨ok157, ?_⟩
  refine List.forall_mem_cons.2 ⟨ok158, ?_⟩
  refine List.forall_mem_cons.2 ⟨ok168, ?_⟩
  refine List.forall_mem_cons.2 ⟨ok169, ?_⟩
  refine List.forall_mem_cons.2 ⟨ok176, ?_⟩
  refine List.forall_mem_cons.2 ⟨ok177, ?_⟩
  refine List.forall_mem_cons.2 ⟨ok184, ?_⟩
  refine List.forall_mem_cons.2 ⟨ok248, ?_⟩
  refine List.forall_mem_cons.2 ⟨ok360, ?_⟩
  refine List.forall_mem_cons.2 ⟨ok22, ?_⟩
  refine List.forall_mem_cons.2 ⟨ok23, ?_⟩
  refine List.forall_mem_cons.2 ⟨ok26, ?_⟩
  refine List.forall_mem_cons.2 ⟨ok27, ?_⟩
  refine List.forall_mem_cons.2 ⟨ok33, ?_⟩
  refine List.forall_mem_cons.2 ⟨ok34, ?_⟩
  refine List.forall_mem_cons.2 ⟨ok35, ?_⟩
  refine List.forall_mem_cons.2 ⟨ok36, ?_⟩
  refine List.forall_mem_cons.2 ⟨ok41, ?_⟩
  refine List.forall_mem_cons.2 ⟨ok42, ?_⟩
  refine List.forall_mem_cons.2 ⟨ok43, ?_⟩
  refine List.forall_mem_cons.2 ⟨ok56, ?_⟩
  refine List.forall_mem_cons.2 ⟨ok67, ?_⟩
  refine List.forall_mem_cons.2 ⟨ok97, ?_⟩
  refine List.forall_mem_cons.2 ⟨ok98, ?_⟩
  refine List.forall_mem_cons.2 ⟨ok101, ?_⟩
  refine List.forall_mem_cons.2 ⟨ok131, ?_⟩
  refine List.forall_mem_cons.2 ⟨ok139, ?_⟩
  refine List.forall_mem_cons.2 ⟨ok144, ?_⟩
  refine List.forall_mem_cons.2 ⟨ok167, ?_⟩
  refine List.forall_mem_cons.2 ⟨ok180, ?_⟩
  refine List.forall_mem_cons.2 ⟨ok203, ?_⟩
  refine List.forall_mem_cons.2 ⟨ok1, ?_⟩
  refine List.forall_mem_cons.2 ⟨ok2, ?_⟩
  refine List.forall_mem_cons.2 ⟨ok5, ?_⟩
  refine List.forall_mem_cons.2 ⟨ok12, ?_⟩
  refine List.forall_mem_cons.2 ⟨ok21, ?_⟩
  refine List.forall_mem_cons.2 ⟨ok30, ?_⟩
  refine List.forall_mem_cons.2 ⟨ok31, ?_⟩
  refine List.forall_mem_cons.2 ⟨ok32, ?_⟩
  refine List.forall_mem_cons.2 ⟨ok48, ?_⟩
  refine List.forall_mem_cons.2 ⟨ok50, ?_⟩
  refine List.forall_mem_cons.2 ⟨ok51, ?_⟩
  refine List.forall_mem_cons.2 ⟨ok52, ?_⟩
  refine List.forall_mem_cons.2 ⟨ok53, ?_⟩
  refine List.forall_mem_cons.2 ⟨ok55, ?_⟩
  refine List.forall_mem_cons.2 ⟨ok59, ?_⟩
  refine List.forall_mem_cons.2 ⟨ok60, ?_⟩
  refine List.forall_mem_cons.2 ⟨ok61, ?_⟩
  refine List.forall_mem_cons.2 ⟨ok63, ?_⟩
  refine List.forall_mem_cons.2 ⟨ok64, ?_⟩
  refine List.forall_mem_cons.2 ⟨ok65, ?_⟩
  refine List.forall_mem_cons.2 ⟨ok66, ?_⟩
  refine List.forall_mem_cons.2 ⟨ok70, ?_⟩
  refine List.forall_mem_cons.2 ⟨ok71, ?_⟩
  refine List.forall_mem_cons.2 ⟨ok72, ?_⟩
  refine List.forall_mem_cons.2 ⟨ok73, ?_⟩
  refine List.forall_mem_cons.2 ⟨ok74, ?_⟩
  refine List.forall_mem_cons.2 ⟨ok75, ?_⟩
  refine List.forall_mem_cons.2 ⟨ok76, ?_⟩
  refine List.forall_mem_cons.2 ⟨ok77, ?_⟩
  refine List.forall_mem_cons.2 ⟨ok78, ?_⟩
  refine List.forall_mem_cons.2 ⟨ok79, ?_⟩
  refine List.forall_mem_cons.2 ⟨ok82, ?_⟩
  refine List.forall_mem_cons.2 ⟨ok83, ?_⟩
  refine List.forall_mem_cons.2 ⟨ok90, ?_⟩
  refine List.forall_mem_cons.2 ⟨ok91, ?_⟩
  refine List.forall_mem_cons.2 ⟨ok92, ?_⟩
  refine List.forall_mem_cons.2 ⟨ok93, ?_⟩
  refine List.forall_mem_cons.2 ⟨ok95, ?_⟩
  refine List.forall_mem_cons.2 ⟨ok96, ?_⟩
  refine List.forall_mem_cons.2 ⟨ok104, ?_⟩
  refine List.forall_mem_cons.2 ⟨ok109, ?_⟩
  refine List.forall_mem_cons.2 ⟨ok110, ?_⟩
  refine List.forall_mem_cons.2 ⟨ok111, ?_⟩
  refine List.forall_mem_cons.2 ⟨ok112, ?_⟩
  refine List.forall_mem_cons.2 ⟨ok115, ?_⟩
  refine List.forall_mem_cons.2 ⟨ok116, ?_⟩
  refine List.forall_mem_cons.2 ⟨ok117, ?_⟩
  refine List.forall_mem_cons.2 ⟨ok118, ?_⟩
  refine List.forall_mem_cons.2 ⟨ok119, ?_⟩
  refine List.forall_mem_cons.2 ⟨ok120, ?_⟩
  refine List.forall_mem_cons.2 ⟨ok121, ?_⟩
  refine List.forall_mem_cons.2 ⟨ok122, ?_⟩
  refine List.forall_mem_cons.2 ⟨ok123, ?_⟩
  refine List.forall_mem_cons.2 ⟨ok124, ?_⟩
  refine List.forall_mem_cons.2 ⟨ok125, ?_⟩
  refine List.forall_mem_cons.2 ⟨ok126, ?_⟩
  refine List.forall_mem_cons.2 ⟨ok127, ?_⟩
  refine List.forall_mem_cons.2 ⟨ok128, ?_⟩
  refine List.forall_mem_cons.2 ⟨ok129, ?_⟩
  refine List.forall_mem_cons.2 ⟨ok130, ?_⟩
  refine List.forall_mem_cons.2 ⟨ok132, ?_⟩
  refine List.forall_mem_cons.2 ⟨ok133, ?_⟩
  refine List.forall_mem_cons.2 ⟨ok134, ?_⟩
  refine List.forall_mem_cons.2 ⟨ok135, ?_⟩
  refine List.forall_mem_cons.2 ⟨ok136, ?_⟩
  refine List.forall_mem_cons.2 ⟨ok137, ?_⟩
  refine List.forall_mem_cons.2 ⟨ok138, ?_⟩
  refine List.forall_mem_cons.2 ⟨ok140, ?_⟩
  refine List.forall_mem_cons.2 ⟨ok142, ?_⟩
  refine List.forall_mem_cons.2 ⟨ok143, ?_⟩
  refine List.forall_mem_cons.2 ⟨ok147, ?_⟩
  refine List.forall_mem_cons.2 ⟨ok148, ?_⟩
  refine List.forall_mem_cons.2 ⟨ok149, ?_⟩
  refine List.forall_mem_cons.2 ⟨ok150, ?_⟩
  refine List.forall_mem_cons.2 ⟨ok151, ?_⟩
  refine List.forall_mem_cons.2 ⟨ok152, ?_⟩
  refine List.forall_mem_cons.2 ⟨ok153, ?_⟩
  refine List.forall_mem_cons.2 ⟨ok154, ?_⟩
  refine List.forall_mem_cons.2 ⟨ok155, ?_⟩
  refine List.forall_mem_cons.2 ⟨ok156, ?_⟩
  refine List.forall_mem_cons.2 ⟨ok159, ?_⟩
  refine List.forall_mem_cons.2 ⟨ok160, ?_⟩
  refine List.forall_mem_cons.2 ⟨ok161, ?_⟩
  refine List.forall_mem_cons.2 ⟨ok162, ?_⟩
  refine List.forall_mem_cons.2 ⟨ok163, ?_⟩
  refine List.forall_mem_cons.2 ⟨ok164, ?_⟩
  refine List.forall_mem_cons.2 ⟨ok165, ?_⟩
  refine List.forall_mem_cons.2 ⟨ok166, ?_⟩
  refine List.forall_mem_cons.2 ⟨ok178, ?_⟩
  refine List.forall_mem_cons.2 ⟨ok179, ?_⟩
  refine List.forall_mem_cons.2 ⟨ok181, ?_⟩
  refine List.forall_mem_cons.2 ⟨ok182, ?_⟩
  refine List.forall_mem_cons.2 ⟨ok191, ?_⟩
  refine List.forall_mem_cons.2 ⟨ok194, ?_⟩
  refine List.forall_mem_cons.2 ⟨ok200, ?_⟩
  refine List.forall_mem_cons.2 ⟨ok201, ?_⟩
  refine List.forall_mem_cons.2 ⟨ok205, ?_⟩
  refine List.forall_mem_cons.2 ⟨ok210, ?_⟩
  refine List.forall_mem_cons.2 ⟨ok215, ?_⟩
  refine List.forall_mem_cons.2 ⟨ok216, ?_⟩
  refine List.forall_mem_cons.2 ⟨ok217, ?_⟩
  refine List.forall_mem_cons.2 ⟨ok222, ?_⟩
  refine List.forall_mem_cons.2 ⟨ok226, ?_⟩
  refine List.forall_mem_cons.2 ⟨ok227, ?_⟩
  refine List.forall_mem_cons.2 ⟨ok229, ?_⟩
  refine List.forall_mem_cons.2 ⟨ok230, ?_⟩
  refine List.forall_mem_cons.2 ⟨ok231, ?_⟩
  refine List.forall_mem_cons.2 ⟨ok235, ?_⟩
  refine List.forall_mem_cons.2 ⟨ok238, ?_⟩
  refine List.forall_mem_cons.2 ⟨ok243, ?_⟩
  refine List.forall_mem_cons.2 ⟨ok246, ?_⟩
  refine List.forall_mem_cons.2 ⟨ok250, ?_⟩
  refine List.forall_mem_cons.2 ⟨ok255, ?_⟩
  refine List.forall_mem_cons.2 ⟨ok257, ?_⟩
  refine List.forall_mem_cons.2 ⟨ok258, ?_⟩
  refine List.forall_mem_cons.2 ⟨ok261, ?_⟩
  refine List.forall_mem_cons.2 ⟨ok262, ?_⟩
  refine List.forall_mem_cons.2 ⟨ok275, ?_⟩
  refine List.forall_mem_cons.2 ⟨ok277, ?_⟩
  refine List.forall_mem_cons.2 ⟨ok279, ?_⟩
  refine List.forall_mem_cons.2 ⟨ok281, ?_⟩
  refine List.forall_mem_cons.2 ⟨ok282, ?_⟩
  refine List.forall_mem_cons.2 ⟨ok290, ?_⟩
  refine List.forall_mem_cons.2 ⟨ok296, ?_⟩
  refine List.forall_mem_cons.2 ⟨ok298, ?_⟩
  refine List.forall_mem_cons.2 ⟨ok299, ?_⟩
  refine List.forall_mem_cons.2 ⟨ok304, ?_⟩
  refine List.forall_mem_cons.2 ⟨ok306, ?_⟩
  refine List.forall_mem_cons.2 ⟨ok307, ?_⟩
  refine List.forall_mem_cons.2 ⟨ok309, ?_⟩
  refine List.forall_mem_cons.2 ⟨ok316, ?_⟩
  refine List.forall_mem_cons.2 ⟨ok321, ?_⟩
  refine List.forall_mem_cons.2 ⟨ok323, ?_⟩
  refine List.forall_mem_cons.2 ⟨ok328, ?_⟩
  refine List.forall_mem_cons.2 ⟨ok329, ?_⟩
  refine List.forall_mem_cons.2 ⟨ok335, ?_⟩
  refine List.forall_mem_cons.2 ⟨ok349, ?_⟩
  refine List.forall_mem_cons.2 ⟨ok357, ?_⟩
  intro e h; cases h
def seatG : List GE := []
/-- The table of powers of ten is as laid, and the library's bound on lengths is some int. -/
def seatI (w : World) (F : Nat → Prop) : Prop := (F 2 ∧ Lib.TabIs Tryz.prog w "internal/strconv.uint64pow10" .u64 Lib.pow10Tab) ∧ (F 0 ∧ ∃ m : Int, w.cell? ⟨0, 0, none⟩ = some (.int .i64 m))
theorem seatI_mono : ∀ (w w' : World) (F F' : Nat → Prop), (∀ b, F b → F' b) → (∀ b, F b → w'.heap[b]? = w.heap[b]?) → seatI w F → seatI w' F' := by
  rintro w w' F F' hF hw ⟨h1, h2⟩
  refine ⟨?_, ?_⟩
  · obtain ⟨a, b⟩ := h1
    have hg : Program.globalNamed Tryz.prog "internal/strconv.uint64pow10" = some 2 := by kernel_rfl
    refine ⟨hF _ a, ?_⟩
    unfold Lib.TabIs World.var? at b ⊢
    rw [hg] at b ⊢
    simp only [Option.bind_some] at b ⊢
    rw [hw _ a]
    exact b
  · obtain ⟨a, m, b⟩ := h2
    exact ⟨hF _ a, m, by rw [World.cell?_of_block (hw _ a)]; exact b⟩
theorem seatM : Tryz.prog.follows .mixedOrders = true := by kernel_rfl
noncomputable def E : Env := { P := Tryz.prog, T := seatT, G := seatG, hT := seatT_ok, hM := seatM, I := seatI, hI := seatI_mono }
theorem b2 : HasBody E 2 := by intro args w; dsimp only [E]; exact Tryz.call2 args w
theorem b3 : HasBody E 3 := by intro args w; dsimp only [E]; exact Tryz.call3 args w
theorem b4 : HasBody E 4 := by intro args w; dsimp only [E]; exact Tryz.call4 args w
theorem b16 : HasBody E 16 := by intro args w; dsimp only [E]; exact Tryz.call16 args w
theorem b17 : HasBody E 17 := by intro args w; dsimp only [E]; exact Tryz.call17 args w
theorem b18 : HasBody E 18 := by intro args w; dsimp only [E]; exact Tryz.call18 args w
theorem b19 : HasBody E 19 := by intro args w; dsimp only [E]; exact Tryz.call19 args w
theorem b20 : HasBody E 20 := by intro args w; dsimp only [E]; exact Tryz.call20 args w
theorem b21 : HasBody E 21 := by intro args w; dsimp only [E]; exact Tryz.call21 args w
theorem b22 : HasBody E 22 := by intro args w; dsimp only [E]; exact Tryz.call22 args w
theorem b23 : HasBody E 23 := by intro args w; dsimp only [E]; exact Tryz.call23 args w
theorem b49 : HasBody E 49 := by intro args w; dsimp only [E]; exact Tryz.call49 args w
theorem b50 : HasBody E 50 := by intro args w; dsimp only [E]; exact Tryz.call50 args w
theorem b51 : HasBody E 51 := by intro args w; dsimp only [E]; exact Tryz.call51 args w
theorem b52 : HasBody E 52 := by intro args w; dsimp only [E]; exact Tryz.call52 args w
theorem b53 : HasBody E 53 := by intro args w; dsimp only [E]; exact Tryz.call53 args w
theorem b54 : HasBody E 54 := by intro args w; dsimp only [E]; exact Tryz.call54 args w
theorem b55 : HasBody E 55 := by intro args w; dsimp only [E]; exact Tryz.call55 args w
theorem b56 : HasBody E 56 := by intro args w; dsimp only [E]; exact Tryz.call56 args w
theorem b57 : HasBody E 57 := by intro args w; dsimp only [E]; exact Tryz.call57 args w
theorem b58 : HasBody E 58 := by intro args w; dsimp only [E]; exact Tryz.call58 args w
theorem b59 : HasBody E 59 := by intro args w; dsimp only [E]; exact Tryz.call59 args w
theorem b60 : HasBody E 60 := by intro args w; dsimp only [E]; exact Tryz.call60 args w
theorem b64 : HasBody E 64 := by intro args w; dsimp only [E]; exact Tryz.call64 args w
theorem b94 : HasBody E 94 := by intro args w; dsimp only [E]; exact Tryz.call94 args w
theorem b107 : HasBody E 107 := by intro args w; dsimp only [E]; exact Tryz.call107 args w
theorem b108 : HasBody E 108 := by intro args w; dsimp only [E]; exact Tryz.call108 args w
theorem b109 : HasBody E 109 := by intro args w; dsimp only [E]; exact Tryz.call109 args w
theorem b110 : HasBody E 110 := by intro args w; dsimp only [E]; exact Tryz.call110 args w
theorem b111 : HasBody E 111 := by intro args w; dsimp only [E]; exact Tryz.call111 args w
theorem b112 : HasBody E 112 := by intro args w; dsimp only [E]; exact Tryz.call112 args w
theorem b113 : HasBody E 113 := by intro args w; dsimp only [E]; exact Tryz.call113 args w
theorem b114 : HasBody E 114 := by intro args w; dsimp only [E]; exact Tryz.call114 args w
theorem b115 : HasBody E 115 := by intro args w; dsimp only [E]; exact Tryz.call115 args w
theorem b116 : HasBody E 116 := by intro args w; dsimp only [E]; exact Tryz.call116 args w
theorem b117 : HasBody E 117 := by intro args w; dsimp only [E]; exact Tryz.call117 args w
theorem b118 : HasBody E 118 := by intro args w; dsimp only [E]; exact Tryz.call118 args w
theorem b119 : HasBody E 119 := by intro args w; dsimp only [E]; exact Tryz.call119 args w
theorem b120 : HasBody E 120 := by intro args w; dsimp only [E]; exact Tryz.call120 args w
theorem b121 : HasBody E 121 := by intro args w; dsimp only [E]; exact Tryz.call121 args w
theorem b122 : HasBody E 122 := by intro args w; dsimp only [E]; exact Tryz.call122 args w
theorem b123 : HasBody E 123 := by intro args w; dsimp only [E]; exact Tryz.call123 args w
theorem b124 : HasBody E 124 := by intro args w; dsimp only [E]; exact Tryz.call124 args w
theorem b125 : HasBody E 125 := by intro args w; dsimp only [E]; exact Tryz.call125 args w
theorem b126 : HasBody E 126 := by intro args w; dsimp only [E]; exact Tryz.call126 args w
theorem b127 : HasBody E 127 := by intro args w; dsimp only [E]; exact Tryz.call127 args w
theorem b131 : HasBody E 131 := by intro args w; dsimp only [E]; exact Tryz.call131 args w
theorem b132 : HasBody E 132 := by intro args w; dsimp only [E]; exact Tryz.call132 args w
theorem b133 : HasBody E 133 := by intro args w; dsimp only [E]; exact Tryz.call133 args w
theorem b134 : HasBody E 134 := by intro args w; dsimp only [E]; exact Tryz.call134 args w
theorem b135 : HasBody E 135 := by intro args w; dsimp only [E]; exact Tryz.call135 args w
theorem b136 : HasBody E 136 := by intro args w; dsimp only [E]; exact Tryz.call136 args w
theorem b137 : HasBody E 137 := by intro args w; dsimp only [E]; exact Tryz.call137 args w
theorem b138 : HasBody E 138 := by intro args w; dsimp only [E]; exact Tryz.call138 args w
theorem b139 : HasBody E 139 := by intro args w; dsimp only [E]; exact Tryz.call139 args w
theorem b140 : HasBody E 140 := by intro args w; dsimp only [E]; exact Tryz.call140 args w
theorem b141 : HasBody E 141 := by intro args w; dsimp only [E]; exact Tryz.call141 args w
theorem b142 : HasBody E 142 := by intro args w; dsimp only [E]; exact Tryz.call142 args w
theorem b151 : HasBody E 151 := by intro args w; dsimp only [E]; exact Tryz.call151 args w
theorem b152 : HasBody E 152 := by intro args w; dsimp only [E]; exact Tryz.call152 args w
theorem b153 : HasBody E 153 := by intro args w; dsimp only [E]; exact Tryz.call153 args w
theorem b154 : HasBody E 154 := by intro args w; dsimp only [E]; exact Tryz.call154 args w
theorem b171 : HasBody E 171 := by intro args w; dsimp only [E]; exact Tryz.call171 args w
theorem b172 : HasBody E 172 := by intro args w; dsimp only [E]; exact Tryz.call172 args w
theorem b179 : HasBody E 179 := by intro args w; dsimp only [E]; exact Tryz.call179 args w
theorem b197 : HasBody E 197 := by intro args w; dsimp only [E]; exact Tryz.call197 args w
theorem b198 : HasBody E 198 := by intro args w; dsimp only [E]; exact Tryz.call198 args w
theorem b199 : HasBody E 199 := by intro args w; dsimp only [E]; exact Tryz.call199 args w
theorem b200 : HasBody E 200 := by intro args w; dsimp only [E]; exact Tryz.call200 args w
theorem b201 : HasBody E 201 := by intro args w; dsimp only [E]; exact Tryz.call201 args w
theorem b202 : HasBody E 202 := by intro args w; dsimp only [E]; exact Tryz.call202 args w
theorem b203 : HasBody E 203 := by intro args w; dsimp only [E]; exact Tryz.call203 args w
theorem b204 : HasBody E 204 := by intro args w; dsimp only [E]; exact Tryz.call204 args w
theorem b205 : HasBody E 205 := by intro args w; dsimp only [E]; exact Tryz.call205 args w
theorem b206 : HasBody E 206 := by intro args w; dsimp only [E]; exact Tryz.call206 args w
theorem b207 : HasBody E 207 := by intro args w; dsimp only [E]; exact Tryz.call207 args w
theorem b208 : HasBody E 208 := by intro args w; dsimp only [E]; exact Tryz.call208 args w
theorem b209 : HasBody E 209 := by intro args w; dsimp only [E]; exact Tryz.call209 args w
theorem b210 : HasBody E 210 := by intro args w; dsimp only [E]; exact Tryz.call210 args w
theorem b211 : HasBody E 211 := by intro args w; dsimp only [E]; exact Tryz.call211 args w
theorem b212 : HasBody E 212 := by intro args w; dsimp only [E]; exact Tryz.call212 args w
theorem b213 : HasBody E 213 := by intro args w; dsimp only [E]; exact Tryz.call213 args w
theorem b214 : HasBody E 214 := by intro args w; dsimp only [E]; exact Tryz.call214 args w
theorem b215 : HasBody E 215 := by intro args w; dsimp only [E]; exact Tryz.call215 args w
theorem b216 : HasBody E 216 := by intro args w; dsimp only [E]; exact Tryz.call216 args w
theorem b217 : HasBody E 217 := by intro args w; dsimp only [E]; exact Tryz.call217 args w
theorem b218 : HasBody E 218 := by intro args w; dsimp only [E]; exact Tryz.call218 args w
theorem b219 : HasBody E 219 := by intro args w; dsimp only [E]; exact Tryz.call219 args w
theorem b220 : HasBody E 220 := by intro args w; dsimp only [E]; exact Tryz.call220 args w
theorem b221 : HasBody E 221 := by intro args w; dsimp only [E]; exact Tryz.call221 args w
theorem b222 : HasBody E 222 := by intro args w; dsimp only [E]; exact Tryz.call222 args w
theorem b223 : HasBody E 223 := by intro args w; dsimp only [E]; exact Tryz.call223 args w
theorem b224 : HasBody E 224 := by intro args w; dsimp only [E]; exact Tryz.call224 args w
theorem b227 : HasBody E 227 := by intro args w; dsimp only [E]; exact Tryz.call227 args w
theorem b228 : HasBody E 228 := by intro args w; dsimp only [E]; exact Tryz.call228 args w
theorem b229 : HasBody E 229 := by intro args w; dsimp only [E]; exact Tryz.call229 args w
theorem b230 : HasBody E 230 := by intro args w; dsimp only [E]; exact Tryz.call230 args w
theorem b235 : HasBody E 235 := by intro args w; dsimp only [E]; exact Tryz.call235 args w
theorem b236 : HasBody E 236 := by intro args w; dsimp only [E]; exact Tryz.call236 args w
theorem b237 : HasBody E 237 := by intro args w; dsimp only [E]; exact Tryz.call237 args w
theorem b238 : HasBody E 238 := by intro args w; dsimp only [E]; exact Tryz.call238 args w
theorem b239 : HasBody E 239 := by intro args w; dsimp only [E]; exact Tryz.call239 args w
theorem b240 : HasBody E 240 := by intro args w; dsimp only [E]; exact Tryz.call240 args w
theorem b241 : HasBody E 241 := by intro args w; dsimp only [E]; exact Tryz.call241 args w
theorem b242 : HasBody E 242 := by intro args w; dsimp only [E]; exact Tryz.call242 args w
theorem b246 : HasBody E 246 := by intro args w; dsimp only [E]; exact Tryz.call246 args w
theorem b257 : HasBody E 257 := by intro args w; dsimp only [E]; exact Tryz.call257 args w
theorem b264 : HasBody E 264 := by intro args w; dsimp only [E]; exact Tryz.call264 args w
theorem b265 : HasBody E 265 := by intro args w; dsimp only [E]; exact Tryz.call265 args w
theorem b266 : HasBody E 266 := by intro args w; dsimp only [E]; exact Tryz.call266 args w
theorem b284 : HasBody E 284 := by intro args w; dsimp only [E]; exact Tryz.call284 args w
theorem b285 : HasBody E 285 := by intro args w; dsimp only [E]; exact Tryz.call285 args w
theorem b286 : HasBody E 286 := by intro args w; dsimp only [E]; exact Tryz.call286 args w
theorem b287 : HasBody E 287 := by intro args w; dsimp only [E]; exact Tryz.call287 args w
theorem b288 : HasBody E 288 := by intro args w; dsimp only [E]; exact Tryz.call288 args w
theorem b289 : HasBody E 289 := by intro args w; dsimp only [E]; exact Tryz.call289 args w
theorem b290 : HasBody E 290 := by intro args w; dsimp only [E]; exact Tryz.call290 args w
theorem b291 : HasBody E 291 := by intro args w; dsimp only [E]; exact Tryz.call291 args w
theorem b293 : HasBody E 293 := by intro args w; dsimp only [E]; exact Tryz.call293 args w
theorem b294 : HasBody E 294 := by intro args w; dsimp only [E]; exact Tryz.call294 args w
theorem b295 : HasBody E 295 := by intro args w; dsimp only [E]; exact Tryz.call295 args w
theorem b296 : HasBody E 296 := by intro args w; dsimp only [E]; exact Tryz.call296 args w
theorem b297 : HasBody E 297 := by intro args w; dsimp only [E]; exact Tryz.call297 args w
theorem b298 : HasBody E 298 := by intro args w; dsimp only [E]; exact Tryz.call298 args w
theorem b299 : HasBody E 299 := by intro args w; dsimp only [E]; exact Tryz.call299 args w
theorem b302 : HasBody E 302 := by intro args w; dsimp only [E]; exact Tryz.call302 args w
theorem b303 : HasBody E 303 := by intro args w; dsimp only [E]; exact Tryz.call303 args w
theorem b304 : HasBody E 304 := by intro args w; dsimp only [E]; exact Tryz.call304 args w
theorem b306 : HasBody E 306 := by intro args w; dsimp only [E]; exact Tryz.call306 args w
theorem b307 : HasBody E 307 := by intro args w; dsimp only [E]; exact Tryz.call307 args w
theorem b308 : HasBody E 308 := by intro args w; dsimp only [E]; exact Tryz.call308 args w
theorem b311 : HasBody E 311 := by intro args w; dsimp only [E]; exact Tryz.call311 args w
theorem b315 : HasBody E 315 := by intro args w; dsimp only [E]; exact Tryz.call315 args w
theorem b327 : HasBody E 327 := by intro args w; dsimp only [E]; exact Tryz.call327 args w
theorem b348 : HasBody E 348 := by intro args w; dsimp only [E]; exact Tryz.call348 args w
theorem b349 : HasBody E 349 := by intro args w; dsimp only [E]; exact Tryz.call349 args w
theorem b350 : HasBody E 350 := by intro args w; dsimp only [E]; exact Tryz.call350 args w
theorem b351 : HasBody E 351 := by intro args w; dsimp only [E]; exact Tryz.call351 args w
theorem b352 : HasBody E 352 := by intro args w; dsimp only [E]; exact Tryz.call352 args w
theorem b353 : HasBody E 353 := by intro args w; dsimp only [E]; exact Tryz.call353 args w
theorem b355 : HasBody E 355 := by intro args w; dsimp only [E]; exact Tryz.call355 args w
theorem b356 : HasBody E 356 := by intro args w; dsimp only [E]; exact Tryz.call356 args w
theorem b357 : HasBody E 357 := by intro args w; dsimp only [E]; exact Tryz.call357 args w
theorem b358 : HasBody E 358 := by intro args w; dsimp only [E]; exact Tryz.call358 args w
theorem b359 : HasBody E 359 := by intro args w; dsimp only [E]; exact Tryz.call359 args w
theorem b360 : HasBody E 360 := by intro args w; dsimp only [E]; exact Tryz.call360 args w
theorem b361 : HasBody E 361 := by intro args w; dsimp only [E]; exact Tryz.call361 args w
theorem b362 : HasBody E 362 := by intro args w; dsimp only [E]; exact Tryz.call362 args w
theorem b364 : HasBody E 364 := by intro args w; dsimp only [E]; exact Tryz.call364 args w
theorem b365 : HasBody E 365 := by intro args w; dsimp only [E]; exact Tryz.call365 args w
theorem b366 : HasBody E 366 := by intro args w; dsimp only [E]; exact Tryz.call366 args w
theorem b367 : HasBody E 367 := by intro args w; dsimp only [E]; exact Tryz.call367 args w
theorem b368 : HasBody E 368 := by intro args w; dsimp only [E]; exact Tryz.call368 args w
theorem b369 : HasBody E 369 := by intro args w; dsimp only [E]; exact Tryz.call369 args w
theorem b370 : HasBody E 370 := by intro args w; dsimp only [E]; exact Tryz.call370 args w
theorem b371 : HasBody E 371 := by intro args w; dsimp only [E]; exact Tryz.call371 args w
theorem b372 : HasBody E 372 := by intro args w; dsimp only [E]; exact Tryz.call372 args w
theorem b373 : HasBody E 373 := by intro args w; dsimp only [E]; exact Tryz.call373 args w
theorem b382 : HasBody E 382 := by intro args w; dsimp only [E]; exact Tryz.call382 args w
theorem b383 : HasBody E 383 := by intro args w; dsimp only [E]; exact Tryz.call383 args w
theorem b384 : HasBody E 384 := by intro args w; dsimp only [E]; exact Tryz.call384 args w
theorem b386 : HasBody E 386 := by intro args w; dsimp only [E]; exact Tryz.call386 args w
theorem b401 : HasBody E 401 := by intro args w; dsimp only [E]; exact Tryz.call401 args w
theorem b419 : HasBody E 419 := by intro args w; dsimp only [E]; exact Tryz.call419 args w
end Go.Proofs.YtmfjfclpdmpncaaGreatDoor
