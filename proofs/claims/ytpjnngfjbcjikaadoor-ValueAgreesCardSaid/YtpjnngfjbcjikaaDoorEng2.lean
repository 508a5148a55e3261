/- The engine's rules for control: sequences, tests, blocks, loops, and regions whose order is the text's. Conditions: none; lemmas over any program. -/
import Derived.Test.YtpjnngfjbcjikaaDoorEng1
import Derived.Deep.LoopGhost
namespace Go.Abs
open Go Go.RowKit

/-- Whatever a state describes, the other describes, too. -/
def Le (C : Cx) (s s' : St) : Prop := ∀ a w, C.Rel s a w → C.Rel s' a w
theorem Le.refl (C : Cx) (s : St) : Le C s s := fun _ _ h => h
theorem Le.trans {C : Cx} {a b c : St} (h : Le C a b) (k : Le C b c) : Le C a c := fun _ _ x => k _ _ (h _ _ x)

inductive It where
  | code (c : Code)
  | blk (id : Nat)
  | stop (I : St → Prop)

def Cx.wp (C : Cx) (c : Code) (s : St) (Q : Exit → St → Prop) : Prop :=
  ∀ a w, C.Rel s a w → c.wp C.E.P (fun e a' w' => ∃ s', C.Rel s' a' w' ∧ Q e s') a w

def thenS (I : St → Prop) (Q : Exit → St → Prop) : Exit → St → Prop
  | .normal, s => I s
  | e, s => Q e s
def blkS (id : Nat) (Q : Exit → St → Prop) : Exit → St → Prop
  | .exit i, s => if i = id then Q .normal s else Q (.exit i) s
  | e, s => Q e s
def kont (C : Cx) : List It → (Exit → St → Prop) → Exit → St → Prop
  | [], Q => Q
  | .code c :: r, Q => thenS (fun s => C.wp c s (kont C r Q)) (kont C r Q)
  | .blk id :: r, Q => blkS id (kont C r Q)
  | .stop I :: r, Q => thenS I (kont C r Q)

/-- The walk's goal: with this still to do, from every state that s describes, the run ends as Q says. -/
def go (C : Cx) (todo : List It) (s : St) (Q : Exit → St → Prop) : Prop := kont C todo Q .normal s

section
variable {C : Cx} {r : List It} {s : St} {Q : Exit → St → Prop}

theorem go_nil (h : Q .normal s) : go C [] s Q := h
theorem go_stop {I : St → Prop} (h : I s) : go C (.stop I :: r) s Q := h
theorem qG {id : Nat} (h : go C r s Q) : go C (.blk id :: r) s Q := h
theorem wp_code {c : Code} (h : C.wp c s (kont C r Q)) : go C (.code c :: r) s Q := h

theorem qA {x y : Code} (h : go C (.code x :: .code y :: r) s Q) : go C (.code (.seq x y) :: r) s Q := by
  intro a w hr
  refine wp_seq (wp_mono (h a w hr) ?_)
  intro e a' w' ⟨s', hs, hq⟩
  cases e with
  | normal => exact hq a' w' hs
  | _ => exact ⟨s', hs, hq⟩
theorem qE (h : go C r s Q) : go C (.code .skip :: r) s Q := fun _ _ hr => wp_skip ⟨s, hr, h⟩
theorem kont_ret : ∀ {r : List It}, Q .ret s → kont C r Q .ret s
  | [], h => h
  | .code _ :: r, h => kont_ret (r := r) h
  | .blk _ :: r, h => kont_ret (r := r) h
  | .stop _ :: r, h => kont_ret (r := r) h
theorem go_ret_ (h : Q .ret s) : go C (.code .ret :: r) s Q := fun _ _ hr => wp_ret ⟨s, hr, kont_ret h⟩
def exitK (id : Nat) : List It → Option (List It)
  | [] => none
  | .blk i :: r => bif Nat.beq i id then some r else exitK id r
  | .code _ :: r => exitK id r
  | .stop _ :: r => exitK id r
theorem kont_exit {id : Nat} : ∀ {r r' : List It}, exitK id r = some r' → go C r' s Q → kont C r Q (.exit id) s
  | .blk i :: r, r', h, hq => by
    simp only [exitK] at h
    cases hb : Nat.beq i id with
    | true =>
      rw [hb] at h
      simp at h
      subst h
      obtain rfl := Nat.eq_of_beq_eq_true hb
      simp only [kont, blkS, if_true]
      exact hq
    | false =>
      rw [hb] at h
      have hne : ¬ id = i := fun e => Nat.ne_of_beq_eq_false hb e.symm
      simp only [kont, blkS, if_neg hne]
      exact kont_exit (by simpa using h) hq
  | .code _ :: r, r', h, hq => by
    simp only [exitK] at h
    exact kont_exit (r := r) h hq
  | .stop _ :: r, r', h, hq => by
    simp only [exitK] at h
    exact kont_exit (r := r) h hq
theorem qH {id : Nat} {r' : List It} (h : exitK id r = some r') (hq : go C r' s Q) : go C (.code (.exit id) :: r) s Q :=
  fun _ _ hr => wp_exit ⟨s, hr, kont_exit h hq⟩
theorem qF {id : Nat} {c : Code} (h : go C (.code c :: .blk id :: r) s Q) : go C (.code (.block id c) :: r) s Q := by
  intro a w hr
  refine wp_block (wp_mono (h a w hr) ?_)
  intro e a' w' ⟨s', hs, hq⟩
  cases e with
  | exit i =>
    simp only [kont, blkS] at hq
    simp only [Exit.inBlock]
    split
    · rename_i hi; rw [if_pos hi] at hq; exact ⟨s', hs, hq⟩
    · rename_i hi; rw [if_neg hi] at hq; exact ⟨s', hs, hq⟩
  | _ => exact ⟨s', hs, hq⟩
theorem go_weaken {c : Code} {s' : St} (hl : Le C s s') (h : go C (.code c :: r) s' Q) : go C (.code c :: r) s Q := fun a w hr => h a w (hl a w hr)
theorem go_use {c : Code} (h : ∀ a w, C.Rel s a w → go C (.code c :: r) s Q) : go C (.code c :: r) s Q := fun a w hr => h a w hr a w hr
theorem qV {c : Operand} {x y : Code} {b : Bool} (hc : s.ev C.E c = .d (.imm (.bool b))) (ht : b = true → go C (.code x :: r) s Q) (hf : b = false → go C (.code y :: r) s Q) :
    go C (.code (.cond c x y) :: r) s Q := by
  intro a w hr
  have hev : a.eval c = .bool b := by
    obtain ⟨F, σ, _, _, _, hi, _, _, hs⟩ := hr
    have := ev_rd (E := C.E) (s := s) hi hs c
    rw [hc] at this
    exact this.imm_inv.1
  exact wp_cond_split hev (fun h => ht h a w hr) (fun h => hf h a w hr)
theorem qT {c : Operand} {x y : Code} {b : Bool} (hc : s.ev C.E c = .d (.imm (.bool b))) (hb : b = true) (ht : go C (.code x :: r) s Q) : go C (.code (.cond c x y) :: r) s Q :=
  qV hc (fun _ => ht) (fun h => by rw [hb] at h; cases h)
theorem qU {c : Operand} {x y : Code} {b : Bool} (hc : s.ev C.E c = .d (.imm (.bool b))) (hb : b = false) (hf : go C (.code y :: r) s Q) : go C (.code (.cond c x y) :: r) s Q :=
  qV hc (fun h => by rw [hb] at h; cases h) (fun _ => hf)
/-- A loop: a family of states, one for each round, and a measure that every round lowers. -/
theorem go_loop_ {α : Type} {c : Code} (S : α → St) (m : α → Nat) (x0 : α) (h0 : Le C s (S x0))
    (hr : ∀ x, go C (.code c :: .stop (fun s' => ∃ y, m y < m x ∧ Le C s' (S y)) :: r) (S x) Q) : go C (.code (.loop c) :: r) s Q := by
  intro a w hrel
  refine wp_loop_ghost (fun n a w => ∃ x, m x = n ∧ C.Rel (S x) a w) (m x0) ⟨x0, rfl, h0 a w hrel⟩ ?_
  intro n a w ⟨x, hx, hrx⟩
  refine wp_mono (hr x a w hrx) ?_
  intro e a' w' ⟨s', hs, hq⟩
  cases e with
  | normal =>
    obtain ⟨y, hy, hle⟩ := hq
    exact ⟨m y, hx ▸ hy, y, rfl, hle a' w' hs⟩
  | _ => exact ⟨s', hs, hq⟩
end

/-! ## Weakening: what is not listed is forgotten -/
def X.below (n : Nat) : X → Bool
  | .ptr o _ => Nat.blt o n
  | .own o => Nat.blt o n
  | .pel o _ _ _ => Nat.blt o n
  | _ => true
def AObj.below (n : Nat) : AObj → Bool
  | .var _ c => c.cells.all (X.below n)
  | _ => true

theorem RdX.take {w : World} {F : Nat → Prop} {σ : Sg} {x : X} {v : Value} {n : Nat} (h : RdX w F σ x v) (hx : x.below n = true) : RdX w F (σ.take n) x v := by
  have key : ∀ (o : Nat) p, σ[o]? = some p → Nat.blt o n = true → (σ.take n)[o]? = some p := fun o p ho hb => by
    rw [List.getElem?_take, if_pos (by simpa using hb)]; exact ho
  cases x with
  | ptr o off => obtain ⟨b, c, k, h1, h2⟩ := h; exact ⟨b, c, k, key _ _ h1 hx, h2⟩
  | own o => obtain ⟨b, c, k, h1, h2⟩ := h; exact ⟨b, c, k, key _ _ h1 hx, h2⟩
  | pel o i off size => obtain ⟨b, c, k, h1, h2⟩ := h; exact ⟨b, c, k, key _ _ h1 hx, h2⟩
  | _ => exact h

theorem ObOK.take {w : World} {F : Nat → Prop} {σ : Sg} {B n : Nat} {x : AObj} {p : Nat × Nat × Nat} (h : ObOK w F σ B x p) (hx : x.below n = true) : ObOK w F (σ.take n) B x p := by
  obtain ⟨b, c, k⟩ := p
  cases x with
  | var ty cs =>
    obtain ⟨vs, h1, h2, h3, h4, h5⟩ := h
    refine ⟨vs, h1, h2, h3, fun i x v a e => (h4 i x v a e).take ?_, h5⟩
    exact List.all_eq_true.1 hx x (List.mem_of_getElem? a)
  | row e size xs => exact h
  | dead => trivial

theorem Le.of {C : Cx} {s s' : St} (n : Nat) (hob : s'.ob = s.ob.take n) (ht : ∀ p ∈ s'.tm, lk s.tm p.1 = p.2 ∧ p.2.below n = true) (ho : ∀ x ∈ s'.ob, x.below n = true) : Le C s s' := by
  rintro a w ⟨F, σ, h1, h2, h3, hi, h4, h5, hs⟩
  have hlook : ∀ (l : List (Nat × X)) (t : Nat), (∀ p ∈ l, lk s.tm p.1 = p.2 ∧ p.2.below n = true) → (lk l t = lk s.tm t ∧ (lk l t).below n = true) ∨ lk l t = .top := by
    intro l t
    induction l with
    | nil => intro _; exact .inr rfl
    | cons p l ih =>
      intro hp
      obtain ⟨k, x⟩ := p
      simp only [lk]
      cases hb : Nat.beq k t with
      | true =>
        obtain rfl := Nat.eq_of_beq_eq_true hb
        obtain ⟨e1, e2⟩ := hp (k, x) (by simp)
        exact .inl ⟨e1.symm, e2⟩
      | false => exact ih fun p hm => hp p (by simp [hm])
  refine ⟨F, σ.take n, h1, h2, h3, ⟨hi.flt, hi.glob, by simp [hob, hi.len], ?_, ?_⟩, h4, h5, fun t => ?_⟩
  · intro o x p hx hp
    rw [hob] at hx
    have hx' := hx
    rw [List.getElem?_take] at hx' hp
    split at hx'
    · rename_i hlt
      rw [if_pos hlt] at hp
      exact (hi.obs o x p hx' hp).take (ho x (by rw [hob]; exact List.mem_of_getElem? hx))
    · cases hx'
  · intro o o' x x' p p' hne hx hl hx' hl' hp hp'
    rw [hob] at hx hx'
    rw [List.getElem?_take] at hx hx' hp hp'
    split at hx
    · split at hx'
      · rename_i ha hb
        rw [if_pos ha] at hp
        rw [if_pos hb] at hp'
        exact hi.inj o o' x x' p p' hne hx hl hx' hl' hp hp'
      · cases hx'
    · cases hx
  · rcases hlook s'.tm t ht with ⟨e, hb⟩ | e
    · rw [e]; exact (hs t).take (e ▸ hb)
    · rw [e]; trivial

/-! ## Operations -/
def dstOK (C : Cx) (o : Oper) : Bool :=
  match o.dst with
  | some d => Nat.blt d C.N
  | none => true
theorem dstOK_lt {C : Cx} {o : Oper} (h : dstOK C o = true) : ∀ d, o.dst = some d → d < C.N := by
  intro d hd
  simpa [dstOK, hd] using h

/-- An operation that yields a value, whatever its place in the region's order. -/
def VOp (C : Cx) (s : St) (o : Oper) (x : X) : Prop :=
  ∀ (F : Nat → Prop) (σ : Sg) (w : World) (a : Act) (K : Act → World → Prop) (Q : Exit → Act → World → Prop), WInv C.E C.w0.heap.size F σ s.ob w →
    (∀ y ∈ o.op.operands.toList, RdX w F σ (s.ev C.E y) (a.eval y)) →
    (∀ v w' F', Ext w F w' F' → RdX w' F' σ x v → K (a.put o.dst v) w') → o.wp C.E.P a w K Q
/-- An operation that turns the state. -/
def SOp (C : Cx) (s : St) (o : Oper) (s' : St) : Prop :=
  ∀ (w : World) (a : Act) (K : Act → World → Prop) (Q : Exit → Act → World → Prop), C.Rel s a w → (∀ a' w', C.Rel s' a' w' → K a' w') → o.wp C.E.P a w K Q

theorem St.put_ob (s : St) (d : Option Tmp) (x : X) : (s.put d x).ob = s.ob := by cases d <;> rfl
theorem Act.put_size (a : Act) (d : Option Tmp) (v : Value) : (a.put d v).tmps.size = a.tmps.size := by cases d <;> simp [Act.put]
theorem Act.put_def (a : Act) (d : Option Tmp) (v : Value) : (a.put d v).defers = a.defers := by cases d <;> rfl

theorem rel_put {C : Cx} {s : St} {a : Act} {w w' : World} {F F' : Nat → Prop} {σ : Sg} {o : Oper} {x : X} {v : Value}
    (h1 : Below C.w0.heap.size C.w0 w) (h2 : ∀ b, C.F0 b → F b) (h3 : ∀ b, F b → C.F0 b ∨ C.w0.heap.size ≤ b) (hi : WInv C.E C.w0.heap.size F σ s.ob w)
    (h4 : a.defers = []) (h5 : a.tmps.size = C.N) (hs : ∀ t, RdX w F σ (lk s.tm t) (a.tmps.getD t undef)) (hd : dstOK C o = true)
    (he : Ext w F w' F') (hv : o.dst ≠ none → RdX w' F' σ x v) : C.Rel (s.put o.dst x) (a.put o.dst v) w' := by
  refine ⟨F', σ, h1.trans (he.below.mono h1.size), fun b hb => he.more _ (h2 b hb), fun b hb => ?_, ?_, ?_, ?_, ?_⟩
  · rcases he.new b hb with h | h
    · exact h3 b h
    · exact .inr (Nat.le_trans h1.size h)
  · rw [St.put_ob]; exact hi.ext he
  · rw [Act.put_def]; exact h4
  · rw [Act.put_size]; exact h5
  · exact lk_put (N := C.N) (fun t => (hs t).ext he hi.flt) h5 (dstOK_lt hd) hv

theorem VOp.sop {C : Cx} {s : St} {o : Oper} {x : X} (h : VOp C s o x) (hd : dstOK C o = true) : SOp C s o (s.put o.dst x) := by
  rintro w a K Q ⟨F, σ, h1, h2, h3, hi, h4, h5, hs⟩ hK
  refine h F σ w a K Q hi (fun y _ => ev_rd hi hs y) fun v w' F' he hv => hK _ _ ?_
  exact rel_put h1 h2 h3 hi h4 h5 hs hd he fun _ => hv

def GuardIs (all : Array Oper) (s : St) (o : Oper) (want : Bool) : Prop :=
  match o.guard with
  | none => want = true
  | some (j, pol) => ∃ t, (all[j]?).bind (·.dst) = some t ∧ ((∃ b, lk s.tm t = .d (.imm (.bool b)) ∧ (b == pol) = want) ∨ (lk s.tm t = .und ∧ want = false))

theorem GuardIs.wanted {all : Array Oper} {s : St} {o : Oper} {want : Bool} {N : Nat} {w : World} {F : Nat → Prop} {σ : Sg} {a : Act} (h : GuardIs all s o want) (hN : ∀ (j : Nat) (p : Oper) d, all[j]? = some p → p.dst = some d → d < N)
    (ha : a.tmps.size = N) (hs : ∀ (j : Nat) pol t, o.guard = some (j, pol) → (all[j]?).bind (·.dst) = some t → RdX w F σ (lk s.tm t) (a.tmps.getD t undef)) : Region.wanted o (yielded all a.tmps) = want := by
  unfold GuardIs at h
  unfold Region.wanted
  cases hg : o.guard with
  | none => rw [hg] at h; exact h.symm
  | some jp =>
    obtain ⟨j, pol⟩ := jp
    rw [hg] at h
    obtain ⟨t, ht, h⟩ := h
    have hr := hs j pol t hg ht
    have hlt : t < a.tmps.size := by
      cases hj : all[j]? with
      | none => rw [hj] at ht; cases ht
      | some p => rw [hj] at ht; rw [ha]; exact hN j p t hj ht
    have e1 : a.tmps[t]? = some (a.tmps.getD t undef) := by simp [hlt]
    simp only [yielded, ht, Option.bind_some, e1]
    rcases h with ⟨b, hb, hw⟩ | ⟨hb, rfl⟩
    · rw [hb] at hr
      rw [hr.imm_inv.1]
      rw [← hw]
      cases b <;> cases pol <;> rfl
    · rw [hb] at hr
      rw [show a.tmps.getD t undef = undef from hr]
      simp [undef]

/-- Two states with the same slots and the same objects. -/
def StEq (s s' : St) : Prop := (∀ u, lk s'.tm u = lk s.tm u) ∧ s'.ob = s.ob
theorem StEq.refl (s : St) : StEq s s := ⟨fun _ => rfl, rfl⟩
theorem StEq.symm {s s' : St} (h : StEq s s') : StEq s' s := ⟨fun u => (h.1 u).symm, h.2.symm⟩
theorem StEq.trans {a b c : St} (h : StEq a b) (k : StEq b c) : StEq a c := ⟨fun u => (k.1 u).trans (h.1 u), k.2.trans h.2⟩
theorem StEq.put {s s' : St} (h : StEq s s') (d : Option Tmp) (x : X) : StEq (s.put d x) (s'.put d x) := by
  cases d with
  | none => exact h
  | some d =>
    refine ⟨fun u => ?_, h.2⟩
    simp only [St.put, lk]
    cases Nat.beq d u with
    | true => rfl
    | false => exact h.1 u
theorem StEq.ev {s s' : St} (h : StEq s s') (E : Env) (y : Operand) : s'.ev E y = s.ev E y := by
  cases y with
  | tmp t => exact h.1 t
  | _ => rfl
theorem StEq.rel {C : Cx} {s s' : St} (h : StEq s s') {a : Act} {w : World} (hr : C.Rel s a w) : C.Rel s' a w := by
  obtain ⟨F, σ, h1, h2, h3, hi, h4, h5, hs⟩ := hr
  exact ⟨F, σ, h1, h2, h3, by rw [h.2]; exact hi, h4, h5, fun t => by rw [h.1]; exact hs t⟩
theorem StEq.vop {C : Cx} {s s' : St} (h : StEq s s') {o : Oper} {x : X} (hv : VOp C s o x) : VOp C s' o x := by
  intro F σ w a K Q hi ho hK
  refine hv F σ w a K Q (by rw [← h.2]; exact hi) (fun y hy => ?_) hK
  rw [← h.ev]
  exact ho y hy
theorem StEq.guard {all : Array Oper} {s s' : St} (h : StEq s s') {o : Oper} {b : Bool} (hg : GuardIs all s o b) : GuardIs all s' o b := by
  unfold GuardIs at *
  cases hgd : o.guard with
  | none => rw [hgd] at hg; exact hg
  | some jp =>
    rw [hgd] at hg
    obtain ⟨t, h1, h2⟩ := hg
    exact ⟨t, h1, by rw [h.1]; exact h2⟩

inductive SD (C : Cx) (all : Array Oper) (pu : Bool) : List Oper → St → St → Prop
  | nil (s : St) : SD C all pu [] s s
  | vop {o : Oper} {rest : List Oper} {s s' : St} {x : X} (hg : GuardIs all s o true) (hd : dstOK C o = true) (hv : VOp C s o x) (h : SD C all pu rest (s.put o.dst x) s') : SD C all pu (o :: rest) s s'
  | skip {o : Oper} {rest : List Oper} {s s' : St} (hg : GuardIs all s o false) (hd : dstOK C o = true) (h : SD C all pu rest (s.put o.dst .und) s') : SD C all pu (o :: rest) s s'
  | eff {o : Oper} {rest : List Oper} {s s1 s' : St} (hp : pu = false) (hg : GuardIs all s o true) (hv : SOp C s o s1) (h : SD C all pu rest s1 s') : SD C all pu (o :: rest) s s'
  | ghost {ops : List Oper} {s s1 s' : St} (hp : pu = false) (hl : Le C s s1) (h : SD C all pu ops s1 s') : SD C all pu ops s s'
  | same {ops : List Oper} {s s1 s' : St} (hs : StEq s s1) (h : SD C all pu ops s1 s') : SD C all pu ops s s'

def dstsOK (C : Cx) (l : List Oper) : Bool := l.all (dstOK C)
theorem dstsOK_lt {C : Cx} {l : List Oper} (h : dstsOK C l = true) : ∀ (j : Nat) (p : Oper) d, l.toArray[j]? = some p → p.dst = some d → d < C.N := by
  intro j p d hj hd
  have hm : p ∈ l := by
    rw [List.getElem?_toArray] at hj
    exact List.mem_of_getElem? hj
  exact dstOK_lt (List.all_eq_true.1 h p hm) d hd

theorem SD.list {C : Cx} {all : Array Oper} {ops : List Oper} {s s' : St} {Q : Exit → Act → World → Prop} (hN : ∀ (j : Nat) (p : Oper) d, all[j]? = some p → p.dst = some d → d < C.N)
    (h : SD C all false ops s s') (hq : ∀ a w, C.Rel s' a w → Q .normal a w) : ∀ a w, C.Rel s a w → wpList C.E.P all Q ops a w := by
  have hwant : ∀ {s : St} {o : Oper} {want : Bool} {a w}, GuardIs all s o want → C.Rel s a w → Region.wanted o (yielded all a.tmps) = want := by
    rintro s o want a w hg ⟨F, σ, _, _, _, hi, _, h5, hs⟩
    exact hg.wanted hN h5 (w := w) (F := F) (σ := σ) (fun _ _ t _ _ => hs t)
  induction h with
  | nil s => exact fun a w hr => wpList_nil (hq a w hr)
  | vop hg hd hv _ ih =>
    intro a w hr
    refine wpList_step fun K hK => ?_
    rw [if_pos (hwant hg hr)]
    exact hv.sop hd w a K Q hr fun a' w' hr' => hK a' w' (ih hq a' w' hr')
  | skip hg hd _ ih =>
    intro a w hr
    refine wpList_step fun K hK => ?_
    rw [if_neg (by rw [hwant hg hr]; simp)]
    refine hK _ _ (ih hq _ _ ?_)
    obtain ⟨F, σ, h1, h2, h3, hi, h4, h5, hs⟩ := hr
    exact rel_put h1 h2 h3 hi h4 h5 hs hd (Ext.refl hi.flt) fun _ => rfl
  | eff hp hg hv _ ih =>
    intro a w hr
    refine wpList_step fun K hK => ?_
    rw [if_pos (hwant hg hr)]
    exact hv w a K Q hr fun a' w' hr' => hK a' w' (ih hq a' w' hr')
  | ghost hp hl _ ih => exact fun a w hr => ih hq a w (hl a w hr)
  | same hs _ ih => exact fun a w hr => ih hq a w (hs.rel hr)

/-- A region's goal: from s, these operations still to do; K of the state behind them. -/
def SGo (C : Cx) (all : Array Oper) (pu : Bool) (ops : List Oper) (s : St) (K : St → Prop) : Prop := ∃ s', SD C all pu ops s s' ∧ K s'

section
variable {C : Cx} {r : List It} {s : St} {Q : Exit → St → Prop} {all : Array Oper} {pu : Bool} {K : St → Prop} {rest : List Oper} {o : Oper}
theorem SGo.nil (h : K s) : SGo C all pu [] s K := ⟨s, .nil s, h⟩
theorem qD (h : K s) : SGo C all pu [] s K := ⟨s, .nil s, h⟩
theorem SGo.vop {x : X} (hg : GuardIs all s o true) (hd : dstOK C o = true) (hv : VOp C s o x) (h : SGo C all pu rest (s.put o.dst x) K) : SGo C all pu (o :: rest) s K :=
  let ⟨s', h1, h2⟩ := h; ⟨s', .vop hg hd hv h1, h2⟩
theorem SGo.skip (hg : GuardIs all s o false) (hd : dstOK C o = true) (h : SGo C all pu rest (s.put o.dst .und) K) : SGo C all pu (o :: rest) s K :=
  let ⟨s', h1, h2⟩ := h; ⟨s', .skip hg hd h1, h2⟩
theorem SGo.eff {s1 : St} (hg : GuardIs all s o true) (hv : SOp C s o s1) (h : SGo C all false rest s1 K) : SGo C all false (o :: rest) s K :=
  let ⟨s', h1, h2⟩ := h; ⟨s', .eff rfl hg hv h1, h2⟩
theorem SGo.ghost {s1 : St} {ops : List Oper} (hl : Le C s s1) (h : SGo C all false ops s1 K) : SGo C all false ops s K :=
  let ⟨s', h1, h2⟩ := h; ⟨s', .ghost rfl hl h1, h2⟩
theorem SGo.same {s1 : St} {ops : List Oper} (hl : StEq s s1) (h : SGo C all pu ops s1 K) : SGo C all pu ops s K :=
  let ⟨s', h1, h2⟩ := h; ⟨s', .same hl h1, h2⟩
theorem qB {id : Nat} {l : List Oper} (hd : dstsOK C l = true) (h : SGo C l.toArray false l s (fun s' => go C r s' Q)) : go C (.code (.region id l.toArray false) :: r) s Q := by
  intro a w hr
  obtain ⟨s', h1, h2⟩ := h
  exact wp_region_lit (h1.list (dstsOK_lt hd) (fun a w hr => ⟨s', hr, h2⟩) a w hr)
end
end Go.Abs
