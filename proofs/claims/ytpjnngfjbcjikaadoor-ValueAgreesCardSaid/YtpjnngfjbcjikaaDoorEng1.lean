/- The abstract values of the engine, how they are read in memory, and that the reading is kept when memory grows. Conditions: none; plain definitions and lemmas over any program. -/
import Derived.Below
import Derived.Calls
import Derived.Orders
import Derived.Laws.Entries
import Derived.Laws.Cells
import Derived.Laws.Rows
import Derived.Tactics
namespace Go.Abs
open Go Go.RowKit

theorem block_add (a : Addr) (n : Nat) : (a.add n).block = a.block := by unfold Addr.add; split <;> rfl
theorem add_add (a : Addr) (i j : Nat) : (a.add i).add j = a.add (i + j) := by
  unfold Addr.add
  by_cases hi : i = 0 <;> by_cases hj : j = 0 <;> simp [hi, hj, Nat.add_assoc]
theorem add_mk (b o n : Nat) : (⟨b, o, none⟩ : Addr).add n = ⟨b, o + n, none⟩ := by
  unfold Addr.add
  by_cases h : n = 0 <;> simp [h]

/-- Data: immediate values, structs as their cells, slices that nobody writes any more. -/
inductive D where
  | imm (v : Value)
  | agg (cs : List D)
  | sl (xs : List D)
  deriving Inhabited

def D.cells : D → List D
  | .agg cs => cs
  | d => [d]
def D.one : D → Bool
  | .agg _ => false
  | _ => true
/-- No slice inside: such a datum reads the same whatever memory holds. -/
def D.plain : D → Bool
  | .imm _ => true
  | _ => false
abbrev D.int (n : Int) : D := .imm (.int .i64 n)
abbrev D.bool (b : Bool) : D := .imm (.bool b)
abbrev D.str (s : ByteArray) : D := .imm (.string s)

def okV : Value → Bool
  | .bool _ => true
  | .int k n => decide (k.min ≤ n) && decide (n ≤ k.max)
  | .string s => decide (s.size ≤ maxLen)
  | .func (.func _) a b => a.isEmpty && b.isEmpty
  | .nilFunc => true
  | .nilIface => true
  | .pointer none => true
  | _ => false

theorem okV_one {v : Value} (h : okV v = true) : v.oneCell' = true := by
  cases v <;> simp_all [okV, Value.oneCell']

/-- The datum d is what the value v reads as, all slices in blocks of F. -/
inductive Rd (w : World) (F : Nat → Prop) : D → Value → Prop
  | imm (v : Value) (h : okV v = true) : Rd w F (.imm v) v
  | agg (cs : List D) (vs : List Value) (hl : cs.length = vs.length) (hc : ∀ c ∈ cs, c.one = true)
      (h : ∀ (i : Nat) (c : D) (v : Value), cs[i]? = some c → vs[i]? = some v → Rd w F c v) : Rd w F (.agg cs) (.agg vs.toArray)
  | slnil : Rd w F (.sl []) (.slice none 0 0)
  | sl (size : Nat) (xs : List D) (ad : Addr) (cap : Nat) (u : Nat → Nat → Value) (hc : xs.length ≤ cap) (hm : cap ≤ maxLen) (hF : xs ≠ [] → F ad.block)
      (hz : ∀ x ∈ xs, x.cells.length = size) (ho : ∀ x ∈ xs, ∀ c ∈ x.cells, c.one = true)
      (hcell : ∀ (i : Nat) (x : D) (j : Nat) (c : D), xs[i]? = some x → x.cells[j]? = some c → w.cell? (ad.add (i * size + j)) = some (u i j))
      (hrd : ∀ (i : Nat) (x : D) (j : Nat) (c : D), xs[i]? = some x → x.cells[j]? = some c → Rd w F c (u i j)) :
      Rd w F (.sl xs) (.slice (some ad) xs.length cap)

theorem Rd.mono {w w' : World} {F F' : Nat → Prop} {d : D} {v : Value} (h : Rd w F d v) (hF : ∀ b, F b → F' b)
    (hw : ∀ b, F b → w'.heap[b]? = w.heap[b]?) : Rd w' F' d v := by
  induction h with
  | imm v h => exact .imm v h
  | agg cs vs hl hc _ ih => exact .agg cs vs hl hc ih
  | slnil => exact .slnil
  | sl size xs ad cap u hc hm hF' hz ho hcell _ ih =>
    refine .sl size xs ad cap u hc hm (fun h => hF _ (hF' h)) hz ho (fun i x j c hx hj => ?_) ih
    rw [← hcell i x j c hx hj]
    refine World.cell?_of_block ?_
    rw [block_add]
    refine hw _ (hF' ?_)
    rintro rfl
    simp at hx

theorem Rd.plain {w w' : World} {F F' : Nat → Prop} {d : D} {v : Value} (h : Rd w F d v) (hp : d.plain = true) : Rd w' F' d v := by
  cases h with
  | imm v h => exact .imm v h
  | _ => simp [D.plain] at hp

theorem Rd.one {w : World} {F : Nat → Prop} {d : D} {v : Value} (h : Rd w F d v) (hd : d.one = true) : v.oneCell' = true := by
  cases h with
  | imm v h => exact okV_one h
  | agg => simp [D.one] at hd
  | slnil => rfl
  | sl => rfl

theorem Rd.imm_inv {w : World} {F : Nat → Prop} {u v : Value} (h : Rd w F (.imm u) v) : v = u ∧ okV u = true := by
  cases h with
  | imm _ h => exact ⟨rfl, h⟩

theorem Rd.agg_inv {w : World} {F : Nat → Prop} {cs : List D} {v : Value} (h : Rd w F (.agg cs) v) :
    ∃ vs : List Value, v = .agg vs.toArray ∧ cs.length = vs.length ∧ (∀ c ∈ cs, c.one = true) ∧ ∀ (i : Nat) (c : D) (v : Value), cs[i]? = some c → vs[i]? = some v → Rd w F c v := by
  cases h with
  | agg _ vs hl hc h => exact ⟨vs, rfl, hl, hc, h⟩

theorem Rd.sl_inv {w : World} {F : Nat → Prop} {xs : List D} {v : Value} (h : Rd w F (.sl xs) v) : (xs = [] ∧ v = .slice none 0 0) ∨
    ∃ (size : Nat) (ad : Addr) (cap : Nat), v = .slice (some ad) xs.length cap ∧ xs.length ≤ cap ∧ cap ≤ maxLen ∧ (xs ≠ [] → F ad.block) ∧ (∀ x ∈ xs, x.cells.length = size) ∧ (∀ x ∈ xs, ∀ c ∈ x.cells, c.one = true) ∧
      ∀ (i : Nat) (x : D) (j : Nat) (c : D), xs[i]? = some x → x.cells[j]? = some c → ∃ u, w.cell? (ad.add (i * size + j)) = some u ∧ Rd w F c u := by
  cases h with
  | slnil => exact .inl ⟨rfl, rfl⟩
  | sl size xs ad cap u hc hm hF hz ho hcell hrd => exact .inr ⟨size, ad, cap, rfl, hc, hm, hF, hz, ho, fun i x j c h1 h2 => ⟨u i j, hcell i x j c h1 h2, hrd i x j c h1 h2⟩⟩

/-- The cells of a value, whichever shape it has. -/
theorem Rd.cells {w : World} {F : Nat → Prop} {d : D} {v : Value} (h : Rd w F d v) :
    v.cells.size = d.cells.length ∧ (∀ (i : Nat) (c : D) (u : Value), d.cells[i]? = some c → v.cells[i]? = some u → Rd w F c u) ∧ (∀ c ∈ d.cells, c.one = true) := by
  have key : ∀ (d : D) (v : Value), Rd w F d v → d.one = true → d.cells = [d] ∧ v.cells = #[v] := by
    intro d v h hd
    have hv := h.one hd
    constructor
    · cases d <;> simp_all [D.one, D.cells]
    · cases v <;> simp_all [Value.oneCell', Value.cells]
  by_cases hd : d.one = true
  · obtain ⟨e1, e2⟩ := key d v h hd
    rw [e1, e2]
    refine ⟨rfl, ?_, by simpa using hd⟩
    intro i c u hc hu
    cases i with
    | zero => simp at hc hu; subst hc hu; exact h
    | succ i => simp at hc
  · cases d with
    | agg cs =>
      obtain ⟨vs, rfl, hl, hc, hr⟩ := h.agg_inv
      refine ⟨by simp [Value.cells, D.cells, hl], ?_, by simpa [D.cells] using hc⟩
      intro i c u h1 h2
      exact hr i c u h1 (by simpa [Value.cells] using h2)
    | imm => simp [D.one] at hd
    | sl => simp [D.one] at hd

/-! ## What a slot holds -/
inductive X where
  | d (x : D)
  | nilS
  | tup (xs : List D)
  | ptr (o off : Nat)
  | at_ (x : D) (off : Nat)
  | own (o : Nat)
  | pel (o i off size : Nat)
  | mayb (p : Prop)
  | und
  | top
  deriving Inhabited

abbrev Sg := List (Nat × Nat × Nat)

/-- At this address of a block that nobody writes stand the cells of x. -/
def Mem (w : World) (F : Nat → Prop) (x : D) (ad : Addr) : Prop :=
  F ad.block ∧ (∀ c ∈ x.cells, c.one = true) ∧ ∀ (j : Nat) (c : D), x.cells[j]? = some c → ∃ u, w.cell? (ad.add j) = some u ∧ Rd w F c u
theorem Mem.mono {w w' : World} {F F' : Nat → Prop} {x : D} {ad : Addr} (h : Mem w F x ad) (hF : ∀ b, F b → F' b) (hw : ∀ b, F b → w'.heap[b]? = w.heap[b]?) : Mem w' F' x ad := by
  refine ⟨hF _ h.1, h.2.1, fun j c hj => ?_⟩
  obtain ⟨u, h1, h2⟩ := h.2.2 j c hj
  exact ⟨u, by rw [← h1]; exact World.cell?_of_block (by rw [block_add]; exact hw _ h.1), h2.mono hF hw⟩

def RdX (w : World) (F : Nat → Prop) (σ : Sg) : X → Value → Prop
  | .d x, v => Rd w F x v
  | .nilS, v => v = .slice none 0 0
  | .tup xs, v => ∃ vs : List Value, v = .tuple vs.toArray ∧ xs.length = vs.length ∧ ∀ (i : Nat) (x : D) (u : Value), xs[i]? = some x → vs[i]? = some u → Rd w F x u
  | .ptr o off, v => ∃ b c n, σ[o]? = some (b, c, n) ∧ v = .pointer (some ⟨b, off, none⟩)
  | .at_ x off, v => ∃ ad, Mem w F x ad ∧ v = .pointer (some (ad.add off))
  | .own o, v => ∃ b c n, σ[o]? = some (b, c, n) ∧ v = .slice (some ⟨b, 0, none⟩) n c
  | .pel o i off size, v => ∃ b c n, σ[o]? = some (b, c, n) ∧ v = .pointer (some ⟨b, i * size + off, none⟩)
  | .mayb p, v => ∃ b : Bool, v = .bool b ∧ (b = true → p)
  | .und, v => v = undef
  | .top, _ => True

theorem RdX.mono {w w' : World} {F F' : Nat → Prop} {σ σ' : Sg} {x : X} {v : Value} (h : RdX w F σ x v) (hF : ∀ b, F b → F' b)
    (hw : ∀ b, F b → w'.heap[b]? = w.heap[b]?) (hσ : ∀ (o : Nat) p, σ[o]? = some p → σ'[o]? = some p) : RdX w' F' σ' x v := by
  cases x with
  | d x => exact Rd.mono h hF hw
  | nilS => exact h
  | tup xs => obtain ⟨vs, e, hl, hr⟩ := h; exact ⟨vs, e, hl, fun i x u h1 h2 => (hr i x u h1 h2).mono hF hw⟩
  | ptr o off => obtain ⟨b, c, n, h1, h2⟩ := h; exact ⟨b, c, n, hσ _ _ h1, h2⟩
  | at_ x off => obtain ⟨ad, h1, h2⟩ := h; exact ⟨ad, h1.mono hF hw, h2⟩
  | own o => obtain ⟨b, c, n, h1, h2⟩ := h; exact ⟨b, c, n, hσ _ _ h1, h2⟩
  | pel o i off size => obtain ⟨b, c, n, h1, h2⟩ := h; exact ⟨b, c, n, hσ _ _ h1, h2⟩
  | mayb p => exact h
  | und => exact h
  | top => trivial

/-- What a variable holds: one value, or its cells one by one. -/
inductive VC where
  | w (x : X)
  | cs (l : List X)
  deriving Inhabited
def X.cells : X → List X
  | .d x => x.cells.map .d
  | x => [x]
def VC.cells : VC → List X
  | .w x => x.cells
  | .cs l => l

/-- An object of the call's own: a variable, a row that grows, or one that is given up. -/
inductive AObj where
  | var (ty : TypeId) (c : VC)
  | row (e : TypeId) (size : Nat) (xs : List D)
  | dead
  deriving Inhabited
def AObj.live : AObj → Bool
  | .dead => false
  | _ => true

def ObOK (w : World) (F : Nat → Prop) (σ : Sg) (B : Nat) : AObj → Nat × Nat × Nat → Prop
  | .var ty cs, (b, _, _) => ∃ vs : List Value, w.heap[b]? = some (.cells vs.toArray ty (0, 0)) ∧ cs.cells.length = vs.length ∧ (∀ v ∈ vs, v.oneCell' = true) ∧
      (∀ (i : Nat) x v, cs.cells[i]? = some x → vs[i]? = some v → RdX w F σ x v) ∧ B ≤ b ∧ ¬ F b
  | .row e size xs, (b, c, n) => ∃ vs : List Value, w.heap[b]? = some (.cells vs.toArray e (0, 0)) ∧ vs.length = c * size ∧ n = xs.length ∧ n ≤ c ∧ c ≤ maxLen ∧
      (∀ x ∈ xs, x.cells.length = size) ∧ (∀ x ∈ xs, ∀ c ∈ x.cells, c.one = true) ∧
      (∀ (i : Nat) (x : D) (j : Nat) (cd : D), xs[i]? = some x → x.cells[j]? = some cd → ∃ v, vs[i * size + j]? = some v ∧ Rd w F cd v) ∧ B ≤ b ∧ ¬ F b
  | .dead, _ => True

theorem ObOK.mono {w w' : World} {F F' : Nat → Prop} {σ σ' : Sg} {B : Nat} {x : AObj} {p : Nat × Nat × Nat} (h : ObOK w F σ B x p) (hF : ∀ b, F b → F' b)
    (hw : ∀ b, F b → w'.heap[b]? = w.heap[b]?) (hσ : ∀ (o : Nat) p, σ[o]? = some p → σ'[o]? = some p)
    (hb : x.live = true → w'.heap[p.1]? = w.heap[p.1]?) (hn : x.live = true → ¬ F p.1 → ¬ F' p.1) : ObOK w' F' σ' B x p := by
  obtain ⟨b, c, n⟩ := p
  cases x with
  | var ty cs =>
    obtain ⟨vs, h1, h2, h3, h4, h5, h6⟩ := h
    exact ⟨vs, (hb rfl).trans h1, h2, h3, fun i x v a e => (h4 i x v a e).mono hF hw hσ, h5, hn rfl h6⟩
  | row e size xs =>
    obtain ⟨vs, h1, h2, h3, h4, h5, h6, h7, h8, h9, h10⟩ := h
    refine ⟨vs, (hb rfl).trans h1, h2, h3, h4, h5, h6, h7, fun i x j cd a e => ?_, h9, hn rfl h10⟩
    obtain ⟨v, e1, e2⟩ := h8 i x j cd a e
    exact ⟨v, e1, e2.mono hF hw⟩
  | dead => trivial

/-- Memory after, against memory before: all blocks that were there are as they were; what may be read as data has grown by new blocks alone. -/
structure Ext (w : World) (F : Nat → Prop) (w' : World) (F' : Nat → Prop) : Prop where
  below : Below w.heap.size w w'
  more : ∀ b, F b → F' b
  new : ∀ b, F' b → F b ∨ w.heap.size ≤ b
  lt : ∀ b, F' b → b < w'.heap.size

theorem Ext.refl {w : World} {F : Nat → Prop} (h : ∀ b, F b → b < w.heap.size) : Ext w F w F :=
  ⟨Below.refl _ _, fun _ h => h, fun _ h => .inl h, h⟩
theorem Ext.trans {a b c : World} {F G H : Nat → Prop} (h : Ext a F b G) (k : Ext b G c H) : Ext a F c H :=
  ⟨h.below.trans (k.below.mono h.below.size), fun x hx => k.more x (h.more x hx), fun x hx => by
    rcases k.new x hx with h1 | h1
    · exact h.new x h1
    · exact .inr (Nat.le_trans h.below.size h1), k.lt⟩
theorem Ext.of_below {w w' : World} {F : Nat → Prop} (h : Below w.heap.size w w') (hF : ∀ b, F b → b < w.heap.size) : Ext w F w' F :=
  ⟨h, fun _ h => h, fun _ h => .inl h, fun b hb => Nat.lt_of_lt_of_le (hF b hb) h.size⟩
theorem Ext.keep {w w' : World} {F F' : Nat → Prop} (h : Ext w F w' F') (hF : ∀ b, F b → b < w.heap.size) : ∀ b, F b → w'.heap[b]? = w.heap[b]? :=
  fun b hb => h.below.block b (hF b hb)
theorem Rd.ext {w w' : World} {F F' : Nat → Prop} {d : D} {v : Value} (h : Rd w F d v) (he : Ext w F w' F') (hF : ∀ b, F b → b < w.heap.size) : Rd w' F' d v :=
  h.mono he.more (he.keep hF)
theorem RdX.ext {w w' : World} {F F' : Nat → Prop} {σ : Sg} {d : X} {v : Value} (h : RdX w F σ d v) (he : Ext w F w' F') (hF : ∀ b, F b → b < w.heap.size) : RdX w' F' σ d v :=
  h.mono he.more (he.keep hF) fun _ _ h => h

/-! ## What is known of the program -/
structure TE where
  t : TypeId
  desc : TypeDesc
  size : Nat
  bytes : Nat
  zero : Value
def TE.ok (P : Program) (e : TE) : Prop :=
  P.underlying e.t = some e.desc ∧ ∃ i, P.info? e.t = some i ∧ i.size = e.size ∧ i.bytes = e.bytes ∧ i.zero = some e.zero
def findT : List TE → TypeId → Option TE
  | [], _ => none
  | e :: r, t => bif Nat.beq e.t t then some e else findT r t
structure GE where
  g : Nat
  x : D
def findG : List GE → Nat → X
  | [], _ => .top
  | e :: r, g => bif Nat.beq e.g g then .at_ e.x 0 else findG r g
structure Env where
  P : Program
  T : List TE
  G : List GE
  hT : ∀ e ∈ T, e.ok P
  hM : P.follows .mixedOrders = true
  I : World → (Nat → Prop) → Prop
  hI : ∀ (w w' : World) (F F' : Nat → Prop), (∀ b, F b → F' b) → (∀ b, F b → w'.heap[b]? = w.heap[b]?) → I w F → I w' F'

theorem findT_ok {E : Env} {t : TypeId} {e : TE} (h : findT E.T t = some e) : e.ok E.P ∧ e.t = t := by
  have key : ∀ l : List TE, (∀ e ∈ l, e.ok E.P) → findT l t = some e → e.ok E.P ∧ e.t = t := by
    intro l
    induction l with
    | nil => intro _ h; simp [findT] at h
    | cons a r ih =>
      intro ha h
      simp only [findT] at h
      cases hb : Nat.beq a.t t with
      | true => rw [hb] at h; simp at h; subst h; exact ⟨ha _ (by simp), Nat.eq_of_beq_eq_true hb⟩
      | false => rw [hb] at h; exact ih (fun e he => ha e (by simp [he])) (by simpa using h)
  exact key E.T E.hT h

/-- The listed package-level variables read as listed. -/
def GOK (w : World) (F : Nat → Prop) (e : GE) : Prop := Mem w F e.x ⟨e.g, 0, none⟩
/-- What is known of the blocks that nobody writes: the listed variables, and the seat's own invariant. -/
def Env.GI (E : Env) (w : World) (F : Nat → Prop) : Prop := (∀ e ∈ E.G, GOK w F e) ∧ E.I w F
theorem Env.GI.mono {E : Env} {w w' : World} {F F' : Nat → Prop} (h : E.GI w F) (hF : ∀ b, F b → F' b) (hw : ∀ b, F b → w'.heap[b]? = w.heap[b]?) : E.GI w' F' :=
  ⟨fun e he => Mem.mono (h.1 e he) hF hw, E.hI w w' F F' hF hw h.2⟩

structure WInv (E : Env) (B : Nat) (F : Nat → Prop) (σ : Sg) (ob : List AObj) (w : World) : Prop where
  flt : ∀ b, F b → b < w.heap.size
  glob : E.GI w F
  len : σ.length = ob.length
  obs : ∀ (o : Nat) x p, ob[o]? = some x → σ[o]? = some p → ObOK w F σ B x p
  inj : ∀ (o o' : Nat) x x' p p', o ≠ o' → ob[o]? = some x → x.live = true → ob[o']? = some x' → x'.live = true → σ[o]? = some p → σ[o']? = some p' → p.1 ≠ p'.1

theorem ObOK.lt {w : World} {F : Nat → Prop} {σ : Sg} {B : Nat} {x : AObj} {p : Nat × Nat × Nat} (h : ObOK w F σ B x p) (hx : x.live = true) : p.1 < w.heap.size := by
  have key : ∀ b (o : Obj), w.heap[b]? = some o → b < w.heap.size := fun b o h => by
    rcases Nat.lt_or_ge b w.heap.size with hlt | hge
    · exact hlt
    · rw [Array.getElem?_eq_none hge] at h; cases h
  obtain ⟨b, c, n⟩ := p
  cases x with
  | var ty cs => obtain ⟨vs, h1, _⟩ := h; exact key b _ h1
  | row e size xs => obtain ⟨vs, h1, _⟩ := h; exact key b _ h1
  | dead => simp [AObj.live] at hx

theorem WInv.ext {E : Env} {B : Nat} {F F' : Nat → Prop} {σ : Sg} {ob : List AObj} {w w' : World} (h : WInv E B F σ ob w) (he : Ext w F w' F') : WInv E B F' σ ob w' where
  flt := he.lt
  glob := h.glob.mono he.more (he.keep h.flt)
  len := h.len
  obs := fun o x p hx hp => by
    have ho := h.obs o x p hx hp
    refine ho.mono he.more (he.keep h.flt) (fun _ _ h => h) (fun hl => he.below.block _ (ho.lt hl)) (fun hl hn hf => ?_)
    rcases he.new _ hf with h1 | h1
    · exact hn h1
    · have := ho.lt hl; omega
  inj := h.inj

/-! ## The state of a walk -/
structure St where
  tm : List (Nat × X)
  ob : List AObj
def lk : List (Nat × X) → Nat → X
  | [], _ => .top
  | (k, x) :: r, n => bif Nat.beq k n then x else lk r n
def ofConst : Value → X
  | .slice none 0 0 => .nilS
  | v => bif okV v then .d (.imm v) else .top
def St.ev (E : Env) (s : St) : Operand → X
  | .tmp t => lk s.tm t
  | .const v => ofConst v
  | .global g => findG E.G g
  | .func f => .d (.imm (.func (.func f) #[] #[]))
def St.put (s : St) (dst : Option Tmp) (x : X) : St :=
  match dst with
  | some d => { s with tm := (d, x) :: s.tm }
  | none => s

structure Cx where
  E : Env
  w0 : World
  F0 : Nat → Prop
  N : Nat
def Cx.Rel (C : Cx) (s : St) (a : Act) (w : World) : Prop :=
  ∃ F σ, Below C.w0.heap.size C.w0 w ∧ (∀ b, C.F0 b → F b) ∧ (∀ b, F b → C.F0 b ∨ C.w0.heap.size ≤ b) ∧ WInv C.E C.w0.heap.size F σ s.ob w ∧
    a.defers = [] ∧ a.tmps.size = C.N ∧ ∀ t, RdX w F σ (lk s.tm t) (a.tmps.getD t undef)

theorem ofConst_rd {w : World} {F : Nat → Prop} {σ : Sg} (v : Value) : RdX w F σ (ofConst v) v := by
  unfold ofConst
  split
  · rfl
  · cases h : okV v with
    | true => exact .imm _ h
    | false => trivial
theorem findG_rd {E : Env} {w : World} {F : Nat → Prop} {σ : Sg} (h : ∀ e ∈ E.G, GOK w F e) (g : Nat) : RdX w F σ (findG E.G g) (.pointer (some ⟨g, 0, none⟩)) := by
  have key : ∀ l : List GE, (∀ e ∈ l, GOK w F e) → RdX w F σ (findG l g) (.pointer (some ⟨g, 0, none⟩)) := by
    intro l
    induction l with
    | nil => intro _; trivial
    | cons a r ih =>
      intro ha
      simp only [findG]
      cases hb : Nat.beq a.g g with
      | true =>
        obtain rfl := Nat.eq_of_beq_eq_true hb
        exact ⟨_, ha a (by simp), by simp [Addr.add]⟩
      | false => exact ih fun e he => ha e (by simp [he])
  exact key _ h
theorem ev_rd {E : Env} {B : Nat} {F : Nat → Prop} {σ : Sg} {s : St} {w : World} {a : Act} (h : WInv E B F σ s.ob w) (hs : ∀ t, RdX w F σ (lk s.tm t) (a.tmps.getD t undef)) (x : Operand) :
    RdX w F σ (s.ev E x) (a.eval x) := by
  cases x with
  | tmp t => exact hs t
  | const v => exact ofConst_rd v
  | global g => exact findG_rd h.glob.1 g
  | func f => exact Rd.imm _ rfl
theorem lk_put {s : St} {dst : Option Tmp} {x : X} {w : World} {F : Nat → Prop} {σ : Sg} {a : Act} {v : Value} {N : Nat} (hs : ∀ t, RdX w F σ (lk s.tm t) (a.tmps.getD t undef)) (hN : a.tmps.size = N)
    (hd : ∀ d, dst = some d → d < N) (hv : dst ≠ none → RdX w F σ x v) (t : Nat) : RdX w F σ (lk (s.put dst x).tm t) ((a.put dst v).tmps.getD t undef) := by
  cases dst with
  | none => exact hs t
  | some d =>
    have hlt := hd d rfl
    simp only [St.put, Act.put, lk]
    cases hb : Nat.beq d t with
    | true =>
      obtain rfl := Nat.eq_of_beq_eq_true hb
      simp [hN, hlt]
      exact hv (by simp)
    | false =>
      have hne : d ≠ t := Nat.ne_of_beq_eq_false hb
      have := hs t
      simp only [Array.getD_eq_getD_getElem?] at this ⊢
      rw [Array.getElem?_setIfInBounds_ne hne]
      exact this
end Go.Abs
