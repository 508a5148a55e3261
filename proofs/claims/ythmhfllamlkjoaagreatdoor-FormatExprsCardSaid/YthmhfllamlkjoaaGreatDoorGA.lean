/- The abstract values of the engine, how they are read in memory, and that the reading is kept when memory grows; The engine's rules for control: sequences, tests, blocks, loops, and regions whose order is the text's; The engine's rule for regions whose order is drawn: what is reckoned in the text's order holds in every order that the edges allow; The engine's operations that yield a value: what each yields, reckoned by a plain function, and that it is so; That each operation yields what the plain functions of the engine reckon; Further operations that yield a value: strings, lengths, cuts, stru. Conditions: each part's own, as it says. -/
import Derived.Below
import Derived.Calls
import Derived.Orders
import Derived.Laws.Entries
import Derived.Laws.Cells
import Derived.Laws.Rows
import Derived.Tactics
import Derived.Deep.LoopGhost
import Derived.Laws.Small
import Derived.Laws.CopyRow
/- The abstract values of the engine, how they are read in memory, and that the reading is kept when memory grows. Conditions: none; plain definitions and lemmas over any program. -/
namespace Go.Abs
open Go Go.RowKit

theorem block_add (a : Addr) (n : Nat) : (a.add n).block = a.block := by unfold Addr.add; split <;> rfl
theorem add_add (a : Addr) (i j : Nat) : (a.add i).add j = a.add (i + j) := by
  unfold Addr.add
  by_cases hi : i = 0 <;> by_cases hj : j = 0 <;> simp [hi, hj, Nat.add_assoc]
theorem add_mk (b o n : Nat) : (⟨b, o, none⟩ : Addr).add n = ⟨b, o + n, none⟩ := by
  unfold Addr.add
  by_cases h : n = 0 <;> simp [h]

/-- Data: immediate values, structs as their cells, slices that nobody writes any more. -/
inductive D where
  | imm (v : Value)
  | agg (cs : List D)
  | sl (xs : List D)
  deriving Inhabited

def D.cells : D → List D
  | .agg cs => cs
  | d => [d]
def D.one : D → Bool
  | .agg _ => false
  | _ => true
/-- No slice inside: such a datum reads the same whatever memory holds. -/
def D.plain : D → Bool
  | .imm _ => true
  | _ => false
abbrev D.int (n : Int) : D := .imm (.int .i64 n)
abbrev D.bool (b : Bool) : D := .imm (.bool b)
abbrev D.str (s : ByteArray) : D := .imm (.string s)

def okV : Value → Bool
  | .bool _ => true
  | .int k n => decide (k.min ≤ n) && decide (n ≤ k.max)
  | .string s => decide (s.size ≤ maxLen)
  | .func (.func _) a b => a.isEmpty && b.isEmpty
  | .nilFunc => true
  | .nilIface => true
  | .pointer none => true
  | _ => false

theorem okV_one {v : Value} (h : okV v = true) : v.oneCell' = true := by
  cases v <;> simp_all [okV, Value.oneCell']

/-- The datum d is what the value v reads as, all slices in blocks of F. -/
inductive Rd (w : World) (F : Nat → Prop) : D → Value → Prop
  | imm (v : Value) (h : okV v = true) : Rd w F (.imm v) v
  | agg (cs : List D) (vs : List Value) (hl : cs.length = vs.length) (hc : ∀ c ∈ cs, c.one = true)
      (h : ∀ (i : Nat) (c : D) (v : Value), cs[i]? = some c → vs[i]? = some v → Rd w F c v) : Rd w F (.agg cs) (.agg vs.toArray)
  | slnil : Rd w F (.sl []) (.slice none 0 0)
  | sl (size : Nat) (xs : List D) (ad : Addr) (cap : Nat) (u : Nat → Nat → Value) (hc : xs.length ≤ cap) (hm : cap ≤ maxLen) (hF : xs ≠ [] → F ad.block)
      (hz : ∀ x ∈ xs, x.cells.length = size) (ho : ∀ x ∈ xs, ∀ c ∈ x.cells, c.one = true)
      (hcell : ∀ (i : Nat) (x : D) (j : Nat) (c : D), xs[i]? = some x → x.cells[j]? = some c → w.cell? (ad.add (i * size + j)) = some (u i j))
      (hrd : ∀ (i : Nat) (x : D) (j : Nat) (c : D), xs[i]? = some x → x.cells[j]? = some c → Rd w F c (u i j)) :
      Rd w F (.sl xs) (.slice (some ad) xs.length cap)

theorem Rd.mono {w w' : World} {F F' : Nat → Prop} {d : D} {v : Value} (h : Rd w F d v) (hF : ∀ b, F b → F' b)
    (hw : ∀ b, F b → w'.heap[b]? = w.heap[b]?) : Rd w' F' d v := by
  induction h with
  | imm v h => exact .imm v h
  | agg cs vs hl hc _ ih => exact .agg cs vs hl hc ih
  | slnil => exact .slnil
  | sl size xs ad cap u hc hm hF' hz ho hcell _ ih =>
    refine .sl size xs ad cap u hc hm (fun h => hF _ (hF' h)) hz ho (fun i x j c hx hj => ?_) ih
    rw [← hcell i x j c hx hj]
    refine World.cell?_of_block ?_
    rw [block_add]
    refine hw _ (hF' ?_)
    rintro rfl
    simp at hx

theorem Rd.plain {w w' : World} {F F' : Nat → Prop} {d : D} {v : Value} (h : Rd w F d v) (hp : d.plain = true) : Rd w' F' d v := by
  cases h with
  | imm v h => exact .imm v h
  | _ => simp [D.plain] at hp

theorem Rd.one {w : World} {F : Nat → Prop} {d : D} {v : Value} (h : Rd w F d v) (hd : d.one = true) : v.oneCell' = true := by
  cases h with
  | imm v h => exact okV_one h
  | agg => simp [D.one] at hd
  | slnil => rfl
  | sl => rfl

theorem Rd.imm_inv {w : World} {F : Nat → Prop} {u v : Value} (h : Rd w F (.imm u) v) : v = u ∧ okV u = true := by
  cases h with
  | imm _ h => exact ⟨rfl, h⟩

theorem Rd.agg_inv {w : World} {F : Nat → Prop} {cs : List D} {v : Value} (h : Rd w F (.agg cs) v) :
    ∃ vs : List Value, v = .agg vs.toArray ∧ cs.length = vs.length ∧ (∀ c ∈ cs, c.one = true) ∧ ∀ (i : Nat) (c : D) (v : Value), cs[i]? = some c → vs[i]? = some v → Rd w F c v := by
  cases h with
  | agg _ vs hl hc h => exact ⟨vs, rfl, hl, hc, h⟩

theorem Rd.sl_inv {w : World} {F : Nat → Prop} {xs : List D} {v : Value} (h : Rd w F (.sl xs) v) : (xs = [] ∧ v = .slice none 0 0) ∨
    ∃ (size : Nat) (ad : Addr) (cap : Nat), v = .slice (some ad) xs.length cap ∧ xs.length ≤ cap ∧ cap ≤ maxLen ∧ (xs ≠ [] → F ad.block) ∧ (∀ x ∈ xs, x.cells.length = size) ∧ (∀ x ∈ xs, ∀ c ∈ x.cells, c.one = true) ∧
      ∀ (i : Nat) (x : D) (j : Nat) (c : D), xs[i]? = some x → x.cells[j]? = some c → ∃ u, w.cell? (ad.add (i * size + j)) = some u ∧ Rd w F c u := by
  cases h with
  | slnil => exact .inl ⟨rfl, rfl⟩
  | sl size xs ad cap u hc hm hF hz ho hcell hrd => exact .inr ⟨size, ad, cap, rfl, hc, hm, hF, hz, ho, fun i x j c h1 h2 => ⟨u i j, hcell i x j c h1 h2, hrd i x j c h1 h2⟩⟩

/-- The cells of a value, whichever shape it has. -/
theorem Rd.cells {w : World} {F : Nat → Prop} {d : D} {v : Value} (h : Rd w F d v) :
    v.cells.size = d.cells.length ∧ (∀ (i : Nat) (c : D) (u : Value), d.cells[i]? = some c → v.cells[i]? = some u → Rd w F c u) ∧ (∀ c ∈ d.cells, c.one = true) := by
  have key : ∀ (d : D) (v : Value), Rd w F d v → d.one = true → d.cells = [d] ∧ v.cells = #[v] := by
    intro d v h hd
    have hv := h.one hd
    constructor
    · cases d <;> simp_all [D.one, D.cells]
    · cases v <;> simp_all [Value.oneCell', Value.cells]
  by_cases hd : d.one = true
  · obtain ⟨e1, e2⟩ := key d v h hd
    rw [e1, e2]
    refine ⟨rfl, ?_, by simpa using hd⟩
    intro i c u hc hu
    cases i with
    | zero => simp at hc hu; subst hc hu; exact h
    | succ i => simp at hc
  · cases d with
    | agg cs =>
      obtain ⟨vs, rfl, hl, hc, hr⟩ := h.agg_inv
      refine ⟨by simp [Value.cells, D.cells, hl], ?_, by simpa [D.cells] using hc⟩
      intro i c u h1 h2
      exact hr i c u h1 (by simpa [Value.cells] using h2)
    | imm => simp [D.one] at hd
    | sl => simp [D.one] at hd

/-! ## What a slot holds -/
/-- What a closure holds on to: data, or a variable's address. -/
inductive Cap where
  | d (x : D)
  | ptr (o off : Nat)
  deriving Inhabited
inductive X where
  | d (x : D)
  | nilS
  | tup (xs : List D)
  | ptr (o off : Nat)
  | at_ (x : D) (off : Nat)
  | own (o : Nat)
  | pel (o i off size : Nat)
  | mayb (p : Prop)
  | clo (f : FuncId) (cs : List Cap)
  | und
  | top
  deriving Inhabited
def Cap.x : Cap → X
  | .d x => .d x
  | .ptr o off => .ptr o off

abbrev Sg := List (Nat × Nat × Nat)

/-- At this address of a block that nobody writes stand the cells of x. -/
def Mem (w : World) (F : Nat → Prop) (x : D) (ad : Addr) : Prop :=
  F ad.block ∧ (∀ c ∈ x.cells, c.one = true) ∧ ∀ (j : Nat) (c : D), x.cells[j]? = some c → ∃ u, w.cell? (ad.add j) = some u ∧ Rd w F c u
theorem Mem.mono {w w' : World} {F F' : Nat → Prop} {x : D} {ad : Addr} (h : Mem w F x ad) (hF : ∀ b, F b → F' b) (hw : ∀ b, F b → w'.heap[b]? = w.heap[b]?) : Mem w' F' x ad := by
  refine ⟨hF _ h.1, h.2.1, fun j c hj => ?_⟩
  obtain ⟨u, h1, h2⟩ := h.2.2 j c hj
  exact ⟨u, by rw [← h1]; exact World.cell?_of_block (by rw [block_add]; exact hw _ h.1), h2.mono hF hw⟩

def CapRd (w : World) (F : Nat → Prop) (σ : Sg) : Cap → Value → Prop
  | .d x, v => Rd w F x v
  | .ptr o off, v => ∃ b c n, σ[o]? = some (b, c, n) ∧ v = .pointer (some ⟨b, off, none⟩)
theorem CapRd.mono {w w' : World} {F F' : Nat → Prop} {σ σ' : Sg} {x : Cap} {v : Value} (h : CapRd w F σ x v) (hF : ∀ b, F b → F' b)
    (hw : ∀ b, F b → w'.heap[b]? = w.heap[b]?) (hσ : ∀ (o : Nat) p, σ[o]? = some p → σ'[o]? = some p) : CapRd w' F' σ' x v := by
  cases x with
  | d x => exact Rd.mono h hF hw
  | ptr o off => obtain ⟨b, c, n, h1, h2⟩ := h; exact ⟨b, c, n, hσ _ _ h1, h2⟩

def RdX (w : World) (F : Nat → Prop) (σ : Sg) : X → Value → Prop
  | .d x, v => Rd w F x v
  | .nilS, v => v = .slice none 0 0
  | .tup xs, v => ∃ vs : List Value, v = .tuple vs.toArray ∧ xs.length = vs.length ∧ ∀ (i : Nat) (x : D) (u : Value), xs[i]? = some x → vs[i]? = some u → Rd w F x u
  | .ptr o off, v => ∃ b c n, σ[o]? = some (b, c, n) ∧ v = .pointer (some ⟨b, off, none⟩)
  | .at_ x off, v => ∃ ad, Mem w F x ad ∧ v = .pointer (some (ad.add off))
  | .own o, v => ∃ b c n, σ[o]? = some (b, c, n) ∧ v = .slice (some ⟨b, 0, none⟩) n c
  | .pel o i off size, v => ∃ b c n, σ[o]? = some (b, c, n) ∧ v = .pointer (some ⟨b, i * size + off, none⟩)
  | .mayb p, v => ∃ b : Bool, v = .bool b ∧ (b = true → p)
  | .clo f cs, v => ∃ us : List Value, v = .func (.func f) #[] us.toArray ∧ cs.length = us.length ∧ ∀ (i : Nat) c u, cs[i]? = some c → us[i]? = some u → CapRd w F σ c u
  | .und, v => v = undef
  | .top, _ => True

theorem RdX.mono {w w' : World} {F F' : Nat → Prop} {σ σ' : Sg} {x : X} {v : Value} (h : RdX w F σ x v) (hF : ∀ b, F b → F' b)
    (hw : ∀ b, F b → w'.heap[b]? = w.heap[b]?) (hσ : ∀ (o : Nat) p, σ[o]? = some p → σ'[o]? = some p) : RdX w' F' σ' x v := by
  cases x with
  | d x => exact Rd.mono h hF hw
  | nilS => exact h
  | tup xs => obtain ⟨vs, e, hl, hr⟩ := h; exact ⟨vs, e, hl, fun i x u h1 h2 => (hr i x u h1 h2).mono hF hw⟩
  | ptr o off => obtain ⟨b, c, n, h1, h2⟩ := h; exact ⟨b, c, n, hσ _ _ h1, h2⟩
  | at_ x off => obtain ⟨ad, h1, h2⟩ := h; exact ⟨ad, h1.mono hF hw, h2⟩
  | own o => obtain ⟨b, c, n, h1, h2⟩ := h; exact ⟨b, c, n, hσ _ _ h1, h2⟩
  | pel o i off size => obtain ⟨b, c, n, h1, h2⟩ := h; exact ⟨b, c, n, hσ _ _ h1, h2⟩
  | mayb p => exact h
  | clo f cs => obtain ⟨us, e, hl, hr⟩ := h; exact ⟨us, e, hl, fun i c u h1 h2 => (hr i c u h1 h2).mono hF hw hσ⟩
  | und => exact h
  | top => trivial

/-- What a variable holds: one value, or its cells one by one. -/
inductive VC where
  | w (x : X)
  | cs (l : List X)
  deriving Inhabited
def X.cells : X → List X
  | .d x => x.cells.map .d
  | x => [x]
def VC.cells : VC → List X
  | .w x => x.cells
  | .cs l => l

/-- An object of the call's own: a variable, a row that grows, or one that is given up. -/
inductive AObj where
  | var (ty : TypeId) (c : VC)
  | row (e : TypeId) (size : Nat) (xs : List D)
  | mrow (e : TypeId) (size : Nat) (xs : List D)
  | dead
  deriving Inhabited
def AObj.live : AObj → Bool
  | .dead => false
  | _ => true

def ObOK (w : World) (F : Nat → Prop) (σ : Sg) (B : Nat → Prop) : AObj → Nat × Nat × Nat → Prop
  | .var ty cs, (b, _, _) => ∃ vs : List Value, w.heap[b]? = some (.cells vs.toArray ty (0, 0)) ∧ cs.cells.length = vs.length ∧ (∀ v ∈ vs, v.oneCell' = true) ∧
      (∀ (i : Nat) x v, cs.cells[i]? = some x → vs[i]? = some v → RdX w F σ x v) ∧ ¬ B b ∧ ¬ F b
  | .row e size xs, (b, c, n) => ∃ vs : List Value, w.heap[b]? = some (.cells vs.toArray e (0, 0)) ∧ vs.length = c * size ∧ n = xs.length ∧ n ≤ c ∧ c ≤ maxLen ∧
      (∀ x ∈ xs, x.cells.length = size) ∧ (∀ x ∈ xs, ∀ c ∈ x.cells, c.one = true) ∧
      (∀ (i : Nat) (x : D) (j : Nat) (cd : D), xs[i]? = some x → x.cells[j]? = some cd → ∃ v, vs[i * size + j]? = some v ∧ Rd w F cd v) ∧ ¬ B b ∧ ¬ F b
  | .mrow e size xs, (b, c, n) => ∃ vs : List Value, w.heap[b]? = some (.cells vs.toArray e (vs.length, vs.length + 1)) ∧ vs.length = c * size ∧ n = xs.length ∧ n ≤ c ∧ c ≤ maxLen ∧
      (∀ x ∈ xs, x.cells.length = size) ∧ (∀ x ∈ xs, ∀ c ∈ x.cells, c.one = true) ∧
      (∀ (i : Nat) (x : D) (j : Nat) (cd : D), xs[i]? = some x → x.cells[j]? = some cd → ∃ v, vs[i * size + j]? = some v ∧ Rd w F cd v) ∧ ¬ B b ∧ ¬ F b
  | .dead, _ => True

theorem ObOK.mono {w w' : World} {F F' : Nat → Prop} {σ σ' : Sg} {B : Nat → Prop} {x : AObj} {p : Nat × Nat × Nat} (h : ObOK w F σ B x p) (hF : ∀ b, F b → F' b)
    (hw : ∀ b, F b → w'.heap[b]? = w.heap[b]?) (hσ : ∀ (o : Nat) p, σ[o]? = some p → σ'[o]? = some p)
    (hb : x.live = true → w'.heap[p.1]? = w.heap[p.1]?) (hn : x.live = true → ¬ F p.1 → ¬ F' p.1) : ObOK w' F' σ' B x p := by
  obtain ⟨b, c, n⟩ := p
  cases x with
  | var ty cs =>
    obtain ⟨vs, h1, h2, h3, h4, h5, h6⟩ := h
    exact ⟨vs, (hb rfl).trans h1, h2, h3, fun i x v a e => (h4 i x v a e).mono hF hw hσ, h5, hn rfl h6⟩
  | row e size xs =>
    obtain ⟨vs, h1, h2, h3, h4, h5, h6, h7, h8, h9, h10⟩ := h
    refine ⟨vs, (hb rfl).trans h1, h2, h3, h4, h5, h6, h7, fun i x j cd a e => ?_, h9, hn rfl h10⟩
    obtain ⟨v, e1, e2⟩ := h8 i x j cd a e
    exact ⟨v, e1, e2.mono hF hw⟩
  | mrow e size xs =>
    obtain ⟨vs, h1, h2, h3, h4, h5, h6, h7, h8, h9, h10⟩ := h
    refine ⟨vs, (hb rfl).trans h1, h2, h3, h4, h5, h6, h7, fun i x j cd a e => ?_, h9, hn rfl h10⟩
    obtain ⟨v, e1, e2⟩ := h8 i x j cd a e
    exact ⟨v, e1, e2.mono hF hw⟩
  | dead => trivial

/-- Memory after, against memory before: all blocks that were there are as they were; what may be read as data has grown by new blocks alone. -/
structure Ext (w : World) (F : Nat → Prop) (w' : World) (F' : Nat → Prop) : Prop where
  below : Below w.heap.size w w'
  more : ∀ b, F b → F' b
  new : ∀ b, F' b → F b ∨ w.heap.size ≤ b
  lt : ∀ b, F' b → b < w'.heap.size

theorem Ext.refl {w : World} {F : Nat → Prop} (h : ∀ b, F b → b < w.heap.size) : Ext w F w F :=
  ⟨Below.refl _ _, fun _ h => h, fun _ h => .inl h, h⟩
theorem Ext.trans {a b c : World} {F G H : Nat → Prop} (h : Ext a F b G) (k : Ext b G c H) : Ext a F c H :=
  ⟨h.below.trans (k.below.mono h.below.size), fun x hx => k.more x (h.more x hx), fun x hx => by
    rcases k.new x hx with h1 | h1
    · exact h.new x h1
    · exact .inr (Nat.le_trans h.below.size h1), k.lt⟩
theorem Ext.of_below {w w' : World} {F : Nat → Prop} (h : Below w.heap.size w w') (hF : ∀ b, F b → b < w.heap.size) : Ext w F w' F :=
  ⟨h, fun _ h => h, fun _ h => .inl h, fun b hb => Nat.lt_of_lt_of_le (hF b hb) h.size⟩
theorem Ext.keep {w w' : World} {F F' : Nat → Prop} (h : Ext w F w' F') (hF : ∀ b, F b → b < w.heap.size) : ∀ b, F b → w'.heap[b]? = w.heap[b]? :=
  fun b hb => h.below.block b (hF b hb)
theorem Rd.ext {w w' : World} {F F' : Nat → Prop} {d : D} {v : Value} (h : Rd w F d v) (he : Ext w F w' F') (hF : ∀ b, F b → b < w.heap.size) : Rd w' F' d v :=
  h.mono he.more (he.keep hF)
theorem RdX.ext {w w' : World} {F F' : Nat → Prop} {σ : Sg} {d : X} {v : Value} (h : RdX w F σ d v) (he : Ext w F w' F') (hF : ∀ b, F b → b < w.heap.size) : RdX w' F' σ d v :=
  h.mono he.more (he.keep hF) fun _ _ h => h

/-- Memory after, against memory at the start: the blocks of O are as they were. -/
structure Kept (O : Nat → Prop) (w w' : World) : Prop where
  os : w'.os = w.os
  tape : w'.tape = w.tape
  output : w'.output = w.output
  size : w.heap.size ≤ w'.heap.size
  block : ∀ k, O k → w'.heap[k]? = w.heap[k]?
  old : ∀ k, O k → k < w.heap.size
theorem Kept.refl {O : Nat → Prop} {w : World} (h : ∀ k, O k → k < w.heap.size) : Kept O w w := ⟨rfl, rfl, rfl, Nat.le_refl _, fun _ _ => rfl, h⟩
theorem Kept.step {O : Nat → Prop} {a b c : World} (h : Kept O a b) (k : Below b.heap.size b c) : Kept O a c :=
  ⟨k.os.trans h.os, k.tape.trans h.tape, k.output.trans h.output, Nat.le_trans h.size k.size, fun i hi => (k.block i (Nat.lt_of_lt_of_le (h.old i hi) h.size)).trans (h.block i hi), h.old⟩
theorem Kept.new {O : Nat → Prop} {a b : World} (h : Kept O a b) {k : Nat} (hk : b.heap.size ≤ k) : ¬ O k := fun ho => by
  have := h.old k ho
  have := h.size
  omega
theorem Kept.below {w w' : World} (h : Kept (fun k => k < w.heap.size) w w') : Below w.heap.size w w' := ⟨h.os, h.tape, h.output, h.size, h.block⟩

/-! ## What is known of the program -/
structure TE where
  t : TypeId
  desc : TypeDesc
  size : Nat
  bytes : Nat
  zero : Value
def TE.ok (P : Program) (e : TE) : Prop :=
  P.underlying e.t = some e.desc ∧ ∃ i, P.info? e.t = some i ∧ i.size = e.size ∧ i.bytes = e.bytes ∧ i.zero = some e.zero
def findT : List TE → TypeId → Option TE
  | [], _ => none
  | e :: r, t => bif Nat.beq e.t t then some e else findT r t
structure GE where
  g : Nat
  x : D
def findG : List GE → Nat → X
  | [], _ => .top
  | e :: r, g => bif Nat.beq e.g g then .at_ e.x 0 else findG r g
structure Env where
  P : Program
  T : List TE
  G : List GE
  hT : ∀ e ∈ T, e.ok P
  hM : P.follows .mixedOrders = true
  I : World → (Nat → Prop) → Prop
  hI : ∀ (w w' : World) (F F' : Nat → Prop), (∀ b, F b → F' b) → (∀ b, F b → w'.heap[b]? = w.heap[b]?) → I w F → I w' F'

theorem findT_ok {E : Env} {t : TypeId} {e : TE} (h : findT E.T t = some e) : e.ok E.P ∧ e.t = t := by
  have key : ∀ l : List TE, (∀ e ∈ l, e.ok E.P) → findT l t = some e → e.ok E.P ∧ e.t = t := by
    intro l
    induction l with
    | nil => intro _ h; simp [findT] at h
    | cons a r ih =>
      intro ha h
      simp only [findT] at h
      cases hb : Nat.beq a.t t with
      | true => rw [hb] at h; simp at h; subst h; exact ⟨ha _ (by simp), Nat.eq_of_beq_eq_true hb⟩
      | false => rw [hb] at h; exact ih (fun e he => ha e (by simp [he])) (by simpa using h)
  exact key E.T E.hT h

/-- The listed package-level variables read as listed. -/
def GOK (w : World) (F : Nat → Prop) (e : GE) : Prop := Mem w F e.x ⟨e.g, 0, none⟩
/-- What is known of the blocks that nobody writes: the listed variables, and the seat's own invariant. -/
def Env.GI (E : Env) (w : World) (F : Nat → Prop) : Prop := (∀ e ∈ E.G, GOK w F e) ∧ E.I w F
theorem Env.GI.mono {E : Env} {w w' : World} {F F' : Nat → Prop} (h : E.GI w F) (hF : ∀ b, F b → F' b) (hw : ∀ b, F b → w'.heap[b]? = w.heap[b]?) : E.GI w' F' :=
  ⟨fun e he => Mem.mono (h.1 e he) hF hw, E.hI w w' F F' hF hw h.2⟩

/-- What a call starts from: the blocks that it must leave alone; the objects that it was given, and where they lie. -/
structure Base where
  O : Nat → Prop
  n0 : Nat
  σ0 : Sg
structure WInv (E : Env) (B : Base) (F : Nat → Prop) (σ : Sg) (ob : List AObj) (w : World) : Prop where
  flt : ∀ b, F b → b < w.heap.size
  glob : E.GI w F
  len : σ.length = ob.length
  obs : ∀ (o : Nat) x p, ob[o]? = some x → σ[o]? = some p → ObOK w F σ B.O x p
  inj : ∀ (o o' : Nat) x x' p p', o ≠ o' → ob[o]? = some x → x.live = true → ob[o']? = some x' → x'.live = true → σ[o]? = some p → σ[o']? = some p' → p.1 ≠ p'.1
  pre : ∀ (i : Nat) p, i < B.n0 → B.σ0[i]? = some p → σ[i]? = some p

theorem ObOK.lt {w : World} {F : Nat → Prop} {σ : Sg} {B : Nat → Prop} {x : AObj} {p : Nat × Nat × Nat} (h : ObOK w F σ B x p) (hx : x.live = true) : p.1 < w.heap.size := by
  have key : ∀ b (o : Obj), w.heap[b]? = some o → b < w.heap.size := fun b o h => by
    rcases Nat.lt_or_ge b w.heap.size with hlt | hge
    · exact hlt
    · rw [Array.getElem?_eq_none hge] at h; cases h
  obtain ⟨b, c, n⟩ := p
  cases x with
  | var ty cs => obtain ⟨vs, h1, _⟩ := h; exact key b _ h1
  | row e size xs => obtain ⟨vs, h1, _⟩ := h; exact key b _ h1
  | mrow e size xs => obtain ⟨vs, h1, _⟩ := h; exact key b _ h1
  | dead => simp [AObj.live] at hx

theorem WInv.ext {E : Env} {B : Base} {F F' : Nat → Prop} {σ : Sg} {ob : List AObj} {w w' : World} (h : WInv E B F σ ob w) (he : Ext w F w' F') : WInv E B F' σ ob w' where
  flt := he.lt
  glob := h.glob.mono he.more (he.keep h.flt)
  len := h.len
  obs := fun o x p hx hp => by
    have ho := h.obs o x p hx hp
    refine ho.mono he.more (he.keep h.flt) (fun _ _ h => h) (fun hl => he.below.block _ (ho.lt hl)) (fun hl hn hf => ?_)
    rcases he.new _ hf with h1 | h1
    · exact hn h1
    · have := ho.lt hl; omega
  inj := h.inj
  pre := h.pre

/-! ## The state of a walk -/
structure St where
  tm : List (Nat × X)
  ob : List AObj
def lk : List (Nat × X) → Nat → X
  | [], _ => .top
  | (k, x) :: r, n => bif Nat.beq k n then x else lk r n
def ofConst : Value → X
  | .slice none 0 0 => .nilS
  | v => bif okV v then .d (.imm v) else .top
def St.ev (E : Env) (s : St) : Operand → X
  | .tmp t => lk s.tm t
  | .const v => ofConst v
  | .global g => findG E.G g
  | .func f => .d (.imm (.func (.func f) #[] #[]))
def St.put (s : St) (dst : Option Tmp) (x : X) : St :=
  match dst with
  | some d => { s with tm := (d, x) :: s.tm }
  | none => s

structure Cx where
  E : Env
  w0 : World
  F0 : Nat → Prop
  N : Nat
  base : Base
abbrev Cx.O (C : Cx) : Nat → Prop := C.base.O
def Cx.Rel (C : Cx) (s : St) (a : Act) (w : World) : Prop :=
  ∃ F σ, Kept C.O C.w0 w ∧ (∀ b, C.F0 b → F b) ∧ (∀ b, F b → C.F0 b ∨ ¬ C.O b) ∧ WInv C.E C.base F σ s.ob w ∧
    a.defers = [] ∧ a.tmps.size = C.N ∧ ∀ t, RdX w F σ (lk s.tm t) (a.tmps.getD t undef)

theorem ofConst_rd {w : World} {F : Nat → Prop} {σ : Sg} (v : Value) : RdX w F σ (ofConst v) v := by
  unfold ofConst
  split
  · rfl
  · cases h : okV v with
    | true => exact .imm _ h
    | false => trivial
theorem findG_rd {E : Env} {w : World} {F : Nat → Prop} {σ : Sg} (h : ∀ e ∈ E.G, GOK w F e) (g : Nat) : RdX w F σ (findG E.G g) (.pointer (some ⟨g, 0, none⟩)) := by
  have key : ∀ l : List GE, (∀ e ∈ l, GOK w F e) → RdX w F σ (findG l g) (.pointer (some ⟨g, 0, none⟩)) := by
    intro l
    induction l with
    | nil => intro _; trivial
    | cons a r ih =>
      intro ha
      simp only [findG]
      cases hb : Nat.beq a.g g with
      | true =>
        obtain rfl := Nat.eq_of_beq_eq_true hb
        exact ⟨_, ha a (by simp), by simp [Addr.add]⟩
      | false => exact ih fun e he => ha e (by simp [he])
  exact key _ h
theorem ev_rd {E : Env} {B : Base} {F : Nat → Prop} {σ : Sg} {s : St} {w : World} {a : Act} (h : WInv E B F σ s.ob w) (hs : ∀ t, RdX w F σ (lk s.tm t) (a.tmps.getD t undef)) (x : Operand) :
    RdX w F σ (s.ev E x) (a.eval x) := by
  cases x with
  | tmp t => exact hs t
  | const v => exact ofConst_rd v
  | global g => exact findG_rd h.glob.1 g
  | func f => exact Rd.imm _ rfl
theorem lk_put {s : St} {dst : Option Tmp} {x : X} {w : World} {F : Nat → Prop} {σ : Sg} {a : Act} {v : Value} {N : Nat} (hs : ∀ t, RdX w F σ (lk s.tm t) (a.tmps.getD t undef)) (hN : a.tmps.size = N)
    (hd : ∀ d, dst = some d → d < N) (hv : dst ≠ none → RdX w F σ x v) (t : Nat) : RdX w F σ (lk (s.put dst x).tm t) ((a.put dst v).tmps.getD t undef) := by
  cases dst with
  | none => exact hs t
  | some d =>
    have hlt := hd d rfl
    simp only [St.put, Act.put, lk]
    cases hb : Nat.beq d t with
    | true =>
      obtain rfl := Nat.eq_of_beq_eq_true hb
      simp [hN, hlt]
      exact hv (by simp)
    | false =>
      have hne : d ≠ t := Nat.ne_of_beq_eq_false hb
      have := hs t
      simp only [Array.getD_eq_getD_getElem?] at this ⊢
      rw [Array.getElem?_setIfInBounds_ne hne]
      exact this
end Go.Abs

/- The engine's rules for control: sequences, tests, blocks, loops, and regions whose order is the text's. Conditions: none; lemmas over any program. -/
namespace Go.Abs
open Go Go.RowKit

/-- Whatever a state describes, the other describes, too. -/
def Le (C : Cx) (s s' : St) : Prop := ∀ a w, C.Rel s a w → C.Rel s' a w
theorem Le.refl (C : Cx) (s : St) : Le C s s := fun _ _ h => h
theorem Le.trans {C : Cx} {a b c : St} (h : Le C a b) (k : Le C b c) : Le C a c := fun _ _ x => k _ _ (h _ _ x)

inductive It where
  | code (c : Code)
  | blk (id : Nat)
  | stop (I : St → Prop)

def Cx.wp (C : Cx) (c : Code) (s : St) (Q : Exit → St → Prop) : Prop :=
  ∀ a w, C.Rel s a w → c.wp C.E.P (fun e a' w' => ∃ s', C.Rel s' a' w' ∧ Q e s') a w

def thenS (I : St → Prop) (Q : Exit → St → Prop) : Exit → St → Prop
  | .normal, s => I s
  | e, s => Q e s
def blkS (id : Nat) (Q : Exit → St → Prop) : Exit → St → Prop
  | .exit i, s => if i = id then Q .normal s else Q (.exit i) s
  | e, s => Q e s
def kont (C : Cx) : List It → (Exit → St → Prop) → Exit → St → Prop
  | [], Q => Q
  | .code c :: r, Q => thenS (fun s => C.wp c s (kont C r Q)) (kont C r Q)
  | .blk id :: r, Q => blkS id (kont C r Q)
  | .stop I :: r, Q => thenS I (kont C r Q)

/-- The walk's goal: with this still to do, from every state that s describes, the run ends as Q says. -/
def go (C : Cx) (todo : List It) (s : St) (Q : Exit → St → Prop) : Prop := kont C todo Q .normal s

section
variable {C : Cx} {r : List It} {s : St} {Q : Exit → St → Prop}

theorem go_nil (h : Q .normal s) : go C [] s Q := h
theorem go_stop {I : St → Prop} (h : I s) : go C (.stop I :: r) s Q := h
theorem qG {id : Nat} (h : go C r s Q) : go C (.blk id :: r) s Q := h
theorem wp_code {c : Code} (h : C.wp c s (kont C r Q)) : go C (.code c :: r) s Q := h

theorem qA {x y : Code} (h : go C (.code x :: .code y :: r) s Q) : go C (.code (.seq x y) :: r) s Q := by
  intro a w hr
  refine wp_seq (wp_mono (h a w hr) ?_)
  intro e a' w' ⟨s', hs, hq⟩
  cases e with
  | normal => exact hq a' w' hs
  | _ => exact ⟨s', hs, hq⟩
theorem qE (h : go C r s Q) : go C (.code .skip :: r) s Q := fun _ _ hr => wp_skip ⟨s, hr, h⟩
theorem kont_ret : ∀ {r : List It}, Q .ret s → kont C r Q .ret s
  | [], h => h
  | .code _ :: r, h => kont_ret (r := r) h
  | .blk _ :: r, h => kont_ret (r := r) h
  | .stop _ :: r, h => kont_ret (r := r) h
theorem go_ret_ (h : Q .ret s) : go C (.code .ret :: r) s Q := fun _ _ hr => wp_ret ⟨s, hr, kont_ret h⟩
def exitK (id : Nat) : List It → Option (List It)
  | [] => none
  | .blk i :: r => bif Nat.beq i id then some r else exitK id r
  | .code _ :: r => exitK id r
  | .stop _ :: r => exitK id r
theorem kont_exit {id : Nat} : ∀ {r r' : List It}, exitK id r = some r' → go C r' s Q → kont C r Q (.exit id) s
  | .blk i :: r, r', h, hq => by
    simp only [exitK] at h
    cases hb : Nat.beq i id with
    | true =>
      rw [hb] at h
      simp at h
      subst h
      obtain rfl := Nat.eq_of_beq_eq_true hb
      simp only [kont, blkS, if_true]
      exact hq
    | false =>
      rw [hb] at h
      have hne : ¬ id = i := fun e => Nat.ne_of_beq_eq_false hb e.symm
      simp only [kont, blkS, if_neg hne]
      exact kont_exit (by simpa using h) hq
  | .code _ :: r, r', h, hq => by
    simp only [exitK] at h
    exact kont_exit (r := r) h hq
  | .stop _ :: r, r', h, hq => by
    simp only [exitK] at h
    exact kont_exit (r := r) h hq
theorem qH {id : Nat} {r' : List It} (h : exitK id r = some r') (hq : go C r' s Q) : go C (.code (.exit id) :: r) s Q :=
  fun _ _ hr => wp_exit ⟨s, hr, kont_exit h hq⟩
theorem qF {id : Nat} {c : Code} (h : go C (.code c :: .blk id :: r) s Q) : go C (.code (.block id c) :: r) s Q := by
  intro a w hr
  refine wp_block (wp_mono (h a w hr) ?_)
  intro e a' w' ⟨s', hs, hq⟩
  cases e with
  | exit i =>
    simp only [kont, blkS] at hq
    simp only [Exit.inBlock]
    split
    · rename_i hi; rw [if_pos hi] at hq; exact ⟨s', hs, hq⟩
    · rename_i hi; rw [if_neg hi] at hq; exact ⟨s', hs, hq⟩
  | _ => exact ⟨s', hs, hq⟩
theorem go_weaken {c : Code} {s' : St} (hl : Le C s s') (h : go C (.code c :: r) s' Q) : go C (.code c :: r) s Q := fun a w hr => h a w (hl a w hr)
theorem go_use {c : Code} (h : ∀ a w, C.Rel s a w → go C (.code c :: r) s Q) : go C (.code c :: r) s Q := fun a w hr => h a w hr a w hr
theorem qV {c : Operand} {x y : Code} {b : Bool} (hc : s.ev C.E c = .d (.imm (.bool b))) (ht : b = true → go C (.code x :: r) s Q) (hf : b = false → go C (.code y :: r) s Q) :
    go C (.code (.cond c x y) :: r) s Q := by
  intro a w hr
  have hev : a.eval c = .bool b := by
    obtain ⟨F, σ, _, _, _, hi, _, _, hs⟩ := hr
    have := ev_rd (E := C.E) (s := s) hi hs c
    rw [hc] at this
    exact this.imm_inv.1
  exact wp_cond_split hev (fun h => ht h a w hr) (fun h => hf h a w hr)
theorem qT {c : Operand} {x y : Code} {b : Bool} (hc : s.ev C.E c = .d (.imm (.bool b))) (hb : b = true) (ht : go C (.code x :: r) s Q) : go C (.code (.cond c x y) :: r) s Q :=
  qV hc (fun _ => ht) (fun h => by rw [hb] at h; cases h)
theorem qU {c : Operand} {x y : Code} {b : Bool} (hc : s.ev C.E c = .d (.imm (.bool b))) (hb : b = false) (hf : go C (.code y :: r) s Q) : go C (.code (.cond c x y) :: r) s Q :=
  qV hc (fun h => by rw [hb] at h; cases h) (fun _ => hf)
/-- A loop: a family of states, one for each round, and a measure that every round lowers. -/
theorem go_loop_ {α : Type} {c : Code} (S : α → St) (m : α → Nat) (x0 : α) (h0 : Le C s (S x0))
    (hr : ∀ x, go C (.code c :: .stop (fun s' => ∃ y, m y < m x ∧ Le C s' (S y)) :: r) (S x) Q) : go C (.code (.loop c) :: r) s Q := by
  intro a w hrel
  refine wp_loop_ghost (fun n a w => ∃ x, m x = n ∧ C.Rel (S x) a w) (m x0) ⟨x0, rfl, h0 a w hrel⟩ ?_
  intro n a w ⟨x, hx, hrx⟩
  refine wp_mono (hr x a w hrx) ?_
  intro e a' w' ⟨s', hs, hq⟩
  cases e with
  | normal =>
    obtain ⟨y, hy, hle⟩ := hq
    exact ⟨m y, hx ▸ hy, y, rfl, hle a' w' hs⟩
  | _ => exact ⟨s', hs, hq⟩
end

/-! ## Weakening: what is not listed is forgotten -/
def X.below (n : Nat) : X → Bool
  | .ptr o _ => Nat.blt o n
  | .own o => Nat.blt o n
  | .pel o _ _ _ => Nat.blt o n
  | .clo _ cs => cs.all fun c => match c with | .ptr o _ => Nat.blt o n | .d _ => true
  | _ => true
def AObj.below (n : Nat) : AObj → Bool
  | .var _ c => c.cells.all (X.below n)
  | _ => true

theorem RdX.take {w : World} {F : Nat → Prop} {σ : Sg} {x : X} {v : Value} {n : Nat} (h : RdX w F σ x v) (hx : x.below n = true) : RdX w F (σ.take n) x v := by
  have key : ∀ (o : Nat) p, σ[o]? = some p → Nat.blt o n = true → (σ.take n)[o]? = some p := fun o p ho hb => by
    rw [List.getElem?_take, if_pos (by simpa using hb)]; exact ho
  cases x with
  | ptr o off => obtain ⟨b, c, k, h1, h2⟩ := h; exact ⟨b, c, k, key _ _ h1 hx, h2⟩
  | own o => obtain ⟨b, c, k, h1, h2⟩ := h; exact ⟨b, c, k, key _ _ h1 hx, h2⟩
  | pel o i off size => obtain ⟨b, c, k, h1, h2⟩ := h; exact ⟨b, c, k, key _ _ h1 hx, h2⟩
  | clo f cs =>
    obtain ⟨us, e, hl, hr⟩ := h
    refine ⟨us, e, hl, fun i c u h1 h2 => ?_⟩
    have hc := List.all_eq_true.1 hx c (List.mem_of_getElem? h1)
    have := hr i c u h1 h2
    cases c with
    | d x => exact this
    | ptr o off => obtain ⟨b, c, k, h1, h2⟩ := this; exact ⟨b, c, k, key _ _ h1 hc, h2⟩
  | _ => exact h

theorem ObOK.take {w : World} {F : Nat → Prop} {σ : Sg} {B : Nat → Prop} {n : Nat} {x : AObj} {p : Nat × Nat × Nat} (h : ObOK w F σ B x p) (hx : x.below n = true) : ObOK w F (σ.take n) B x p := by
  obtain ⟨b, c, k⟩ := p
  cases x with
  | var ty cs =>
    obtain ⟨vs, h1, h2, h3, h4, h5⟩ := h
    refine ⟨vs, h1, h2, h3, fun i x v a e => (h4 i x v a e).take ?_, h5⟩
    exact List.all_eq_true.1 hx x (List.mem_of_getElem? a)
  | row e size xs => exact h
  | mrow e size xs => exact h
  | dead => trivial

theorem Le.of {C : Cx} {s s' : St} (n : Nat) (hn : Nat.ble C.base.n0 n = true) (hob : s'.ob = s.ob.take n) (ht : ∀ p ∈ s'.tm, lk s.tm p.1 = p.2 ∧ p.2.below n = true) (ho : ∀ x ∈ s'.ob, x.below n = true) : Le C s s' := by
  rintro a w ⟨F, σ, h1, h2, h3, hi, h4, h5, hs⟩
  have hlook : ∀ (l : List (Nat × X)) (t : Nat), (∀ p ∈ l, lk s.tm p.1 = p.2 ∧ p.2.below n = true) → (lk l t = lk s.tm t ∧ (lk l t).below n = true) ∨ lk l t = .top := by
    intro l t
    induction l with
    | nil => intro _; exact .inr rfl
    | cons p l ih =>
      intro hp
      obtain ⟨k, x⟩ := p
      simp only [lk]
      cases hb : Nat.beq k t with
      | true =>
        obtain rfl := Nat.eq_of_beq_eq_true hb
        obtain ⟨e1, e2⟩ := hp (k, x) (by simp)
        exact .inl ⟨e1.symm, e2⟩
      | false => exact ih fun p hm => hp p (by simp [hm])
  refine ⟨F, σ.take n, h1, h2, h3, ⟨hi.flt, hi.glob, by simp [hob, hi.len], ?_, ?_, fun i p hp hq => by rw [List.getElem?_take, if_pos (Nat.lt_of_lt_of_le hp (Nat.le_of_ble_eq_true hn))]; exact hi.pre i p hp hq⟩, h4, h5, fun t => ?_⟩
  · intro o x p hx hp
    rw [hob] at hx
    have hx' := hx
    rw [List.getElem?_take] at hx' hp
    split at hx'
    · rename_i hlt
      rw [if_pos hlt] at hp
      exact (hi.obs o x p hx' hp).take (ho x (by rw [hob]; exact List.mem_of_getElem? hx))
    · cases hx'
  · intro o o' x x' p p' hne hx hl hx' hl' hp hp'
    rw [hob] at hx hx'
    rw [List.getElem?_take] at hx hx' hp hp'
    split at hx
    · split at hx'
      · rename_i ha hb
        rw [if_pos ha] at hp
        rw [if_pos hb] at hp'
        exact hi.inj o o' x x' p p' hne hx hl hx' hl' hp hp'
      · cases hx'
    · cases hx
  · rcases hlook s'.tm t ht with ⟨e, hb⟩ | e
    · rw [e]; exact (hs t).take (e ▸ hb)
    · rw [e]; trivial

/-! ## Operations -/
def dstOK (C : Cx) (o : Oper) : Bool :=
  match o.dst with
  | some d => Nat.blt d C.N
  | none => true
theorem dstOK_lt {C : Cx} {o : Oper} (h : dstOK C o = true) : ∀ d, o.dst = some d → d < C.N := by
  intro d hd
  simpa [dstOK, hd] using h

/-- An operation that yields a value, whatever its place in the region's order. -/
def VOp (C : Cx) (s : St) (o : Oper) (x : X) : Prop :=
  ∀ (F : Nat → Prop) (σ : Sg) (w : World) (a : Act) (K : Act → World → Prop) (Q : Exit → Act → World → Prop), WInv C.E C.base F σ s.ob w →
    (∀ y ∈ o.op.operands.toList, RdX w F σ (s.ev C.E y) (a.eval y)) →
    (∀ v w' F', Ext w F w' F' → RdX w' F' σ x v → K (a.put o.dst v) w') → o.wp C.E.P a w K Q
/-- An operation that turns the state. -/
def SOp (C : Cx) (s : St) (o : Oper) (s' : St) : Prop :=
  ∀ (w : World) (a : Act) (K : Act → World → Prop) (Q : Exit → Act → World → Prop), C.Rel s a w → (∀ a' w', C.Rel s' a' w' → K a' w') → o.wp C.E.P a w K Q

theorem St.put_ob (s : St) (d : Option Tmp) (x : X) : (s.put d x).ob = s.ob := by cases d <;> rfl
theorem Act.put_size (a : Act) (d : Option Tmp) (v : Value) : (a.put d v).tmps.size = a.tmps.size := by cases d <;> simp [Act.put]
theorem Act.put_def (a : Act) (d : Option Tmp) (v : Value) : (a.put d v).defers = a.defers := by cases d <;> rfl

theorem rel_put {C : Cx} {s : St} {a : Act} {w w' : World} {F F' : Nat → Prop} {σ : Sg} {o : Oper} {x : X} {v : Value}
    (h1 : Kept C.O C.w0 w) (h2 : ∀ b, C.F0 b → F b) (h3 : ∀ b, F b → C.F0 b ∨ ¬ C.O b) (hi : WInv C.E C.base F σ s.ob w)
    (h4 : a.defers = []) (h5 : a.tmps.size = C.N) (hs : ∀ t, RdX w F σ (lk s.tm t) (a.tmps.getD t undef)) (hd : dstOK C o = true)
    (he : Ext w F w' F') (hv : o.dst ≠ none → RdX w' F' σ x v) : C.Rel (s.put o.dst x) (a.put o.dst v) w' := by
  refine ⟨F', σ, h1.step he.below, fun b hb => he.more _ (h2 b hb), fun b hb => ?_, ?_, ?_, ?_, ?_⟩
  · rcases he.new b hb with h | h
    · exact h3 b h
    · exact .inr (h1.new h)
  · rw [St.put_ob]; exact hi.ext he
  · rw [Act.put_def]; exact h4
  · rw [Act.put_size]; exact h5
  · exact lk_put (N := C.N) (fun t => (hs t).ext he hi.flt) h5 (dstOK_lt hd) hv

theorem VOp.sop {C : Cx} {s : St} {o : Oper} {x : X} (h : VOp C s o x) (hd : dstOK C o = true) : SOp C s o (s.put o.dst x) := by
  rintro w a K Q ⟨F, σ, h1, h2, h3, hi, h4, h5, hs⟩ hK
  refine h F σ w a K Q hi (fun y _ => ev_rd hi hs y) fun v w' F' he hv => hK _ _ ?_
  exact rel_put h1 h2 h3 hi h4 h5 hs hd he fun _ => hv

def GuardIs (all : Array Oper) (s : St) (o : Oper) (want : Bool) : Prop :=
  match o.guard with
  | none => want = true
  | some (j, pol) => ∃ t, (all[j]?).bind (·.dst) = some t ∧ ((∃ b, lk s.tm t = .d (.imm (.bool b)) ∧ (b == pol) = want) ∨ (lk s.tm t = .und ∧ want = false))

theorem GuardIs.wanted {all : Array Oper} {s : St} {o : Oper} {want : Bool} {N : Nat} {w : World} {F : Nat → Prop} {σ : Sg} {a : Act} (h : GuardIs all s o want) (hN : ∀ (j : Nat) (p : Oper) d, all[j]? = some p → p.dst = some d → d < N)
    (ha : a.tmps.size = N) (hs : ∀ (j : Nat) pol t, o.guard = some (j, pol) → (all[j]?).bind (·.dst) = some t → RdX w F σ (lk s.tm t) (a.tmps.getD t undef)) : Region.wanted o (yielded all a.tmps) = want := by
  unfold GuardIs at h
  unfold Region.wanted
  cases hg : o.guard with
  | none => rw [hg] at h; exact h.symm
  | some jp =>
    obtain ⟨j, pol⟩ := jp
    rw [hg] at h
    obtain ⟨t, ht, h⟩ := h
    have hr := hs j pol t hg ht
    have hlt : t < a.tmps.size := by
      cases hj : all[j]? with
      | none => rw [hj] at ht; cases ht
      | some p => rw [hj] at ht; rw [ha]; exact hN j p t hj ht
    have e1 : a.tmps[t]? = some (a.tmps.getD t undef) := by simp [hlt]
    simp only [yielded, ht, Option.bind_some, e1]
    rcases h with ⟨b, hb, hw⟩ | ⟨hb, rfl⟩
    · rw [hb] at hr
      rw [hr.imm_inv.1]
      rw [← hw]
      cases b <;> cases pol <;> rfl
    · rw [hb] at hr
      rw [show a.tmps.getD t undef = undef from hr]
      simp [undef]

/-- Two states with the same slots and the same objects. -/
def StEq (s s' : St) : Prop := (∀ u, lk s'.tm u = lk s.tm u) ∧ s'.ob = s.ob
theorem StEq.refl (s : St) : StEq s s := ⟨fun _ => rfl, rfl⟩
theorem StEq.symm {s s' : St} (h : StEq s s') : StEq s' s := ⟨fun u => (h.1 u).symm, h.2.symm⟩
theorem StEq.trans {a b c : St} (h : StEq a b) (k : StEq b c) : StEq a c := ⟨fun u => (k.1 u).trans (h.1 u), k.2.trans h.2⟩
theorem StEq.put {s s' : St} (h : StEq s s') (d : Option Tmp) (x : X) : StEq (s.put d x) (s'.put d x) := by
  cases d with
  | none => exact h
  | some d =>
    refine ⟨fun u => ?_, h.2⟩
    simp only [St.put, lk]
    cases Nat.beq d u with
    | true => rfl
    | false => exact h.1 u
theorem StEq.ev {s s' : St} (h : StEq s s') (E : Env) (y : Operand) : s'.ev E y = s.ev E y := by
  cases y with
  | tmp t => exact h.1 t
  | _ => rfl
theorem StEq.rel {C : Cx} {s s' : St} (h : StEq s s') {a : Act} {w : World} (hr : C.Rel s a w) : C.Rel s' a w := by
  obtain ⟨F, σ, h1, h2, h3, hi, h4, h5, hs⟩ := hr
  exact ⟨F, σ, h1, h2, h3, by rw [h.2]; exact hi, h4, h5, fun t => by rw [h.1]; exact hs t⟩
theorem StEq.vop {C : Cx} {s s' : St} (h : StEq s s') {o : Oper} {x : X} (hv : VOp C s o x) : VOp C s' o x := by
  intro F σ w a K Q hi ho hK
  refine hv F σ w a K Q (by rw [← h.2]; exact hi) (fun y hy => ?_) hK
  rw [← h.ev]
  exact ho y hy
theorem StEq.guard {all : Array Oper} {s s' : St} (h : StEq s s') {o : Oper} {b : Bool} (hg : GuardIs all s o b) : GuardIs all s' o b := by
  unfold GuardIs at *
  cases hgd : o.guard with
  | none => rw [hgd] at hg; exact hg
  | some jp =>
    rw [hgd] at hg
    obtain ⟨t, h1, h2⟩ := hg
    exact ⟨t, h1, by rw [h.1]; exact h2⟩

inductive SD (C : Cx) (all : Array Oper) (pu : Bool) : List Oper → St → St → Prop
  | nil (s : St) : SD C all pu [] s s
  | vop {o : Oper} {rest : List Oper} {s s' : St} {x : X} (hg : GuardIs all s o true) (hd : dstOK C o = true) (hv : VOp C s o x) (h : SD C all pu rest (s.put o.dst x) s') : SD C all pu (o :: rest) s s'
  | skip {o : Oper} {rest : List Oper} {s s' : St} (hg : GuardIs all s o false) (hd : dstOK C o = true) (h : SD C all pu rest (s.put o.dst .und) s') : SD C all pu (o :: rest) s s'
  | eff {o : Oper} {rest : List Oper} {s s1 s' : St} (hp : pu = false) (hg : GuardIs all s o true) (hv : SOp C s o s1) (h : SD C all pu rest s1 s') : SD C all pu (o :: rest) s s'
  | ghost {ops : List Oper} {s s1 s' : St} (hp : pu = false) (hl : Le C s s1) (h : SD C all pu ops s1 s') : SD C all pu ops s s'
  | same {ops : List Oper} {s s1 s' : St} (hs : StEq s s1) (h : SD C all pu ops s1 s') : SD C all pu ops s s'

def dstsOK (C : Cx) (l : List Oper) : Bool := l.all (dstOK C)
theorem dstsOK_lt {C : Cx} {l : List Oper} (h : dstsOK C l = true) : ∀ (j : Nat) (p : Oper) d, l.toArray[j]? = some p → p.dst = some d → d < C.N := by
  intro j p d hj hd
  have hm : p ∈ l := by
    rw [List.getElem?_toArray] at hj
    exact List.mem_of_getElem? hj
  exact dstOK_lt (List.all_eq_true.1 h p hm) d hd

theorem SD.list {C : Cx} {all : Array Oper} {ops : List Oper} {s s' : St} {Q : Exit → Act → World → Prop} (hN : ∀ (j : Nat) (p : Oper) d, all[j]? = some p → p.dst = some d → d < C.N)
    (h : SD C all false ops s s') (hq : ∀ a w, C.Rel s' a w → Q .normal a w) : ∀ a w, C.Rel s a w → wpList C.E.P all Q ops a w := by
  have hwant : ∀ {s : St} {o : Oper} {want : Bool} {a w}, GuardIs all s o want → C.Rel s a w → Region.wanted o (yielded all a.tmps) = want := by
    rintro s o want a w hg ⟨F, σ, _, _, _, hi, _, h5, hs⟩
    exact hg.wanted hN h5 (w := w) (F := F) (σ := σ) (fun _ _ t _ _ => hs t)
  induction h with
  | nil s => exact fun a w hr => wpList_nil (hq a w hr)
  | vop hg hd hv _ ih =>
    intro a w hr
    refine wpList_step fun K hK => ?_
    rw [if_pos (hwant hg hr)]
    exact hv.sop hd w a K Q hr fun a' w' hr' => hK a' w' (ih hq a' w' hr')
  | skip hg hd _ ih =>
    intro a w hr
    refine wpList_step fun K hK => ?_
    rw [if_neg (by rw [hwant hg hr]; simp)]
    refine hK _ _ (ih hq _ _ ?_)
    obtain ⟨F, σ, h1, h2, h3, hi, h4, h5, hs⟩ := hr
    exact rel_put h1 h2 h3 hi h4 h5 hs hd (Ext.refl hi.flt) fun _ => rfl
  | eff hp hg hv _ ih =>
    intro a w hr
    refine wpList_step fun K hK => ?_
    rw [if_pos (hwant hg hr)]
    exact hv w a K Q hr fun a' w' hr' => hK a' w' (ih hq a' w' hr')
  | ghost hp hl _ ih => exact fun a w hr => ih hq a w (hl a w hr)
  | same hs _ ih => exact fun a w hr => ih hq a w (hs.rel hr)

/-- A region's goal: from s, these operations still to do; K of the state behind them. -/
def SGo (C : Cx) (all : Array Oper) (pu : Bool) (ops : List Oper) (s : St) (K : St → Prop) : Prop := ∃ s', SD C all pu ops s s' ∧ K s'

section
variable {C : Cx} {r : List It} {s : St} {Q : Exit → St → Prop} {all : Array Oper} {pu : Bool} {K : St → Prop} {rest : List Oper} {o : Oper}
theorem SGo.nil (h : K s) : SGo C all pu [] s K := ⟨s, .nil s, h⟩
theorem qD (h : K s) : SGo C all pu [] s K := ⟨s, .nil s, h⟩
theorem SGo.vop {x : X} (hg : GuardIs all s o true) (hd : dstOK C o = true) (hv : VOp C s o x) (h : SGo C all pu rest (s.put o.dst x) K) : SGo C all pu (o :: rest) s K :=
  let ⟨s', h1, h2⟩ := h; ⟨s', .vop hg hd hv h1, h2⟩
theorem SGo.skip (hg : GuardIs all s o false) (hd : dstOK C o = true) (h : SGo C all pu rest (s.put o.dst .und) K) : SGo C all pu (o :: rest) s K :=
  let ⟨s', h1, h2⟩ := h; ⟨s', .skip hg hd h1, h2⟩
theorem SGo.eff {s1 : St} (hg : GuardIs all s o true) (hv : SOp C s o s1) (h : SGo C all false rest s1 K) : SGo C all false (o :: rest) s K :=
  let ⟨s', h1, h2⟩ := h; ⟨s', .eff rfl hg hv h1, h2⟩
theorem SGo.ghost {s1 : St} {ops : List Oper} (hl : Le C s s1) (h : SGo C all false ops s1 K) : SGo C all false ops s K :=
  let ⟨s', h1, h2⟩ := h; ⟨s', .ghost rfl hl h1, h2⟩
theorem SGo.same {s1 : St} {ops : List Oper} (hl : StEq s s1) (h : SGo C all pu ops s1 K) : SGo C all pu ops s K :=
  let ⟨s', h1, h2⟩ := h; ⟨s', .same hl h1, h2⟩
theorem qB {id : Nat} {l : List Oper} (hd : dstsOK C l = true) (h : SGo C l.toArray false l s (fun s' => go C r s' Q)) : go C (.code (.region id l.toArray false) :: r) s Q := by
  intro a w hr
  obtain ⟨s', h1, h2⟩ := h
  exact wp_region_lit (h1.list (dstsOK_lt hd) (fun a w hr => ⟨s', hr, h2⟩) a w hr)
end
end Go.Abs

/- The engine's rule for regions whose order is drawn: what is reckoned in the text's order holds in every order that the edges allow. Conditions: 'ordOK', asked of the region's text. -/
namespace Go.Abs
open Go Go.RowKit

def edgeOn (o : Oper) (j : Nat) : Bool := o.after.any fun e => Region.binds .any e && Nat.beq e.on j
/-- Each edge leads back and binds; no two operations write one slot; whoever looks at a slot that another operation writes has an edge to that one, or that one has an edge to him. -/
def ordOK (l : List Oper) : Bool :=
  (List.range l.length).all fun i => match l[i]? with
    | none => true
    | some o => (o.after.all fun e => !(Region.binds .any e) || Nat.blt e.on i) &&
      (List.range l.length).all fun j => match l[j]? with
        | none => true
        | some p => match p.dst with
          | none => true
          | some t => Nat.beq i j || ((o.dst != some t) && (!((o.looksAt l.toArray).contains t) || (if j < i then edgeOn o j else edgeOn p i)))

structure OrdOK (l : List Oper) : Prop where
  back : ∀ (i : Nat) (o : Oper) (e : Edge), l[i]? = some o → e ∈ o.after → Region.binds .any e = true → e.on < i
  uniq : ∀ (i j : Nat) (o p : Oper) t, i ≠ j → l[i]? = some o → l[j]? = some p → p.dst = some t → o.dst ≠ some t
  looks : ∀ (i j : Nat) (o p : Oper) t, i ≠ j → l[i]? = some o → l[j]? = some p → p.dst = some t → t ∈ o.looksAt l.toArray → (j < i → ∃ e ∈ o.after, Region.binds .any e = true ∧ e.on = j) ∧ (¬ j < i → ∃ e ∈ p.after, Region.binds .any e = true ∧ e.on = i)

theorem edgeOn_spec {o : Oper} {j : Nat} (h : edgeOn o j = true) : ∃ e ∈ o.after, Region.binds .any e = true ∧ e.on = j := by
  unfold edgeOn at h
  obtain ⟨i, hi, he⟩ := Array.any_eq_true.1 h
  rw [Bool.and_eq_true] at he
  exact ⟨o.after[i], Array.getElem_mem hi, he.1, Nat.eq_of_beq_eq_true he.2⟩

theorem ordOK_spec {l : List Oper} (h : ordOK l = true) : OrdOK l := by
  have hlt : ∀ (i : Nat) (o : Oper), l[i]? = some o → i ∈ List.range l.length := fun i o ho => by
    rw [List.mem_range]
    exact (List.getElem?_eq_some_iff.1 ho).1
  have hmain : ∀ (i : Nat) (o : Oper), l[i]? = some o → (o.after.all fun e => !(Region.binds .any e) || Nat.blt e.on i) = true ∧
      ∀ (j : Nat) (p : Oper) t, l[j]? = some p → p.dst = some t → Nat.beq i j = true ∨ ((o.dst != some t) = true ∧ (!((o.looksAt l.toArray).contains t) || (if j < i then edgeOn o j else edgeOn p i)) = true) := by
    intro i o ho
    have h1 := List.all_eq_true.1 h i (hlt i o ho)
    simp only [ho, Bool.and_eq_true] at h1
    refine ⟨h1.1, fun j p t hp ht => ?_⟩
    have h2 := List.all_eq_true.1 h1.2 j (hlt j p hp)
    simp only [hp, ht, Bool.or_eq_true, Bool.and_eq_true] at h2
    rcases h2 with h2 | h2
    · exact .inl h2
    · exact .inr ⟨h2.1, by simpa using h2.2⟩
  refine ⟨fun i o e ho he hbd => ?_, fun i j o p t hij ho hp ht => ?_, fun i j o p t hij ho hp ht hl => ?_⟩
  · have := (hmain i o ho).1
    obtain ⟨k, hk, rfl⟩ := Array.getElem_of_mem he
    have := Array.all_eq_true.1 this k hk
    rw [hbd] at this
    simpa using this
  · rcases (hmain i o ho).2 j p t hp ht with h1 | h1
    · exact absurd (Nat.eq_of_beq_eq_true h1) hij
    · simpa using h1.1
  · rcases (hmain i o ho).2 j p t hp ht with h1 | h1
    · exact absurd (Nat.eq_of_beq_eq_true h1) hij
    · have h2 := h1.2
      have hc : (o.looksAt l.toArray).contains t = true := by simpa using hl
      rw [hc] at h2
      simp only [Bool.not_true, Bool.false_or] at h2
      refine ⟨fun hlt => ?_, fun hlt => ?_⟩
      · rw [if_pos hlt] at h2; exact edgeOn_spec h2
      · rw [if_neg hlt] at h2; exact edgeOn_spec h2

/-- The state behind the first operations, each with what it yields (none: passed over). -/
def stps (s : St) : List (Oper × Option X) → St
  | [] => s
  | (o, x) :: r => stps (s.put o.dst (x.getD .und)) r

theorem stps_ob (s : St) (l : List (Oper × Option X)) : (stps s l).ob = s.ob := by
  induction l generalizing s with
  | nil => rfl
  | cons p r ih => obtain ⟨o, x⟩ := p; simp only [stps]; rw [ih, St.put_ob]

theorem stps_append (s : St) (l m : List (Oper × Option X)) : stps s (l ++ m) = stps (stps s l) m := by
  induction l generalizing s with
  | nil => rfl
  | cons p r ih => obtain ⟨o, x⟩ := p; exact ih _

/-- A slot that nobody writes holds what it held. -/
theorem lk_stps_other (s : St) (l : List (Oper × Option X)) (t : Nat) (h : ∀ p ∈ l, p.1.dst ≠ some t) : lk (stps s l).tm t = lk s.tm t := by
  induction l generalizing s with
  | nil => rfl
  | cons p r ih =>
    obtain ⟨o, x⟩ := p
    simp only [stps]
    rw [ih _ fun p hp => h p (by simp [hp])]
    have hne := h (o, x) (by simp)
    cases hd : o.dst with
    | none => rfl
    | some d =>
      simp only [St.put, lk]
      cases hb : Nat.beq d t with
      | true => exact absurd (by rw [hd, Nat.eq_of_beq_eq_true hb]) hne
      | false => rfl
theorem lk_put_same (s : St) (t : Nat) (x : X) : lk (s.put (some t) x).tm t = x := by
  simp [St.put, lk]
/-- A slot that one operation writes holds what that one yields. -/
theorem lk_stps_one (s : St) (l : List (Oper × Option X)) (t i : Nat) (o : Oper) (x : Option X) (hi : l[i]? = some (o, x)) (hd : o.dst = some t) (h : ∀ (j : Nat) p, j ≠ i → l[j]? = some p → p.1.dst ≠ some t) :
    lk (stps s l).tm t = x.getD .und := by
  induction l generalizing s i with
  | nil => cases hi
  | cons p r ih =>
    obtain ⟨o', x'⟩ := p
    simp only [stps]
    cases i with
    | zero =>
      simp at hi
      obtain ⟨rfl, rfl⟩ := hi
      rw [lk_stps_other _ r t ?_, hd, lk_put_same]
      intro p hp
      obtain ⟨j, hj⟩ := List.getElem?_of_mem hp
      exact h (j + 1) p (by omega) (by simpa using hj)
    | succ i =>
      exact ih _ i (by simpa using hi) fun j p hj hp => h (j + 1) p (by omega) (by simpa using hp)

theorem StEq.stps {s s' : St} (h : StEq s s') (xs : List (Oper × Option X)) : StEq (stps s xs) (stps s' xs) := by
  induction xs generalizing s s' with
  | nil => exact h
  | cons p r ih => obtain ⟨o, x⟩ := p; exact ih (h.put _ _)
theorem SD.data {C : Cx} {all : Array Oper} {ops : List Oper} {s s' : St} (h : SD C all true ops s s') :
    ∃ xs : List (Oper × Option X), xs.map (·.1) = ops ∧ StEq (stps s xs) s' ∧ ∀ (i : Nat) o x, xs[i]? = some (o, x) → dstOK C o = true ∧ GuardIs all (stps s (xs.take i)) o x.isSome ∧ ∀ y, x = some y → VOp C (stps s (xs.take i)) o y := by
  have key : ∀ pu, SD C all pu ops s s' → pu = true → ∃ xs : List (Oper × Option X), xs.map (·.1) = ops ∧ StEq (stps s xs) s' ∧ ∀ (i : Nat) o x, xs[i]? = some (o, x) → dstOK C o = true ∧ GuardIs all (stps s (xs.take i)) o x.isSome ∧ ∀ y, x = some y → VOp C (stps s (xs.take i)) o y := by
    intro pu h hpu
    induction h with
    | nil s => exact ⟨[], rfl, StEq.refl _, fun i o x h => by simp at h⟩
    | @vop o rest s s' x hg hd hv hh ih =>
      obtain ⟨xs, h1, h2, h3⟩ := ih (hpu ▸ hh)
      refine ⟨(o, some x) :: xs, by simp [h1], h2, fun i o' x' hi => ?_⟩
      cases i with
      | zero =>
        simp at hi
        obtain ⟨rfl, rfl⟩ := hi
        exact ⟨hd, hg, fun y hy => by cases hy; exact hv⟩
      | succ i => exact h3 i o' x' (by simpa using hi)
    | @skip o rest s s' hg hd hh ih =>
      obtain ⟨xs, h1, h2, h3⟩ := ih (hpu ▸ hh)
      refine ⟨(o, none) :: xs, by simp [h1], h2, fun i o' x' hi => ?_⟩
      cases i with
      | zero =>
        simp at hi
        obtain ⟨rfl, rfl⟩ := hi
        exact ⟨hd, hg, fun y hy => by cases hy⟩
      | succ i => exact h3 i o' x' (by simpa using hi)
    | eff hp => rw [hpu] at hp; cases hp
    | ghost hp => rw [hpu] at hp; cases hp
    | same hs hh ih =>
      obtain ⟨xs, h1, h2, h3⟩ := ih (hpu ▸ hh)
      refine ⟨xs, h1, (hs.stps xs).trans h2, fun i o x hi => ?_⟩
      obtain ⟨a1, a2, a3⟩ := h3 i o x hi
      have hss := (hs.stps (xs.take i)).symm
      exact ⟨a1, hss.guard a2, fun y hy => hss.vop (a3 y hy)⟩
  exact key true h rfl

/-- How many places are not yet listed. -/
def unl (n : Nat) (L : Array Bool) : Nat := ((List.range n).filter fun i => !L.getD i true).length
theorem unl_set {n i : Nat} {L : Array Bool} (hn : L.size = n) (hi : i < n) (h : L.getD i true = false) : unl n (L.setIfInBounds i true) < unl n L := by
  unfold unl
  have hsub : ∀ j, (!(L.setIfInBounds i true).getD j true) = (!L.getD j true && j != i) := by
    intro j
    by_cases hj : j = i
    · subst hj; simp [hn, hi]
    · have : L.setIfInBounds i true = L.setIfInBounds i true := rfl
      simp only [Array.getD_eq_getD_getElem?]
      rw [Array.getElem?_setIfInBounds_ne (fun e => hj e.symm)]
      simp [hj]
  simp only [hsub]
  have hmem : i ∈ (List.range n).filter fun i => !L.getD i true := by
    rw [List.mem_filter]
    exact ⟨List.mem_range.2 hi, by rw [h]; rfl⟩
  have e : (List.range n).filter (fun j => !L.getD j true && j != i) = ((List.range n).filter fun i => !L.getD i true).filter (fun j => j != i) := by
    rw [List.filter_filter]
    congr 1
    funext j
    rw [Bool.and_comm]
  rw [e]
  have hle : ∀ l : List Nat, i ∈ l → (l.filter fun j => j != i).length < l.length := by
    intro l
    induction l with
    | nil => intro h; cases h
    | cons a r ih =>
      intro hm
      by_cases ha : a = i
      · subst ha
        simp
        exact Nat.lt_succ_of_le (List.length_filter_le _ _)
      · have : i ∈ r := by
          rcases List.mem_cons.1 hm with h | h
          · exact absurd h.symm ha
          · exact h
        have := ih this
        simp [ha]
        omega
  exact hle _ hmem
theorem unl_zero {n : Nat} {L : Array Bool} (h : unl n L = 0) : ∀ i, i < n → L.getD i true = true := by
  intro i hi
  unfold unl at h
  have := List.eq_nil_of_length_eq_zero h
  rw [List.filter_eq_nil_iff] at this
  simpa using this i (List.mem_range.2 hi)

structure Ords (C : Cx) (s : St) (xs : List (Oper × Option X)) (ops : List Oper) (L : Array Bool) (a : Act) (w : World) : Prop where
  size : L.size = ops.length
  down : ∀ (i : Nat) (o : Oper) (e : Edge), ops[i]? = some o → L.getD i false = true → e ∈ o.after → Region.binds .any e = true → L.getD e.on false = true
  rel : ∃ F σ, Kept C.O C.w0 w ∧ (∀ b, C.F0 b → F b) ∧ (∀ b, F b → C.F0 b ∨ ¬ C.O b) ∧ WInv C.E C.base F σ s.ob w ∧ a.defers = [] ∧ a.tmps.size = C.N ∧
    (∀ t, (∀ (j : Nat) o, ops[j]? = some o → L.getD j false = true → o.dst ≠ some t) → RdX w F σ (lk s.tm t) (a.tmps.getD t undef)) ∧
    (∀ (j : Nat) o x t, xs[j]? = some (o, x) → L.getD j false = true → o.dst = some t → RdX w F σ (x.getD .und) (a.tmps.getD t undef))

theorem getD_set_true {L : Array Bool} {i j : Nat} (hi : i < L.size) : (L.setIfInBounds i true).getD j false = (L.getD j false || j == i) := by
  by_cases hj : j = i
  · subst hj; simp [hi]
  · simp only [Array.getD_eq_getD_getElem?]
    rw [Array.getElem?_setIfInBounds_ne (fun e => hj e.symm)]
    simp [hj]
theorem getD_tf {L : Array Bool} {i : Nat} (hi : i < L.size) : L.getD i true = L.getD i false := by simp [hi]

theorem Ords.all {C : Cx} {s : St} {xs : List (Oper × Option X)} {ops : List Oper} (hx : xs.map (·.1) = ops) (ho : OrdOK ops)
    (hv : ∀ (i : Nat) o x, xs[i]? = some (o, x) → dstOK C o = true ∧ GuardIs ops.toArray (stps s (xs.take i)) o x.isSome ∧ ∀ y, x = some y → VOp C (stps s (xs.take i)) o y)
    {Q : Exit → Act → World → Prop} (hq : ∀ a w, C.Rel (stps s xs) a w → Q .normal a w) :
    ∀ (fuel : Nat) (L : Array Bool) (a : Act) (w : World), unl ops.length L ≤ fuel → Ords C s xs ops L a w → wpAny C.E.P .any ops.toArray Q fuel L a w := by
  have hxo : ∀ (i : Nat) o, ops[i]? = some o → ∃ x, xs[i]? = some (o, x) := by
    intro i o hi
    rw [← hx, List.getElem?_map] at hi
    cases hxi : xs[i]? with
    | none => rw [hxi] at hi; cases hi
    | some p => rw [hxi] at hi; simp at hi; exact ⟨p.2, by rw [← hi]⟩
  have hox : ∀ (i : Nat) o x, xs[i]? = some (o, x) → ops[i]? = some o := by
    intro i o x hi
    rw [← hx, List.getElem?_map, hi]; rfl
  have hlen : xs.length = ops.length := by rw [← hx]; simp
  have hdst : ∀ (j : Nat) (p : Oper) d, ops.toArray[j]? = some p → p.dst = some d → d < C.N := by
    intro j p d hj hd
    rw [List.getElem?_toArray] at hj
    obtain ⟨x, hx'⟩ := hxo j p hj
    exact dstOK_lt (hv j p x hx').1 d hd
  -- what the state behind the first ones says of a slot
  have hlook : ∀ (i : Nat) (o : Oper) (x : Option X) (L : Array Bool) (a : Act) (w : World) (F : Nat → Prop) (σ : Sg), xs[i]? = some (o, x) → L.getD i false = false →
      (∀ (j : Nat) (o : Oper) (e : Edge), ops[j]? = some o → L.getD j false = true → e ∈ o.after → Region.binds .any e = true → L.getD e.on false = true) →
      (∀ e ∈ o.after, Region.binds .any e = true → L.getD e.on false = true) →
      (∀ t, (∀ (j : Nat) o, ops[j]? = some o → L.getD j false = true → o.dst ≠ some t) → RdX w F σ (lk s.tm t) (a.tmps.getD t undef)) →
      (∀ (j : Nat) o x t, xs[j]? = some (o, x) → L.getD j false = true → o.dst = some t → RdX w F σ (x.getD .und) (a.tmps.getD t undef)) →
      ∀ t ∈ o.looksAt ops.toArray, RdX w F σ (lk (stps s (xs.take i)).tm t) (a.tmps.getD t undef) := by
    intro i o x L a w F σ hi hL hdown hready h1 h2 t ht
    by_cases hw : ∃ (j : Nat) (p : Oper), ops[j]? = some p ∧ p.dst = some t
    · obtain ⟨j, p, hj, hp⟩ := hw
      obtain ⟨y, hy⟩ := hxo j p hj
      have huniq : ∀ (k : Nat) (q : Oper), k ≠ j → ops[k]? = some q → q.dst ≠ some t := fun k q hk hq => ho.uniq k j q p t hk hq hj hp
      by_cases hij : i = j
      · subst hij
        have e : lk (stps s (xs.take i)).tm t = lk s.tm t := by
          refine lk_stps_other _ _ _ fun q hq => ?_
          obtain ⟨k, hk⟩ := List.getElem?_of_mem hq
          rw [List.getElem?_take] at hk
          split at hk
          · exact huniq k q.1 (by omega) (hox k q.1 q.2 hk)
          · cases hk
        rw [e]
        refine h1 t fun k q hk hkl => ?_
        by_cases hki : k = i
        · subst hki; rw [hL] at hkl; cases hkl
        · exact huniq k q hki hk
      · obtain ⟨ha, hb⟩ := ho.looks i j o p t hij (hox i o x hi) hj hp ht
        by_cases hlt : j < i
        · obtain ⟨e, he, hbd, hej⟩ := ha hlt
          have hjl : L.getD j false = true := by rw [← hej]; exact hready e he hbd
          have e1 : lk (stps s (xs.take i)).tm t = y.getD .und := by
            refine lk_stps_one _ _ t j p y (by rw [List.getElem?_take, if_pos hlt]; exact hy) hp fun k q hk hq => ?_
            rw [List.getElem?_take] at hq
            split at hq
            · exact huniq k q.1 hk (hox k q.1 q.2 hq)
            · cases hq
          rw [e1]
          exact h2 j p y t hy hjl hp
        · obtain ⟨e, he, hbd, hei⟩ := hb hlt
          have hjl : L.getD j false = false := by
            cases hjl : L.getD j false with
            | false => rfl
            | true =>
              have := hdown j p e hj hjl he hbd
              rw [hei, hL] at this
              cases this
          have e1 : lk (stps s (xs.take i)).tm t = lk s.tm t := by
            refine lk_stps_other _ _ _ fun q hq => ?_
            obtain ⟨k, hk⟩ := List.getElem?_of_mem hq
            rw [List.getElem?_take] at hk
            split at hk
            · exact huniq k q.1 (by omega) (hox k q.1 q.2 hk)
            · cases hk
          rw [e1]
          refine h1 t fun k q hk hkl => ?_
          by_cases hkj : k = j
          · subst hkj; rw [hjl] at hkl; cases hkl
          · exact huniq k q hkj hk
    · have hno : ∀ (k : Nat) (q : Oper), ops[k]? = some q → q.dst ≠ some t := fun k q hk hq => hw ⟨k, q, hk, hq⟩
      have e1 : lk (stps s (xs.take i)).tm t = lk s.tm t := by
        refine lk_stps_other _ _ _ fun q hq => ?_
        obtain ⟨k, hk⟩ := List.getElem?_of_mem hq
        rw [List.getElem?_take] at hk
        split at hk
        · exact hno k q.1 (hox k q.1 q.2 hk)
        · cases hk
      rw [e1]
      exact h1 t fun k q hk _ => hno k q hk
  -- the end
  have hfin : ∀ (L : Array Bool) (a : Act) (w : World), (∀ i, i < ops.length → L.getD i false = true) → Ords C s xs ops L a w → Q .normal a w := by
    intro L a w hall hO
    obtain ⟨F, σ, r1, r2, r3, hi, r4, r5, h1, h2⟩ := hO.rel
    refine hq a w ⟨F, σ, r1, r2, r3, by rw [stps_ob]; exact hi, r4, r5, fun t => ?_⟩
    by_cases hw : ∃ (j : Nat) (p : Oper), ops[j]? = some p ∧ p.dst = some t
    · obtain ⟨j, p, hj, hp⟩ := hw
      obtain ⟨y, hy⟩ := hxo j p hj
      rw [lk_stps_one s xs t j p y hy hp fun k q hk hq => ho.uniq k j q.1 p t hk (hox k q.1 q.2 hq) hj hp]
      exact h2 j p y t hy (hall j (List.getElem?_eq_some_iff.1 hj).1) hp
    · have hno : ∀ (k : Nat) (q : Oper), ops[k]? = some q → q.dst ≠ some t := fun k q hk hq => hw ⟨k, q, hk, hq⟩
      rw [lk_stps_other s xs t fun q hq => by
        obtain ⟨k, hk⟩ := List.getElem?_of_mem hq
        exact hno k q.1 (hox k q.1 q.2 hk)]
      exact h1 t fun k q hk _ => hno k q hk
  -- whoever is ready
  have hready : ∀ (L : Array Bool) i, i ∈ Region.ready .any ops.toArray L → L.size = ops.length → ∃ o, ops[i]? = some o ∧ L.getD i false = false ∧ ∀ e ∈ o.after, Region.binds .any e = true → L.getD e.on false = true := by
    intro L i hi hs
    unfold Region.ready at hi
    rw [List.mem_filter, List.mem_range] at hi
    obtain ⟨hlt, h⟩ := hi
    rw [List.size_toArray] at hlt
    rw [Bool.and_eq_true] at h
    obtain ⟨h1, h2⟩ := h
    have ho' : ops[i]? = some ops[i] := List.getElem?_eq_getElem hlt
    refine ⟨ops[i], ho', ?_, ?_⟩
    · rw [← getD_tf (by omega)]; simpa using h1
    · intro e he hbd
      rw [List.getElem?_toArray, ho'] at h2
      simp only [Option.map_some, Option.getD_some] at h2
      obtain ⟨k, hk, rfl⟩ := Array.getElem_of_mem he
      have := Array.all_eq_true.1 h2 k hk
      rw [hbd] at this
      simpa using this
  have hsome : ∀ (L : Array Bool) (a : Act) (w : World), Ords C s xs ops L a w → Region.ready .any ops.toArray L = [] → ∀ i, i < ops.length → L.getD i false = true := by
    intro L a w hO hr i
    induction i using Nat.strongRecOn with
    | _ i ih =>
      intro hi
      cases hL : L.getD i false with
      | true => rfl
      | false =>
        have ho' : ops[i]? = some ops[i] := List.getElem?_eq_getElem hi
        have hm : i ∈ Region.ready .any ops.toArray L := by
          unfold Region.ready
          rw [List.mem_filter, List.mem_range, List.size_toArray]
          refine ⟨hi, ?_⟩
          rw [getD_tf (by rw [hO.size]; exact hi), hL, List.getElem?_toArray, ho']
          simp only [Bool.not_false, Bool.true_and, Option.map_some, Option.getD_some]
          refine Array.all_eq_true.2 fun k hk => ?_
          cases hbd : Region.binds .any (ops[i]).after[k] with
          | false => simp
          | true =>
            have hb := ho.back i _ _ ho' (Array.getElem_mem hk) hbd
            rw [ih _ hb (by omega)]
            simp
        rw [hr] at hm
        cases hm
  intro fuel
  induction fuel with
  | zero =>
    intro L a w hu hO
    have hall : ∀ i, i < ops.length → L.getD i false = true := fun i hi => by
      rw [← getD_tf (by rw [hO.size]; exact hi)]
      exact unl_zero (by omega) i hi
    refine ⟨?_, hfin L a w hall hO⟩
    refine List.eq_nil_iff_forall_not_mem.2 fun i hi => ?_
    obtain ⟨o, h1, h2, _⟩ := hready L i hi hO.size
    rw [hall i (List.getElem?_eq_some_iff.1 h1).1] at h2
    cases h2
  | succ fuel ih =>
    intro L a w hu hO
    refine ⟨fun hr => hfin L a w (hsome L a w hO hr) hO, fun i hi => ?_⟩
    obtain ⟨o, hoi, hL, hed⟩ := hready L i hi hO.size
    have hlt : i < ops.length := (List.getElem?_eq_some_iff.1 hoi).1
    obtain ⟨x, hxi⟩ := hxo i o hoi
    obtain ⟨hd, hg, hvop⟩ := hv i o x hxi
    obtain ⟨F, σ, r1, r2, r3, hinv, r4, r5, h1, h2⟩ := hO.rel
    have hl := hlook i o x L a w F σ hxi hL hO.down hed h1 h2
    have hu' : unl ops.length (L.setIfInBounds i true) ≤ fuel := by
      have := unl_set (L := L) hO.size hlt (by rw [getD_tf (by rw [hO.size]; exact hlt)]; exact hL)
      omega
    have hwant : Region.wanted o (yielded ops.toArray a.tmps) = x.isSome := by
      refine hg.wanted (N := C.N) hdst r5 (w := w) (F := F) (σ := σ) fun j pol t hgj ht => hl t ?_
      unfold Oper.looksAt
      refine List.mem_append.2 (.inr ?_)
      rw [hgj]
      show t ∈ ((ops.toArray[j]?).bind (·.dst)).toList
      rw [ht]
      simp
    -- the step
    have hstep : ∀ v w' F', Ext w F w' F' → (o.dst ≠ none → RdX w' F' σ (x.getD .und) v) → Ords C s xs ops (L.setIfInBounds i true) (a.put o.dst v) w' := by
      intro v w' F' he hvv
      have hset : ∀ j, (L.setIfInBounds i true).getD j false = (L.getD j false || j == i) := fun j => getD_set_true (by rw [hO.size]; exact hlt)
      have hother : ∀ t, o.dst ≠ some t → (a.put o.dst v).tmps.getD t undef = a.tmps.getD t undef := by
        intro t ht
        cases hdd : o.dst with
        | none => rfl
        | some d =>
          simp only [Act.put, Array.getD_eq_getD_getElem?]
          rw [Array.getElem?_setIfInBounds_ne (fun e => ht (by rw [hdd, e]))]
      refine ⟨by simp [hO.size], fun j p e hj hjl hee hbd => ?_, F', σ, r1.step he.below, fun b hb => he.more _ (r2 b hb), fun b hb => ?_, hinv.ext he, by rw [Act.put_def]; exact r4, by rw [Act.put_size]; exact r5, fun t ht => ?_, fun j p y t hj hjl hp => ?_⟩
      · rw [hset] at hjl ⊢
        rw [Bool.or_eq_true] at hjl ⊢
        rcases hjl with hjl | hjl
        · exact .inl (hO.down j p e hj hjl hee hbd)
        · obtain rfl : j = i := by simpa using hjl
          rw [hoi] at hj
          cases hj
          exact .inl (hed e hee hbd)
      · rcases he.new b hb with h | h
        · exact r3 b h
        · exact .inr (r1.new h)
      · have hit : o.dst ≠ some t := ht i o hoi (by rw [hset]; simp)
        rw [hother t hit]
        exact (h1 t fun j q hj hjl => ht j q hj (by rw [hset, hjl]; rfl)).ext he hinv.flt
      · rw [hset, Bool.or_eq_true] at hjl
        by_cases hji : j = i
        · subst hji
          rw [hxi] at hj
          cases hj
          have hlt' := dstOK_lt hd t hp
          rw [hp]
          simp only [Act.put]
          have : (a.tmps.setIfInBounds t v).getD t undef = v := by simp [r5, hlt']
          rw [this]
          exact hvv (by rw [hp]; simp)
        · have hjl' : L.getD j false = true := by
            rcases hjl with h | h
            · exact h
            · exact absurd (by simpa using h) hji
          rw [hother t (ho.uniq i j o p t (fun e => hji e.symm) hoi (hox j p y hj) hp)]
          exact (h2 j p y t hj hjl' hp).ext he hinv.flt
    unfold wpOp
    rw [List.getElem?_toArray, hoi]
    simp only
    cases hx' : x with
    | none =>
      rw [hx'] at hwant
      rw [if_neg (by rw [hwant]; simp)]
      refine ih _ _ _ hu' (hstep undef w F (Ext.refl hinv.flt) fun _ => ?_)
      rw [hx']; rfl
    | some y =>
      rw [hx'] at hwant
      rw [if_pos (by rw [hwant]; rfl)]
      refine .inl (hvop y hx' F σ w a _ Q (by rw [stps_ob]; exact hinv) (fun z hz => ?_) fun v w' F' he hvv => ih _ _ _ hu' (hstep v w' F' he fun _ => by rw [hx']; exact hvv))
      cases z with
      | tmp t =>
        refine hl t ?_
        unfold Oper.looksAt
        refine List.mem_append.2 (.inl ?_)
        rw [List.mem_filterMap]
        exact ⟨_, hz, rfl⟩
      | const v => exact ofConst_rd v
      | global g => exact findG_rd hinv.glob.1 g
      | func f => exact Rd.imm _ rfl

section
variable {C : Cx} {r : List It} {s : St} {Q : Exit → St → Prop}
theorem qC {id : Nat} {l : List Oper} (ho : ordOK l = true) (h : SGo C l.toArray true l s (fun s' => go C r s' Q)) : go C (.code (.region id l.toArray true) :: r) s Q := by
  intro a w hr
  obtain ⟨s', h1, h2⟩ := h
  obtain ⟨xs, hx, heq, hv⟩ := h1.data
  refine wp_region_any C.E.hM ?_
  obtain ⟨F, σ, r1, r2, r3, hi, r4, r5, hs⟩ := hr
  have hext : Ext w F { w with drawn := w.drawn + 1 } F := ⟨⟨rfl, rfl, rfl, Nat.le_refl _, fun _ _ => rfl⟩, fun _ h => h, fun _ h => .inl h, hi.flt⟩
  refine Ords.all hx (ordOK_spec ho) hv (fun a w hr => ⟨_, heq.rel hr, h2⟩) _ _ _ _ ?_ ⟨by simp, fun i o e ho' hL => ?_, F, σ, r1.step hext.below, r2, r3, hi.ext hext, r4, r5, fun t _ => (hs t).ext hext hi.flt, fun j o x t hj hL => ?_⟩
  · refine Nat.le_trans (List.length_filter_le _ _) ?_
    simp
  · exfalso
    by_cases hlt : i < l.length <;> simp [hlt] at hL
  · exfalso
    by_cases hlt : j < l.length <;> simp [hlt] at hL
end
end Go.Abs

/- The engine's operations that yield a value: what each yields, reckoned by a plain function, and that it is so. Conditions: each operation's own ('p'), which the walk pays where it meets it. -/
namespace Go.Abs
open Go Go.RowKit

theorem VOp.pure_ {C : Cx} {s : St} {o : Oper} {x : X} (h : ∀ F σ w (a : Act), WInv C.E C.base F σ s.ob w → (∀ y ∈ o.op.operands.toList, RdX w F σ (s.ev C.E y) (a.eval y)) →
    ∃ v, (execOp a.eval o).run C.E.P w = .ok (.value v) w ∧ RdX w F σ x v) : VOp C s o x := by
  intro F σ w a K Q hi ho hK
  obtain ⟨v, hr, hv⟩ := h F σ w a hi ho
  unfold Oper.wp
  rw [hr]
  exact hK v w F (Ext.refl hi.flt) hv

abbrev VR := Option (Prop × X)
def fw : X → VR
  | .d y => some (True, .d y)
  | .nilS => some (True, .nilS)
  | .tup l => some (True, .tup l)
  | .ptr o k => some (True, .ptr o k)
  | .at_ x k => some (True, .at_ x k)
  | .own o => some (True, .own o)
  | .pel o i k z => some (True, .pel o i k z)
  | .mayb p => some (True, .mayb p)
  | .clo f cs => some (True, .clo f cs)
  | .und => some (True, .und)
  | .top => some (True, .top)
theorem fw_eq {y x : X} {p : Prop} (h : fw y = some (p, x)) : x = y := by cases y <;> simp [fw] at h <;> exact h.2.symm

def pickX : X → X → X → VR
  | .d (.imm (.bool c)), .d (.imm (.bool x)), .d (.imm (.bool y)) => some (True, .d (.imm (.bool (bif c then x else y))))
  | .d (.imm (.bool c)), .d (.imm (.bool x)), .und => some (c = true, .d (.imm (.bool x)))
  | .d (.imm (.bool c)), .und, .d (.imm (.bool y)) => some (c = false, .d (.imm (.bool y)))
  | _, _, _ => none

def inR : IntKind → Int → Prop
  | .i8, n => -128 ≤ n ∧ n ≤ 127
  | .i16, n => -32768 ≤ n ∧ n ≤ 32767
  | .i32, n => -2147483648 ≤ n ∧ n ≤ 2147483647
  | .i64, n => -9223372036854775808 ≤ n ∧ n ≤ 9223372036854775807
  | .u8, n => 0 ≤ n ∧ n ≤ 255
  | .u16, n => 0 ≤ n ∧ n ≤ 65535
  | .u32, n => 0 ≤ n ∧ n ≤ 4294967295
  | .u64, n => 0 ≤ n ∧ n ≤ 18446744073709551615
theorem inR_ok {k : IntKind} {n : Int} (h : inR k n) : okV (.int k n) = true := by
  cases k <;> simp only [inR] at h <;> simp [okV, IntKind.min, IntKind.max, IntKind.signed, IntKind.bits] <;> omega
theorem ok_inR {k : IntKind} {n : Int} (h : okV (.int k n) = true) : inR k n := by
  cases k <;> simp [okV, IntKind.min, IntKind.max, IntKind.signed, IntKind.bits] at h <;> simp only [inR] <;> omega
theorem inR_wrap {k : IntKind} {n : Int} (h : inR k n) : k.wrap n = n := by
  cases k <;> simp only [inR] at h <;> simp only [IntKind.wrap, IntKind.signed, IntKind.bits] <;> simp <;> omega

def cmpI (op : BinOp) (a b : Int) : Option Bool :=
  match op with
  | .eql => some (a == b)
  | .neq => some (a != b)
  | .lss => some (decide (a < b))
  | .leq => some (decide (a ≤ b))
  | .gtr => some (decide (a > b))
  | .geq => some (decide (a ≥ b))
  | _ => none
def ariI (op : BinOp) (k : IntKind) (a b : Int) : VR :=
  match op with
  | .add => some (inR k (a + b), .d (.imm (.int k (a + b))))
  | .sub => some (inR k (a - b), .d (.imm (.int k (a - b))))
  | .mul => some (inR k (a * b), .d (.imm (.int k (a * b))))
  | .quo => some (b ≠ 0 ∧ inR k (a.tdiv b), .d (.imm (.int k (a.tdiv b))))
  | .rem => some (b ≠ 0 ∧ inR k (a.tmod b), .d (.imm (.int k (a.tmod b))))
  | _ => none
def strB (op : BinOp) (x y : ByteArray) : Option Bool :=
  match op with
  | .eql => some (x.toList == y.toList)
  | .neq => some (!(x.toList == y.toList))
  | .lss => some (Op.bytesLess x.toList y.toList)
  | .leq => some (Op.bytesLess x.toList y.toList || x.toList == y.toList)
  | .gtr => some (!(Op.bytesLess x.toList y.toList || x.toList == y.toList))
  | .geq => some (!(Op.bytesLess x.toList y.toList))
  | _ => none
def isBoolT (E : Env) (t : TypeId) : Bool := match findT E.T t with | some e => (match e.desc with | .bool => true | _ => false) | none => false
def isSlT (E : Env) (t : TypeId) : Bool := match findT E.T t with | some e => (match e.desc with | .slice _ => true | _ => false) | none => false
def binX (E : Env) (op : BinOp) (t : TypeId) : X → X → VR
  | .d (.imm (.int k a)), .d (.imm (.int k' b)) => bif decide (k = k') then (match cmpI op a b with | some r => some (True, .d (.imm (.bool r))) | none => ariI op k a b) else none
  | .d (.imm (.string x)), .d (.imm (.string y)) => (match strB op x y with
    | some r => some (True, .d (.imm (.bool r)))
    | none => match op with
      | .add => some (x.size + y.size ≤ maxLen, .d (.imm (.string (x ++ y))))
      | _ => none)
  | .d (.imm (.bool a)), .d (.imm (.bool b)) => bif isBoolT E t then (match op with | .eql => some (True, .d (.imm (.bool (a == b)))) | .neq => some (True, .d (.imm (.bool (!(a == b))))) | _ => none) else none
  | .nilS, .nilS => bif isSlT E t then (match op with | .eql => some (True, .d (.imm (.bool true))) | .neq => some (True, .d (.imm (.bool false))) | _ => none) else none
  | .own _, .nilS => bif isSlT E t then (match op with | .eql => some (True, .d (.imm (.bool false))) | .neq => some (True, .d (.imm (.bool true))) | _ => none) else none
  | .d (.sl xs), .nilS => bif isSlT E t then (match op with | .eql => some (True, .mayb (xs = [])) | _ => none) else none
  | _, _ => none

def unX (op : UnOp) : X → VR
  | .d (.imm (.bool b)) => (match op with | .not => some (True, .d (.imm (.bool (!b)))) | _ => none)
  | .d (.imm (.int k n)) => (match op with | .neg => some (inR k (0 - n), .d (.imm (.int k (0 - n)))) | _ => none)
  | _ => none

def TE.isAgg (e : TE) : Bool := match e.desc with | .struct _ | .array _ _ => true | _ => false
def fieldOff (E : Env) (t : TypeId) (f : Nat) : Option Nat :=
  match findT E.T t with
  | some e => (match e.desc with
    | .struct fs => (match fs[f]? with
      | some fd => (match findT E.T fd.type with | some e2 => bif Nat.beq e2.size 0 then none else some fd.offset | none => none)
      | none => none)
    | _ => none)
  | none => none
def addX (k : Nat) : X → VR
  | .ptr o off => some (True, .ptr o (off + k))
  | .at_ x off => some (True, .at_ x (off + k))
  | .pel o i off z => some (True, .pel o i (off + k) z)
  | _ => none

def toDs : List X → Option (List D)
  | [] => some []
  | .d x :: r => (toDs r).map (x :: ·)
  | .nilS :: r => (toDs r).map (.sl [] :: ·)
  | _ => none
def loadX (E : Env) (ob : List AObj) (t : TypeId) (x : X) : VR :=
  match findT E.T t with
  | none => none
  | some e => match x with
    | .ptr o off => (match ob[o]? with
      | some (.var _ c) => bif e.isAgg then
          (match c, off with
           | .w (.d (.agg cs)), 0 => bif Nat.beq cs.length e.size then some (True, .d (.agg cs)) else none
           | c, off => match toDs ((c.cells.drop off).take e.size) with
             | some ds => bif Nat.beq ds.length e.size then some (True, .d (.agg ds)) else none
             | none => none)
        else (match c.cells[off]? with
          | some y => fw y
          | none => none)
      | _ => none)
    | .at_ y off => bif e.isAgg then
        (match off with
         | 0 => (match y with
           | .agg cs => bif Nat.beq cs.length e.size then some (True, .d (.agg cs)) else none
           | _ => none)
         | off => bif Nat.beq ((y.cells.drop off).take e.size).length e.size then some (True, .d (.agg ((y.cells.drop off).take e.size))) else none)
      else (match y.cells[off]? with
        | some c => some (True, .d c)
        | none => none)
    | _ => none

def byteAt (s : ByteArray) (i : Nat) : Int := ((s.data.toList.getD i 0).toNat : Int)
def isStrT (E : Env) (t : TypeId) : Bool := match findT E.T t with | some e => (match e.desc with | .string => true | _ => false) | none => false
def indexX (E : Env) (t : TypeId) : X → X → VR
  | .d (.imm (.string s)), .d (.imm (.int _ i)) => bif isStrT E t then some (0 ≤ i ∧ i < s.size, .d (.imm (.int .u8 (byteAt s i.toNat)))) else none
  | _, _ => none
def lenX (E : Env) (ob : List AObj) (t : TypeId) : X → VR
  | .d (.imm (.string s)) => bif isStrT E t then some (True, .d (.imm (.int .i64 s.size))) else none
  | .d (.sl xs) => bif isSlT E t then some (True, .d (.imm (.int .i64 xs.length))) else none
  | .nilS => bif isSlT E t then some (True, .d (.imm (.int .i64 0))) else none
  | .own o => (match ob[o]? with | some (.row _ _ xs) => bif isSlT E t then some (True, .d (.imm (.int .i64 xs.length))) else none | some (.mrow _ _ xs) => bif isSlT E t then some (True, .d (.imm (.int .i64 xs.length))) else none | _ => none)
  | _ => none
def sliceX (E : Env) (t : TypeId) (x : X) (lo hi : Option X) : VR :=
  match x with
  | .d (.imm (.string s)) => bif isStrT E t then (match lo, hi with
    | none, some (.d (.imm (.int _ h))) => some (0 ≤ h ∧ h ≤ s.size, .d (.imm (.string (s.extract 0 h.toNat))))
    | some (.d (.imm (.int _ l))), none => some (0 ≤ l ∧ l ≤ s.size, .d (.imm (.string (s.extract l.toNat s.size))))
    | some (.d (.imm (.int _ l))), some (.d (.imm (.int _ h))) => some (0 ≤ l ∧ l ≤ h ∧ h ≤ s.size, .d (.imm (.string (s.extract l.toNat h.toNat))))
    | _, _ => none) else none
  | .d (.sl xs) => bif isSlT E t then (match lo, hi with
    | none, some (.d (.imm (.int _ h))) => some (0 ≤ h ∧ h ≤ xs.length, .d (.sl (xs.take h.toNat)))
    | some (.d (.imm (.int _ l))), none => some (0 ≤ l ∧ l ≤ xs.length, .d (.sl (xs.drop l.toNat)))
    | some (.d (.imm (.int _ l))), some (.d (.imm (.int _ h))) => some (0 ≤ l ∧ l ≤ h ∧ h ≤ xs.length, .d (.sl ((xs.take h.toNat).drop l.toNat)))
    | _, _ => none) else none
  | _ => none
def minX (mx : Bool) : X → X → VR
  | .d (.imm (.int k a)), .d (.imm (.int _ b)) => some (inR k b, .d (.imm (.int k (bif mx then max a b else min a b))))
  | _, _ => none

/-- The parts of a struct that is built: each at its field's place. -/
def placeOf (E : Env) (fs : Array Field) (i : Nat) : Option (Nat × Nat) :=
  match fs[i]? with
  | some fd => (match findT E.T fd.type with | some e => some (fd.offset, e.size) | none => none)
  | none => none
def toD : X → Option D
  | .d x => some x
  | .nilS => some (.sl [])
  | _ => none
def setAll : List D → Nat → List D → List D
  | cs, _, [] => cs
  | cs, k, d :: r => setAll (cs.set k d) (k + 1) r
def fillX (E : Env) (fs : Array Field) (s : St) : List (Nat × Operand) → List D → Option (List D)
  | [], cs => some cs
  | (i, x) :: r, cs => match placeOf E fs i with
    | none => none
    | some (off, size) => match toD (s.ev E x) with
      | none => none
      | some d => bif Nat.beq d.cells.length size && Nat.ble (off + d.cells.length) cs.length then fillX E fs s r (setAll cs off d.cells) else none
def zeroDs : List Value → Option (List D)
  | [] => some []
  | v :: r => match toD (ofConst v) with
    | some d => (zeroDs r).map (d :: ·)
    | none => none
def allPlaces (E : Env) (fs : List Field) : Bool := fs.all fun fd => (findT E.T fd.type).isSome
def buildX (E : Env) (s : St) (t : TypeId) (parts : List (Nat × Operand)) : VR :=
  match findT E.T t with
  | some e => (match e.desc with
    | .struct fs => bif allPlaces E fs.toList then (match zeroDs e.zero.cells.toList with
      | some zs => (match fillX E fs s parts zs with
        | some cs => some (True, .d (.agg cs))
        | none => none)
      | none => none) else none
    | _ => none)
  | none => none
end Go.Abs

/- That each operation yields what the plain functions of the engine reckon. Conditions: each operation's own. -/
namespace Go.Abs
open Go Go.RowKit

section
variable {C : Cx} {s : St} {o : Oper} {x : X} {p : Prop}

theorem v_move {y : Operand} (ho : o.op = .move y ∨ o.op = .assign y) (h : fw (s.ev C.E y) = some (p, x)) : VOp C s o x := by
  refine VOp.pure_ fun F σ w a hi hr => ⟨a.eval y, ?_, ?_⟩
  · rcases ho with ho | ho <;> simp [execOp, ho]
  · rw [fw_eq h]
    refine hr y ?_
    rcases ho with ho | ho <;> simp [ho, Op.operands]

theorem v_pick {c a' b' : Operand} (ho : o.op = .pick c a' b') (h : pickX (s.ev C.E c) (s.ev C.E a') (s.ev C.E b') = some (p, x)) (hp : p) : VOp C s o x := by
  refine VOp.pure_ fun F σ w a hi hr => ?_
  have hc := hr c (by simp [ho, Op.operands])
  have ha := hr a' (by simp [ho, Op.operands])
  have hb := hr b' (by simp [ho, Op.operands])
  have key : ∀ (u : Bool) (v : Value), a.eval c = .bool u → (if u = true then a.eval a' else a.eval b') = v → (execOp a.eval o).run C.E.P w = .ok (.value v) w := by
    intro u v hu hv
    simp [execOp, ho, hu, asBool, hv]
  generalize s.ev C.E c = xc at *
  generalize s.ev C.E a' = xa at *
  generalize s.ev C.E b' = xb at *
  unfold pickX at h
  split at h
  · rename_i c' x' y'
    obtain ⟨rfl, rfl⟩ := Prod.mk.inj (Option.some.inj h)
    obtain ⟨e1, -⟩ := Rd.imm_inv hc
    obtain ⟨e2, -⟩ := Rd.imm_inv ha
    obtain ⟨e3, -⟩ := Rd.imm_inv hb
    refine ⟨_, key c' _ e1 rfl, ?_⟩
    rw [e2, e3]
    cases c' <;> exact Rd.imm _ rfl
  · rename_i c' x'
    obtain ⟨rfl, rfl⟩ := Prod.mk.inj (Option.some.inj h)
    obtain ⟨e1, -⟩ := Rd.imm_inv hc
    obtain ⟨e2, -⟩ := Rd.imm_inv ha
    subst hp
    refine ⟨_, key true _ e1 rfl, ?_⟩
    rw [e2]
    exact Rd.imm _ rfl
  · rename_i c' y'
    obtain ⟨rfl, rfl⟩ := Prod.mk.inj (Option.some.inj h)
    obtain ⟨e1, -⟩ := Rd.imm_inv hc
    obtain ⟨e3, -⟩ := Rd.imm_inv hb
    subst hp
    refine ⟨_, key false _ e1 rfl, ?_⟩
    rw [e3]
    exact Rd.imm _ rfl
  · cases h

theorem isBoolT_ok {E : Env} {t : TypeId} (h : isBoolT E t = true) : E.P.underlying t = some .bool := by
  unfold isBoolT at h
  split at h
  · rename_i e he
    split at h
    · rename_i hd
      obtain ⟨⟨h1, -⟩, rfl⟩ := findT_ok he
      rw [h1, hd]
    · cases h
  · cases h
theorem isStrT_ok {E : Env} {t : TypeId} (h : isStrT E t = true) : E.P.underlying t = some .string := by
  unfold isStrT at h
  split at h
  · rename_i e he
    split at h
    · rename_i hd
      obtain ⟨⟨h1, -⟩, rfl⟩ := findT_ok he
      rw [h1, hd]
    · cases h
  · cases h
theorem isSlT_ok {E : Env} {t : TypeId} (h : isSlT E t = true) : ∃ e, E.P.underlying t = some (.slice e) := by
  unfold isSlT at h
  split at h
  · rename_i e he
    split at h
    · rename_i el hd
      obtain ⟨⟨h1, -⟩, rfl⟩ := findT_ok he
      exact ⟨el, by rw [h1, hd]⟩
    · cases h
  · cases h

theorem cmpI_run {P : Program} {w : World} {op : BinOp} {t : TypeId} {k : IntKind} {a b : Int} {r : Bool} (h : cmpI op a b = some r) : (binOp op t (.int k a) (.int k b)).run P w = .ok (.bool r) w := by
  cases op <;> simp [cmpI] at h <;> subst h <;> simp [binOp, Op.intCmp]
theorem ariI_run {P : Program} {w : World} {op : BinOp} {t : TypeId} {k : IntKind} {a b : Int} {p : Prop} {x : X} (h : ariI op k a b = some (p, x)) (hp : p) :
    ∃ n, (binOp op t (.int k a) (.int k b)).run P w = .ok (.int k n) w ∧ x = .d (.imm (.int k n)) ∧ okV (.int k n) = true := by
  cases op <;> simp only [ariI] at h <;> first | (cases h; done) | (obtain ⟨rfl, rfl⟩ := Prod.mk.inj (Option.some.inj h))
  · exact ⟨_, by simp [binOp, Op.intArith, inR_wrap hp], rfl, inR_ok hp⟩
  · exact ⟨_, by simp [binOp, Op.intArith, inR_wrap hp], rfl, inR_ok hp⟩
  · exact ⟨_, by simp [binOp, Op.intArith, inR_wrap hp], rfl, inR_ok hp⟩
  · exact ⟨_, by simp [binOp, Op.intDiv, hp.1, inR_wrap hp.2], rfl, inR_ok hp.2⟩
  · exact ⟨_, by simp [binOp, Op.intDiv, hp.1], rfl, inR_ok hp.2⟩
theorem strB_run {P : Program} {w : World} {op : BinOp} {t : TypeId} {x y : ByteArray} {r : Bool} (h : strB op x y = some r) : (binOp op t (.string x) (.string y)).run P w = .ok (.bool r) w := by
  cases op <;> simp only [strB] at h <;> first | (cases h; done) | (obtain rfl := Option.some.inj h; simp [binOp, Op.stringOp])

theorem equal_of {P : Program} {w : World} {t : TypeId} {x y : Value} {r : Bool} (h : ∀ d, (Op.equalIn (d + 1) t x y).run P w = .ok r w) : (Op.equal t x y).run P w = .ok r w := h 9999
theorem eqIn_bool {P : Program} {w : World} {t : TypeId} {a b : Bool} (hu : P.underlying t = some .bool) (d : Nat) : (Op.equalIn (d + 1) t (.bool a) (.bool b)).run P w = .ok (a == b) w := by
  simp [Op.equalIn, run_underlying hu]
theorem eqIn_nn {P : Program} {w : World} {t e : TypeId} (hu : P.underlying t = some (.slice e)) (d : Nat) : (Op.equalIn (d + 1) t (.slice none 0 0) (.slice none 0 0)).run P w = .ok true w := by
  simp [Op.equalIn, run_underlying hu]
theorem eqIn_sn {P : Program} {w : World} {t e : TypeId} {ad : Addr} {n c : Nat} (hu : P.underlying t = some (.slice e)) (d : Nat) : (Op.equalIn (d + 1) t (.slice (some ad) n c) (.slice none 0 0)).run P w = .ok false w := by
  simp [Op.equalIn, run_underlying hu]
theorem eql_run {P : Program} {w : World} {t : TypeId} {x y : Value} {r : Bool} (h : (Op.equal t x y).run P w = .ok r w) (hx : (∃ b, x = .bool b) ∨ ∃ a n c, x = .slice a n c) :
    (binOp .eql t x y).run P w = .ok (.bool r) w ∧ (binOp .neq t x y).run P w = .ok (.bool (!r)) w := by
  rcases hx with ⟨b, rfl⟩ | ⟨a, n, c, rfl⟩ <;> simp only [binOp] <;> simp [h]

theorem eqGuard_run {P : Program} {w : World} {op : BinOp} {t : TypeId} {x y : Operand} {a b : Value} (ha : a ≠ .nilIface) (hb : ∀ cs, a ≠ .agg cs) : (eqGuard op t x y a b).run P w = .ok () w := by
  unfold eqGuard
  cases op <;> simp <;> cases a <;> simp at ha hb ⊢

theorem v_bin {op : BinOp} {t u : TypeId} {y z : Operand} (ho : o.op = .binOp op t y z u) (h : binX C.E op t (s.ev C.E y) (s.ev C.E z) = some (p, x)) (hp : p) : VOp C s o x := by
  refine VOp.pure_ fun F σ w a hi hr => ?_
  have hy := hr y (by simp [ho, Op.operands])
  have hz := hr z (by simp [ho, Op.operands])
  have key : ∀ v, a.eval y ≠ .nilIface → (∀ cs, a.eval y ≠ .agg cs) → (binOp op t (a.eval y) (a.eval z)).run C.E.P w = .ok v w → (execOp a.eval o).run C.E.P w = .ok (.value v) w := by
    intro v h1 h2 hv
    simp [execOp, ho, eqGuard_run h1 h2, hv]
  generalize s.ev C.E y = xy at *
  generalize s.ev C.E z = xz at *
  unfold binX at h
  split at h
  · rename_i k m k' n
    obtain ⟨e1, -⟩ := Rd.imm_inv hy
    obtain ⟨e2, -⟩ := Rd.imm_inv hz
    cases hk : decide (k = k') with
    | false => rw [hk] at h; cases h
    | true =>
      obtain rfl := of_decide_eq_true hk
      rw [hk] at h
      simp only [cond_true] at h
      split at h
      · rename_i r hcmp
        obtain ⟨rfl, rfl⟩ := Prod.mk.inj (Option.some.inj h)
        exact ⟨.bool r, key _ (by rw [e1]; simp) (by rw [e1]; simp) (by rw [e1, e2]; exact cmpI_run hcmp), Rd.imm _ rfl⟩
      · obtain ⟨q, h1, rfl, h3⟩ := ariI_run (P := C.E.P) (w := w) (t := t) h hp
        exact ⟨_, key _ (by rw [e1]; simp) (by rw [e1]; simp) (by rw [e1, e2]; exact h1), Rd.imm _ h3⟩
  · rename_i sx sy
    obtain ⟨e1, k1⟩ := Rd.imm_inv hy
    obtain ⟨e2, k2⟩ := Rd.imm_inv hz
    split at h
    · rename_i r hb
      obtain ⟨rfl, rfl⟩ := Prod.mk.inj (Option.some.inj h)
      exact ⟨.bool r, key _ (by rw [e1]; simp) (by rw [e1]; simp) (by rw [e1, e2]; exact strB_run hb), Rd.imm _ rfl⟩
    · split at h
      · obtain ⟨rfl, rfl⟩ := Prod.mk.inj (Option.some.inj h)
        have hmx : maxLen = 9223372036854775807 := rfl
        refine ⟨.string (sx ++ sy), key _ (by rw [e1]; simp) (by rw [e1]; simp) ?_, Rd.imm _ ?_⟩
        · rw [e1, e2]
          have : ¬ ((sx.size + sy.size : Nat) : Int) > IntKind.i64.max := by
            simp only [IntKind.max, IntKind.signed, IntKind.bits]
            simp
            omega
          simp only [binOp, Op.stringOp, if_neg this]
          rfl
        · simp [okV, ByteArray.size_append]
          exact hp
      · cases h
  · rename_i b1 b2
    obtain ⟨e1, -⟩ := Rd.imm_inv hy
    obtain ⟨e2, -⟩ := Rd.imm_inv hz
    cases hb : isBoolT C.E t with
    | false => rw [hb] at h; cases h
    | true =>
      rw [hb] at h
      have hu := isBoolT_ok hb
      simp only [cond_true] at h
      cases op <;> simp only at h <;> first | (cases h; done) | obtain ⟨rfl, rfl⟩ := Prod.mk.inj (Option.some.inj h)
      · exact ⟨.bool (b1 == b2), key _ (by rw [e1]; simp) (by rw [e1]; simp) (by rw [e1, e2]; first | exact (eql_run (equal_of (eqIn_bool hu)) (.inl ⟨_, rfl⟩)).1 | exact (eql_run (equal_of (eqIn_bool hu)) (.inl ⟨_, rfl⟩)).2), Rd.imm _ rfl⟩
      · exact ⟨.bool (!(b1 == b2)), key _ (by rw [e1]; simp) (by rw [e1]; simp) (by rw [e1, e2]; first | exact (eql_run (equal_of (eqIn_bool hu)) (.inl ⟨_, rfl⟩)).1 | exact (eql_run (equal_of (eqIn_bool hu)) (.inl ⟨_, rfl⟩)).2), Rd.imm _ rfl⟩
  · cases hb : isSlT C.E t with
    | false => rw [hb] at h; cases h
    | true =>
      rw [hb] at h
      obtain ⟨el, hu⟩ := isSlT_ok hb
      simp only [cond_true] at h
      cases op <;> simp only at h <;> first | (cases h; done) | obtain ⟨rfl, rfl⟩ := Prod.mk.inj (Option.some.inj h)
      · exact ⟨.bool true, key _ (by rw [hy]; simp) (by rw [hy]; simp) (by rw [hy, hz]; first | exact (eql_run (equal_of (eqIn_nn hu)) (.inr ⟨_, _, _, rfl⟩)).1 | exact (eql_run (equal_of (eqIn_nn hu)) (.inr ⟨_, _, _, rfl⟩)).2), Rd.imm _ rfl⟩
      · exact ⟨.bool false, key _ (by rw [hy]; simp) (by rw [hy]; simp) (by rw [hy, hz]; first | exact (eql_run (equal_of (eqIn_nn hu)) (.inr ⟨_, _, _, rfl⟩)).1 | exact (eql_run (equal_of (eqIn_nn hu)) (.inr ⟨_, _, _, rfl⟩)).2), Rd.imm _ rfl⟩
  · cases hb : isSlT C.E t with
    | false => rw [hb] at h; cases h
    | true =>
      rw [hb] at h
      obtain ⟨el, hu⟩ := isSlT_ok hb
      obtain ⟨b, c, n, _, hy'⟩ := hy
      simp only [cond_true] at h
      cases op <;> simp only at h <;> first | (cases h; done) | obtain ⟨rfl, rfl⟩ := Prod.mk.inj (Option.some.inj h)
      · exact ⟨.bool false, key _ (by rw [hy']; simp) (by rw [hy']; simp) (by rw [hy', hz]; first | exact (eql_run (equal_of (eqIn_sn hu)) (.inr ⟨_, _, _, rfl⟩)).1 | exact (eql_run (equal_of (eqIn_sn hu)) (.inr ⟨_, _, _, rfl⟩)).2), Rd.imm _ rfl⟩
      · exact ⟨.bool true, key _ (by rw [hy']; simp) (by rw [hy']; simp) (by rw [hy', hz]; first | exact (eql_run (equal_of (eqIn_sn hu)) (.inr ⟨_, _, _, rfl⟩)).1 | exact (eql_run (equal_of (eqIn_sn hu)) (.inr ⟨_, _, _, rfl⟩)).2), Rd.imm _ rfl⟩
  · rename_i xs
    cases hb : isSlT C.E t with
    | false => rw [hb] at h; cases h
    | true =>
      rw [hb] at h
      obtain ⟨el, hu⟩ := isSlT_ok hb
      simp only [cond_true] at h
      cases op <;> simp only at h <;> first | (cases h; done) | obtain ⟨rfl, rfl⟩ := Prod.mk.inj (Option.some.inj h)
      rcases Rd.sl_inv hy with ⟨hxs, hev⟩ | ⟨_, ad, cap, hev, -⟩
      · exact ⟨.bool true, key _ (by rw [hev]; simp) (by rw [hev]; simp) (by rw [hev, hz]; exact (eql_run (equal_of (eqIn_nn hu)) (.inr ⟨_, _, _, rfl⟩)).1), true, rfl, fun _ => hxs⟩
      · exact ⟨.bool false, key _ (by rw [hev]; simp) (by rw [hev]; simp) (by rw [hev, hz]; exact (eql_run (equal_of (eqIn_sn hu)) (.inr ⟨_, _, _, rfl⟩)).1), false, rfl, fun h => by cases h⟩
  · cases h

theorem v_un {op : UnOp} {t : TypeId} {y : Operand} (ho : o.op = .unOp op t y) (h : unX op (s.ev C.E y) = some (p, x)) (hp : p) : VOp C s o x := by
  refine VOp.pure_ fun F σ w a hi hr => ?_
  have hy := hr y (by simp [ho, Op.operands])
  have key : ∀ v, (Op.unary op (a.eval y)).run C.E.P w = .ok v w → (execOp a.eval o).run C.E.P w = .ok (.value v) w := by
    intro v hv
    simp [execOp, ho, hv]
  generalize s.ev C.E y = xy at *
  unfold unX at h
  split at h
  · obtain ⟨e1, -⟩ := Rd.imm_inv hy
    cases op <;> simp only at h <;> first | (cases h; done) | obtain ⟨rfl, rfl⟩ := Prod.mk.inj (Option.some.inj h)
    exact ⟨_, key _ (by rw [e1]; simp [Op.unary]), Rd.imm _ rfl⟩
  · obtain ⟨e1, -⟩ := Rd.imm_inv hy
    cases op <;> simp only at h <;> first | (cases h; done) | obtain ⟨rfl, rfl⟩ := Prod.mk.inj (Option.some.inj h)
    exact ⟨_, key _ (by rw [e1]; simp only [Op.unary, Op.intArith, inR_wrap hp]; rfl), Rd.imm _ (inR_ok hp)⟩
  · cases h

theorem fieldOff_ok {E : Env} {t : TypeId} {f k : Nat} (h : fieldOff E t f = some k) : ∃ fs fd i, E.P.underlying t = some (.struct fs) ∧ fs[f]? = some fd ∧ fd.offset = k ∧ E.P.info? fd.type = some i ∧ i.size ≠ 0 := by
  unfold fieldOff at h
  split at h
  · rename_i e he
    obtain ⟨⟨h1, -⟩, rfl⟩ := findT_ok he
    split at h
    · rename_i fs hd
      split at h
      · rename_i fd hfd
        split at h
        · rename_i e2 he2
          obtain ⟨⟨-, i, hi, hs, -⟩, ht⟩ := findT_ok he2
          cases hb : Nat.beq e2.size 0 with
          | true => rw [hb] at h; cases h
          | false =>
            rw [hb] at h
            simp at h
            exact ⟨fs, fd, i, by rw [h1, hd], hfd, h, by rw [← ht]; exact hi, by rw [hs]; exact Nat.ne_of_beq_eq_false hb⟩
        · cases h
      · cases h
    · cases h
  · cases h

theorem v_fieldAddr {t : TypeId} {y : Operand} {f k : Nat} (ho : o.op = .fieldAddr t y f) (hk : fieldOff C.E t f = some k) (h : addX k (s.ev C.E y) = some (p, x)) : VOp C s o x := by
  obtain ⟨fs, fd, i, hu, hf, hoff, hi2, hsz⟩ := fieldOff_ok hk
  refine VOp.pure_ fun F σ w a hi hr => ?_
  have hy := hr y (by simp [ho, Op.operands])
  have key : ∀ ad, a.eval y = .pointer (some ad) → (execOp a.eval o).run C.E.P w = .ok (.value (.pointer (some (ad.add k)))) w := by
    intro ad hv
    simp [execOp, ho, hv, Instr.fieldAt, run_underlying hu, hf, Instr.sureAddr, fieldPlace, sizeOf, typeInfo, hi2, hsz, hoff]
  generalize s.ev C.E y = xy at *
  cases xy <;> simp only [addX] at h <;> first | (cases h; done) | obtain ⟨rfl, rfl⟩ := Prod.mk.inj (Option.some.inj h)
  · obtain ⟨b, c, n, h1, h2⟩ := hy
    exact ⟨_, key _ h2, b, c, n, h1, by rw [add_mk]⟩
  · obtain ⟨ad, h1, h2⟩ := hy
    exact ⟨_, key _ h2, ad, h1, by rw [add_add]⟩
  · obtain ⟨b, c, n, h1, h2⟩ := hy
    exact ⟨_, key _ h2, b, c, n, h1, by rw [add_mk, Nat.add_assoc]⟩

theorem toDs_ok {w : World} {F : Nat → Prop} {σ : Sg} : ∀ {xs : List X} {ds : List D}, toDs xs = some ds → ds.length = xs.length ∧ ∀ (i : Nat) (x : X) (v : Value), xs[i]? = some x → RdX w F σ x v → ∃ d, ds[i]? = some d ∧ Rd w F d v
  | [], ds, h => by simp [toDs] at h; subst h; exact ⟨rfl, fun i x v h => by simp at h⟩
  | .d y :: r, ds, h => by
    simp only [toDs, Option.map_eq_some_iff] at h
    obtain ⟨ds', h1, rfl⟩ := h
    obtain ⟨h2, h3⟩ := toDs_ok (w := w) (F := F) (σ := σ) h1
    refine ⟨by simp [h2], fun i x v hi hv => ?_⟩
    cases i with
    | zero => simp at hi; subst hi; exact ⟨y, by simp, hv⟩
    | succ i => simpa using h3 i x v (by simpa using hi) hv
  | .nilS :: r, ds, h => by
    simp only [toDs, Option.map_eq_some_iff] at h
    obtain ⟨ds', h1, rfl⟩ := h
    obtain ⟨h2, h3⟩ := toDs_ok (w := w) (F := F) (σ := σ) h1
    refine ⟨by simp [h2], fun i x v hi hv => ?_⟩
    cases i with
    | zero => simp at hi; subst hi; exact ⟨.sl [], by simp, by rw [show v = .slice none 0 0 from hv]; exact .slnil⟩
    | succ i => simpa using h3 i x v (by simpa using hi) hv
  | .tup _ :: r, ds, h => by simp [toDs] at h
  | .ptr _ _ :: r, ds, h => by simp [toDs] at h
  | .at_ _ _ :: r, ds, h => by simp [toDs] at h
  | .own _ :: r, ds, h => by simp [toDs] at h
  | .pel _ _ _ _ :: r, ds, h => by simp [toDs] at h
  | .mayb _ :: r, ds, h => by simp [toDs] at h
  | .clo _ _ :: r, ds, h => by simp [toDs] at h
  | .und :: r, ds, h => by simp [toDs] at h
  | .top :: r, ds, h => by simp [toDs] at h

theorem isAgg_run {P : Program} {e : TE} {w : World} (h : e.ok P) : (isAgg e.t).run P w = .ok e.isAgg w := by
  unfold isAgg TE.isAgg
  simp only [Sem.run_bind, run_underlying h.1, Result.andThen_ok]
  cases e.desc <;> simp
theorem sizeOf_run {P : Program} {e : TE} {w : World} (h : e.ok P) : (sizeOf e.t).run P w = .ok e.size w := by
  obtain ⟨_, i, hi, hs, _⟩ := h
  simp [sizeOf, typeInfo, hi, hs]

theorem loadAt_agg {E : Env} {e : TE} {w : World} {ad : Addr} {vs : List Value} (h : e.ok E.P) (hag : e.isAgg = true) (hl : vs.length = e.size) (hc : ∀ (j : Nat) v, vs[j]? = some v → w.cell? (ad.add j) = some v) :
    (Instr.loadAt e.t (.pointer (some ad))).run E.P w = .ok (.agg vs.toArray) w := by
  simp only [Instr.loadAt, Instr.sureAddr, loadVar, Sem.run_bind, Sem.run_pure, Result.andThen_ok, isAgg_run h, hag, if_true, sizeOf_run h]
  rw [← hl, run_loadCells_list (P := E.P) (w := w) ad vs hc]
  simp
theorem loadAt_one {E : Env} {e : TE} {w : World} {ad : Addr} {v : Value} (h : e.ok E.P) (hag : e.isAgg = false) (hc : w.cell? ad = some v) : (Instr.loadAt e.t (.pointer (some ad))).run E.P w = .ok v w := by
  simp only [Instr.loadAt, Instr.sureAddr, loadVar, Sem.run_bind, Sem.run_pure, Result.andThen_ok, isAgg_run h, hag]
  simp [hc]

theorem cell_vs {w : World} {b : Nat} {vs : List Value} {ty : TypeId} {fz : Nat × Nat} (h : w.heap[b]? = some (.cells vs.toArray ty fz)) (i : Nat) : w.cell? ⟨b, i, none⟩ = vs[i]? := by
  unfold World.cell?
  rw [h]
  simp

theorem Rd.one_of {w : World} {F : Nat → Prop} {d : D} {v : Value} (h : Rd w F d v) (hv : v.oneCell' = true) : d.one = true := by
  cases h with
  | agg => simp [Value.oneCell'] at hv
  | _ => rfl

/-- Some cells in a row, read as one value. -/
theorem rd_agg {w : World} {F : Nat → Prop} {ds : List D} {vs : List Value} (hl : ds.length = vs.length) (h1 : ∀ v ∈ vs, v.oneCell' = true)
    (h : ∀ (i : Nat) v, vs[i]? = some v → ∃ d, ds[i]? = some d ∧ Rd w F d v) : Rd w F (.agg ds) (.agg vs.toArray) := by
  refine .agg ds vs hl (fun c hc => ?_) fun i c v hc hv => ?_
  · obtain ⟨i, hi⟩ := List.getElem?_of_mem hc
    have hlt : i < vs.length := by rw [← hl]; exact (List.getElem?_eq_some_iff.1 hi).1
    obtain ⟨d, hd, hr⟩ := h i vs[i] (List.getElem?_eq_getElem hlt)
    rw [hi] at hd
    cases hd
    exact hr.one_of (h1 _ (List.getElem_mem hlt))
  · obtain ⟨d, hd, hr⟩ := h i v hv
    rw [hc] at hd
    cases hd
    exact hr

theorem drop_take_get {α : Type} (l : List α) (k n j : Nat) (v : α) (h : ((l.drop k).take n)[j]? = some v) : l[k + j]? = some v ∧ j < n := by
  rw [List.getElem?_take] at h
  split at h
  · rename_i hj; rw [List.getElem?_drop] at h; exact ⟨h, hj⟩
  · cases h

theorem load_ok {E : Env} {B : Base} {F : Nat → Prop} {σ : Sg} {ob0 : List AObj} {w : World} {t : TypeId} {xy x : X} {p : Prop} {v0 : Value} (hi : WInv E B F σ ob0 w) (hy : RdX w F σ xy v0) (h : loadX E ob0 t xy = some (p, x)) :
    ∃ v, (Instr.loadAt t v0).run E.P w = .ok v w ∧ RdX w F σ x v := by
  have key : ∀ {t : TypeId} (v : Value), (Instr.loadAt t v0).run E.P w = .ok v w → (Instr.loadAt t v0).run E.P w = .ok v w := fun _ h => h
  unfold loadX at h
  split at h
  · cases h
  rename_i e he
  obtain ⟨hok, rfl⟩ := findT_ok he
  split at h
  · rename_i ob off
    obtain ⟨b, cc, nn, h1, h2⟩ := hy
    split at h
    · rename_i ty c hob
      obtain ⟨vs, hh, hlen, hone, hcs, -⟩ := hi.obs ob _ _ hob h1
      have whole : ∀ ds, toDs ((c.cells.drop off).take e.size) = some ds → Nat.beq ds.length e.size = true → e.isAgg = true →
          ∃ v, (Instr.loadAt e.t v0).run E.P w = .ok v w ∧ RdX w F σ (.d (.agg ds)) v := by
        intro ds hds hb hag
        obtain ⟨hl, hx⟩ := toDs_ok (w := w) (F := F) (σ := σ) hds
        have hsz : ds.length = e.size := Nat.eq_of_beq_eq_true hb
        have hl2 : ((vs.drop off).take e.size).length = e.size := by
          rw [← hsz, hl]
          simp only [List.length_take, List.length_drop, hlen]
          omega
        refine ⟨_, key _ ?_, rd_agg (ds := ds) (vs := (vs.drop off).take e.size) (by rw [hl2, hsz]) (fun v hv => hone v (List.mem_of_mem_drop (List.mem_of_mem_take hv))) fun i v hv => ?_⟩
        · rw [h2]
          refine loadAt_agg hok hag hl2 fun j v hj => ?_
          rw [add_mk, cell_vs hh]
          exact (drop_take_get vs off e.size j v hj).1
        · obtain ⟨hv1, hv2⟩ := drop_take_get vs off e.size i v hv
          have hlt : off + i < c.cells.length := by rw [hlen]; exact (List.getElem?_eq_some_iff.1 hv1).1
          have hcx : c.cells[off + i]? = some c.cells[off + i] := List.getElem?_eq_getElem hlt
          refine hx i c.cells[off + i] v ?_ (hcs _ _ _ hcx hv1)
          rw [List.getElem?_take, if_pos hv2, List.getElem?_drop]
          exact hcx
      cases hag : e.isAgg with
      | true =>
        rw [hag] at h
        simp only [cond_true] at h
        split at h
        · rename_i cs
          cases hb : Nat.beq cs.length e.size with
          | false => rw [hb] at h; cases h
          | true =>
            rw [hb] at h
            obtain ⟨rfl, rfl⟩ := Prod.mk.inj (Option.some.inj h)
            refine whole cs ?_ hb hag
            have hsz : cs.length = e.size := Nat.eq_of_beq_eq_true hb
            have : ∀ l : List D, toDs (l.map X.d) = some l := by
              intro l
              induction l with
              | nil => rfl
              | cons d r ih => simp [toDs, ih]
            simp only [VC.cells, X.cells, D.cells, List.drop_zero]
            rw [List.take_of_length_le (by simp [hsz])]
            exact this cs
        · split at h
          · rename_i ds hds
            cases hb : Nat.beq ds.length e.size with
            | false => rw [hb] at h; cases h
            | true =>
              rw [hb] at h
              obtain ⟨rfl, rfl⟩ := Prod.mk.inj (Option.some.inj h)
              exact whole ds hds hb hag
          · cases h
      | false =>
        rw [hag] at h
        simp only [cond_false] at h
        split at h
        · rename_i z hz
          rw [fw_eq h]
          have hlt : off < vs.length := by rw [← hlen]; exact (List.getElem?_eq_some_iff.1 hz).1
          have hv : vs[off]? = some vs[off] := List.getElem?_eq_getElem hlt
          refine ⟨vs[off], key _ ?_, hcs off z _ hz hv⟩
          rw [h2]
          exact loadAt_one hok hag (by rw [cell_vs hh]; exact hv)
        · cases h
    · cases h
  · rename_i z off
    obtain ⟨ad, ⟨hF, hone, hm⟩, h2⟩ := hy
    have whole : ((z.cells.drop off).take e.size).length = e.size → e.isAgg = true →
        ∃ v, (Instr.loadAt e.t v0).run E.P w = .ok v w ∧ RdX w F σ (.d (.agg ((z.cells.drop off).take e.size))) v := by
      intro hl hag
      have hex : ∀ j, ∃ u, ∀ c, z.cells[j]? = some c → w.cell? (ad.add j) = some u ∧ Rd w F c u := by
        intro j
        cases hz : z.cells[j]? with
        | none => exact ⟨undef, fun c h => by cases h⟩
        | some c => obtain ⟨u, h1, h2⟩ := hm j c hz; exact ⟨u, fun c' h => by cases h; exact ⟨h1, h2⟩⟩
      let u : Nat → Value := fun j => Classical.choose (hex j)
      have hu : ∀ j c, z.cells[j]? = some c → w.cell? (ad.add j) = some (u j) ∧ Rd w F c (u j) := fun j => Classical.choose_spec (hex j)
      let vs : List Value := (List.range e.size).map fun j => u (off + j)
      have hvl : vs.length = e.size := by simp [vs]
      have hvj : ∀ (j : Nat) v, vs[j]? = some v → v = u (off + j) ∧ j < e.size := by
        intro j v hj
        have hlt : j < e.size := by rw [← hvl]; exact (List.getElem?_eq_some_iff.1 hj).1
        simp [vs, hlt] at hj
        exact ⟨hj.symm, hlt⟩
      have hzj : ∀ j, j < e.size → ∃ c, z.cells[off + j]? = some c ∧ ((z.cells.drop off).take e.size)[j]? = some c := by
        intro j hj
        have hlt : j < ((z.cells.drop off).take e.size).length := by rw [hl]; exact hj
        have h1 := List.getElem?_eq_getElem hlt
        exact ⟨_, (drop_take_get _ _ _ _ _ h1).1, h1⟩
      refine ⟨.agg vs.toArray, key _ ?_, rd_agg (vs := vs) (by rw [hvl]; exact hl) (fun v hv => ?_) fun i v hv => ?_⟩
      · rw [h2]
        refine loadAt_agg hok hag hvl fun j v hj => ?_
        obtain ⟨rfl, hlt⟩ := hvj j v hj
        obtain ⟨c, hc, _⟩ := hzj j hlt
        rw [add_add]
        exact (hu _ c hc).1
      · obtain ⟨i, hi'⟩ := List.getElem?_of_mem hv
        obtain ⟨rfl, hlt⟩ := hvj i v hi'
        obtain ⟨c, hc, _⟩ := hzj i hlt
        exact (hu _ c hc).2.one (hone c (List.mem_of_getElem? hc))
      · obtain ⟨rfl, hlt⟩ := hvj i v hv
        obtain ⟨c, hc, hc'⟩ := hzj i hlt
        exact ⟨c, hc', (hu _ c hc).2⟩
    cases hag : e.isAgg with
    | true =>
      rw [hag] at h
      simp only [cond_true] at h
      split at h
      · split at h
        · rename_i cs
          cases hb : Nat.beq cs.length e.size with
          | false => rw [hb] at h; cases h
          | true =>
            rw [hb] at h
            obtain ⟨rfl, rfl⟩ := Prod.mk.inj (Option.some.inj h)
            have hsz : cs.length = e.size := Nat.eq_of_beq_eq_true hb
            have := whole (by simp [D.cells, hsz]) hag
            simp only [D.cells, List.drop_zero] at this
            rw [List.take_of_length_le (by omega)] at this
            exact this
        · cases h
      · rename_i hne
        cases hb : Nat.beq ((z.cells.drop off).take e.size).length e.size with
        | false => rw [hb] at h; cases h
        | true =>
          rw [hb] at h
          obtain ⟨rfl, rfl⟩ := Prod.mk.inj (Option.some.inj h)
          exact whole (Nat.eq_of_beq_eq_true hb) hag
    | false =>
      rw [hag] at h
      simp only [cond_false] at h
      split at h
      · rename_i c hc
        obtain ⟨rfl, rfl⟩ := Prod.mk.inj (Option.some.inj h)
        obtain ⟨u, hu1, hu2⟩ := hm off c hc
        refine ⟨u, key _ ?_, hu2⟩
        rw [h2]
        exact loadAt_one hok hag hu1
      · cases h
  · cases h

theorem v_load {t : TypeId} {y : Operand} (ho : o.op = .load t y) (h : loadX C.E s.ob t (s.ev C.E y) = some (p, x)) : VOp C s o x := by
  refine VOp.pure_ fun F σ w a hi hr => ?_
  obtain ⟨v, h1, h2⟩ := load_ok hi (hr y (by simp [ho, Op.operands])) h
  exact ⟨v, by simp [execOp, ho, h1], h2⟩
end
end Go.Abs

/- Further operations that yield a value: strings, lengths, cuts, structs that are built; and the one function that reckons them all. Conditions: each operation's own. -/
namespace Go.Abs
open Go Go.RowKit

section
variable {C : Cx} {s : St} {o : Oper} {x : X} {p : Prop}

theorem byteAt_range (b : ByteArray) (i : Nat) : 0 ≤ byteAt b i ∧ byteAt b i ≤ 255 := by
  unfold byteAt
  have := (b.data.toList.getD i 0).toNat_lt
  omega
theorem byteAt_get {b : ByteArray} {i : Nat} (h : i < b.size) : byteAt b i = ((b[i]).toNat : Int) := by
  unfold byteAt
  have h' : i < b.data.toList.length := by simpa using h
  rw [List.getD_eq_getElem?_getD, List.getElem?_eq_getElem h']
  rfl

theorem v_index {t : TypeId} {y z : Operand} (ho : o.op = .index t y z) (h : indexX C.E t (s.ev C.E y) (s.ev C.E z) = some (p, x)) (hp : p) : VOp C s o x := by
  refine VOp.pure_ fun F σ w a hi hr => ?_
  have hy := hr y (by simp [ho, Op.operands])
  have hz := hr z (by simp [ho, Op.operands])
  have key : ∀ v, (Instr.index t (a.eval y) (a.eval z)).run C.E.P w = .ok v w → (execOp a.eval o).run C.E.P w = .ok (.value v) w := by
    intro v hv
    simp [execOp, ho, hv]
  generalize s.ev C.E y = xy at *
  generalize s.ev C.E z = xz at *
  unfold indexX at h
  split at h
  · rename_i b k i
    obtain ⟨e1, -⟩ := Rd.imm_inv hy
    obtain ⟨e2, -⟩ := Rd.imm_inv hz
    cases hb : isStrT C.E t with
    | false => rw [hb] at h; cases h
    | true =>
      rw [hb] at h
      obtain ⟨rfl, rfl⟩ := Prod.mk.inj (Option.some.inj h)
      have hlt : i.toNat < b.size := by omega
      have hr := byteAt_range b i.toNat
      refine ⟨_, key _ ?_, Rd.imm _ (inR_ok (k := .u8) hr)⟩
      rw [e1, e2, byteAt_get hlt]
      have hg : b[i.toNat]? = some b[i.toNat] := by simp [hlt]
      simp [Instr.index, asIntOf, run_underlying (isStrT_ok hb), hp.1, hg]
  · cases h

theorem len_run {P : Program} {w : World} {t : TypeId} {ty : TypeId} {v : Value} {d : TypeDesc} (hu : P.underlying t = some d)
    (hv : (∃ b, v = .string b ∧ d = .string) ∨ ∃ a n c e, v = .slice a n c ∧ d = .slice e) :
    (Builtin.len_ #[t] ty #[v]).run P w = .ok (goInt (match v with | .string b => (b.size : Int) | .slice _ n _ => (n : Int) | _ => 0)) w := by
  rcases hv with ⟨b, rfl, rfl⟩ | ⟨a, n, c, e, rfl, rfl⟩ <;> simp [Builtin.len_, run_underlying hu]

theorem v_len {t : TypeId} {y : Operand} (ho : o.op = .call { callee := .builtin .len, args := #[y], argTypes := #[t] }) (h : lenX C.E s.ob t (s.ev C.E y) = some (p, x)) : VOp C s o x := by
  refine VOp.pure_ fun F σ w a hi hr => ?_
  have hy := hr y (by simp [ho, Op.operands, Call.operands])
  have key : ∀ v, (Builtin.len_ #[t] o.type #[a.eval y]).run C.E.P w = .ok v w → (execOp a.eval o).run C.E.P w = .ok (.value v) w := by
    intro v hv
    simp [execOp, ho, resolve, invoke, builtin, hv]
  have hmx : maxLen = 9223372036854775807 := rfl
  generalize s.ev C.E y = xy at *
  unfold lenX at h
  split at h
  · rename_i b
    obtain ⟨e1, hk⟩ := Rd.imm_inv hy
    cases hb : isStrT C.E t with
    | false => rw [hb] at h; cases h
    | true =>
      rw [hb] at h
      obtain ⟨rfl, rfl⟩ := Prod.mk.inj (Option.some.inj h)
      refine ⟨_, key _ (by rw [e1]; exact len_run (isStrT_ok hb) (.inl ⟨_, rfl, rfl⟩)), Rd.imm _ (inR_ok (k := .i64) ?_)⟩
      simp only [okV, decide_eq_true_eq] at hk
      simp only [inR]
      omega
  · rename_i xs
    cases hb : isSlT C.E t with
    | false => rw [hb] at h; cases h
    | true =>
      rw [hb] at h
      obtain ⟨rfl, rfl⟩ := Prod.mk.inj (Option.some.inj h)
      obtain ⟨el, hu⟩ := isSlT_ok hb
      rcases Rd.sl_inv hy with ⟨rfl, hev⟩ | ⟨_, ad, cap, hev, h1, h2, -⟩
      · exact ⟨_, key _ (by rw [hev]; exact len_run hu (.inr ⟨_, _, _, _, rfl, rfl⟩)), Rd.imm _ (by decide)⟩
      · refine ⟨_, key _ (by rw [hev]; exact len_run hu (.inr ⟨_, _, _, _, rfl, rfl⟩)), Rd.imm _ (inR_ok (k := .i64) ?_)⟩
        simp only [inR]
        omega
  · cases hb : isSlT C.E t with
    | false => rw [hb] at h; cases h
    | true =>
      rw [hb] at h
      obtain ⟨rfl, rfl⟩ := Prod.mk.inj (Option.some.inj h)
      obtain ⟨el, hu⟩ := isSlT_ok hb
      exact ⟨_, key _ (by rw [show a.eval y = .slice none 0 0 from hy]; exact len_run hu (.inr ⟨_, _, _, _, rfl, rfl⟩)), Rd.imm _ (by decide)⟩
  · rename_i ob
    split at h
    · rename_i e size xs hob
      cases hb : isSlT C.E t with
      | false => rw [hb] at h; cases h
      | true =>
        rw [hb] at h
        obtain ⟨rfl, rfl⟩ := Prod.mk.inj (Option.some.inj h)
        obtain ⟨el, hu⟩ := isSlT_ok hb
        obtain ⟨b, c, n, h1, h2⟩ := hy
        obtain ⟨vs, -, -, rfl, h3, h4, -⟩ := hi.obs ob _ _ hob h1
        refine ⟨_, key _ (by rw [h2]; exact len_run hu (.inr ⟨_, _, _, _, rfl, rfl⟩)), Rd.imm _ (inR_ok (k := .i64) ?_)⟩
        simp only [inR]
        omega
    · rename_i e size xs hob
      cases hb : isSlT C.E t with
      | false => rw [hb] at h; cases h
      | true =>
        rw [hb] at h
        obtain ⟨rfl, rfl⟩ := Prod.mk.inj (Option.some.inj h)
        obtain ⟨el, hu⟩ := isSlT_ok hb
        obtain ⟨b, c, n, h1, h2⟩ := hy
        obtain ⟨vs, -, -, rfl, h3, h4, -⟩ := hi.obs ob _ _ hob h1
        refine ⟨_, key _ (by rw [h2]; exact len_run hu (.inr ⟨_, _, _, _, rfl, rfl⟩)), Rd.imm _ (inR_ok (k := .i64) ?_)⟩
        simp only [inR]
        omega
    · cases h
  · cases h

theorem sliceBound_run {P : Program} {w : World} {k : IntKind} {i : Int} {y : Nat} {code : BoundsCode} (h : 0 ≤ i ∧ i ≤ y) : (Instr.sliceBound (.int k i) y code).run P w = .ok i.toNat w := by
  simp [Instr.sliceBound, asIntOf, h]

theorem rd_empty {w : World} {F : Nat → Prop} {ad : Addr} {cap : Nat} (h : cap ≤ maxLen) : Rd w F (.sl []) (.slice (some ad) 0 cap) :=
  Rd.sl 0 [] ad cap (fun _ _ => undef) (Nat.zero_le _) h (fun h => absurd rfl h) (fun x h => by cases h) (fun x h => by cases h) (fun i x j c h => by cases h) (fun i x j c h => by cases h)
theorem rd_sub {w : World} {F : Nat → Prop} {xs : List D} {ad : Addr} {cap : Nat} (h : Rd w F (.sl xs) (.slice (some ad) xs.length cap)) (sz l hh : Nat) (hl : l ≤ hh) (hx : hh ≤ xs.length) (hc : hh ≤ cap)
    (hsz : ∀ x ∈ xs, x.cells.length = sz) : Rd w F (.sl ((xs.take hh).drop l)) (.slice (some (if cap = l then ad else ad.add (l * sz))) (hh - l) (cap - l)) := by
  rcases Rd.sl_inv h with ⟨_, h0⟩ | ⟨size, ad', cap', h0, h1, h2, h3, h4, h5, h6⟩
  · cases h0
  · cases h0
    have hget : ∀ (i : Nat) x, ((xs.take hh).drop l)[i]? = some x → xs[l + i]? = some x ∧ l + i < hh := by
      intro i x hi
      rw [List.getElem?_drop, List.getElem?_take] at hi
      split at hi
      · exact ⟨hi, ‹_›⟩
      · cases hi
    have hlen : ((xs.take hh).drop l).length = hh - l := by
      rw [List.length_drop, List.length_take]
      omega
    have hex : ∀ i j, ∃ u, ∀ x c, xs[l + i]? = some x → x.cells[j]? = some c → w.cell? (ad.add ((l + i) * size + j)) = some u ∧ Rd w F c u := by
      intro i j
      by_cases hq : ∃ x c, xs[l + i]? = some x ∧ x.cells[j]? = some c
      · obtain ⟨x, c, hx, hc⟩ := hq
        obtain ⟨u, hu⟩ := h6 _ x j c hx hc
        exact ⟨u, fun x' c' h1 h2 => by rw [hx] at h1; cases h1; rw [hc] at h2; cases h2; exact hu⟩
      · exact ⟨undef, fun x c h1 h2 => absurd ⟨x, c, h1, h2⟩ hq⟩
    let u : Nat → Nat → Value := fun i j => Classical.choose (hex i j)
    have hu : ∀ i j x c, xs[l + i]? = some x → x.cells[j]? = some c → w.cell? (ad.add ((l + i) * size + j)) = some (u i j) ∧ Rd w F c (u i j) := fun i j => Classical.choose_spec (hex i j)
    by_cases hnil : (xs.take hh).drop l = []
    · have hz : hh - l = 0 := by rw [← hlen, hnil]; rfl
      rw [hnil, hz]
      exact rd_empty (by omega)
    · have hlt : l < hh := by
        rcases Nat.lt_or_ge l hh with h | h
        · exact h
        · exfalso; apply hnil; apply List.eq_nil_of_length_eq_zero; omega
      have hsize : sz = size := by
        have hm : xs[l]'(by omega) ∈ xs := List.getElem_mem _
        rw [← hsz _ hm, h4 _ hm]
      subst hsize
      rw [if_neg (by omega), ← hlen]
      refine Rd.sl sz _ _ _ u (by rw [hlen]; omega) (by omega) (fun _ => ?_) (fun x hx => h4 x (List.mem_of_mem_take (List.mem_of_mem_drop hx))) (fun x hx => h5 x (List.mem_of_mem_take (List.mem_of_mem_drop hx))) (fun i x j c hx hc => ?_) fun i x j c hx hc => ?_
      · rw [block_add]
        refine h3 fun e => ?_
        subst e
        simp at hx
        omega
      · rw [add_add, ← Nat.add_assoc, ← Nat.add_mul]
        exact (hu i j x c (hget i x hx).1 hc).1
      · exact (hu i j x c (hget i x hx).1 hc).2

theorem slice_run_sl {P : Program} {w : World} {t e : TypeId} {te : TE} {ad : Addr} {n cap l h : Nat} {lo hi : Option Value} (hu : P.underlying t = some (.slice e)) (ht : te.ok P) (he : te.t = e)
    (hb : (Instr.sliceBounds true n cap lo hi none).run P w = .ok (l, h, cap) w) :
    (Instr.sliceAt t (.slice (some ad) n cap) lo hi none).run P w = .ok (.slice (some (if cap = l then ad else ad.add (l * te.size))) (h - l) (cap - l)) w := by
  subst he
  simp only [Instr.sliceAt, Sem.run_bind, run_underlying hu, Result.andThen_ok, Instr.slice, hb, sizeOf_run ht]
  by_cases hc : cap = l <;> simp [hc]
theorem slice_run_nil {P : Program} {w : World} {t e : TypeId} {te : TE} {lo hi : Option Value} (hu : P.underlying t = some (.slice e)) (ht : te.ok P) (he : te.t = e)
    (hb : (Instr.sliceBounds true 0 0 lo hi none).run P w = .ok (0, 0, 0) w) :
    (Instr.sliceAt t (.slice none 0 0) lo hi none).run P w = .ok (.slice none 0 0) w := by
  subst he
  simp [Instr.sliceAt, run_underlying hu, Instr.slice, hb, sizeOf_run ht]
theorem slice_run_str {P : Program} {w : World} {t : TypeId} {b : ByteArray} {l h m : Nat} {lo hi : Option Value} (hu : P.underlying t = some .string)
    (hb : (Instr.sliceBounds false b.size b.size lo hi none).run P w = .ok (l, h, m) w) :
    (Instr.sliceAt t (.string b) lo hi none).run P w = .ok (.string (b.extract l h)) w := by
  simp [Instr.sliceAt, run_underlying hu, Instr.slice, hb]

/-- The element type of a slice type, if both are listed. -/
def elemT (E : Env) (t : TypeId) : Option TE := match findT E.T t with | some e => (match e.desc with | .slice el => findT E.T el | _ => none) | none => none
theorem elemT_ok {E : Env} {t : TypeId} {te : TE} (h : elemT E t = some te) : E.P.underlying t = some (.slice te.t) ∧ te.ok E.P := by
  unfold elemT at h
  split at h
  · rename_i e he
    split at h
    · rename_i el hd
      obtain ⟨⟨h1, -⟩, rfl⟩ := findT_ok he
      obtain ⟨h2, rfl⟩ := findT_ok h
      exact ⟨by rw [h1, hd], h2⟩
    · cases h
  · cases h

theorem extract_size {b : ByteArray} {l h : Nat} : (b.extract l h).size ≤ b.size := by
  rw [ByteArray.size_extract]
  omega

theorem v_slice {t : TypeId} {y : Operand} {lo hi : Option Operand} (ho : o.op = .slice t y lo hi none) (hel : ∀ xs, s.ev C.E y = .d (.sl xs) → ∃ te, elemT C.E t = some te ∧ ∀ x ∈ xs, x.cells.length = te.size)
    (h : sliceX C.E t (s.ev C.E y) (lo.map (s.ev C.E)) (hi.map (s.ev C.E)) = some (p, x)) (hp : p) : VOp C s o x := by
  refine VOp.pure_ fun F σ w a hi' hr => ?_
  have hy := hr y (by simp [ho, Op.operands])
  have hlo : ∀ z, lo = some z → RdX w F σ (s.ev C.E z) (a.eval z) := fun z hz => hr z (by simp [ho, Op.operands, hz])
  have hhi : ∀ z, hi = some z → RdX w F σ (s.ev C.E z) (a.eval z) := fun z hz => hr z (by simp [ho, Op.operands, hz])
  have key : ∀ v, (Instr.sliceAt t (a.eval y) (lo.map a.eval) (hi.map a.eval) none).run C.E.P w = .ok v w → (execOp a.eval o).run C.E.P w = .ok (.value v) w := by
    intro v hv
    simp [execOp, ho, hv]
  -- the bounds
  have hbd : ∀ {q : Option Operand} {u : X}, (∀ z, q = some z → RdX w F σ (s.ev C.E z) (a.eval z)) → q.map (s.ev C.E) = some u → ∀ k i, u = .d (.imm (.int k i)) → q.map a.eval = some (.int k i) := by
    intro q u hq hu k i he
    cases q with
    | none => cases hu
    | some z =>
      simp at hu
      have := hq z rfl
      rw [hu, he] at this
      simp [this.imm_inv.1]
  have hbn : ∀ {q : Option Operand}, q.map (s.ev C.E) = none → q.map a.eval = none := by
    intro q hq
    cases q with
    | none => rfl
    | some z => cases hq
  generalize hyy : s.ev C.E y = xy at *
  unfold sliceX at h
  split at h
  · rename_i b
    obtain ⟨e1, hk⟩ := Rd.imm_inv hy
    have hks : b.size ≤ maxLen := by simpa [okV] using hk
    have fin : ∀ l h, okV (.string (b.extract l h)) = true := fun l h => by
      have := extract_size (b := b) (l := l) (h := h)
      simp only [okV, decide_eq_true_eq]
      omega
    cases hb : isStrT C.E t with
    | false => rw [hb] at h; cases h
    | true =>
      have hu := isStrT_ok hb
      rw [hb] at h
      simp only [cond_true] at h
      split at h
      · rename_i k i h1 h2
        obtain ⟨rfl, rfl⟩ := Prod.mk.inj (Option.some.inj h)
        refine ⟨_, key _ ?_, Rd.imm _ (fin _ _)⟩
        rw [e1, hbn h1, hbd hhi h2 _ _ rfl]
        refine slice_run_str (m := b.size) hu ?_
        simp [Instr.sliceBounds, sliceBound_run hp]
      · rename_i k i h1 h2
        obtain ⟨rfl, rfl⟩ := Prod.mk.inj (Option.some.inj h)
        refine ⟨_, key _ ?_, Rd.imm _ (fin _ _)⟩
        rw [e1, hbn h2, hbd hlo h1 _ _ rfl]
        refine slice_run_str (m := b.size) hu ?_
        simp [Instr.sliceBounds, sliceBound_run hp]
      · rename_i k i k' j h1 h2
        obtain ⟨rfl, rfl⟩ := Prod.mk.inj (Option.some.inj h)
        obtain ⟨p1, p2, p3⟩ := hp
        refine ⟨_, key _ ?_, Rd.imm _ (fin _ _)⟩
        rw [e1, hbd hlo h1 _ _ rfl, hbd hhi h2 _ _ rfl]
        refine slice_run_str (m := b.size) hu ?_
        have hj : 0 ≤ j ∧ j ≤ (b.size : Int) := ⟨by omega, p3⟩
        have hi2 : 0 ≤ i ∧ i ≤ (j.toNat : Int) := ⟨p1, by omega⟩
        simp [Instr.sliceBounds, sliceBound_run hj, sliceBound_run hi2]
      · cases h
  · rename_i xs
    obtain ⟨te, hte, hsz⟩ := hel xs rfl
    obtain ⟨hu, hok⟩ := elemT_ok hte
    cases hb : isSlT C.E t with
    | false => rw [hb] at h; cases h
    | true =>
      rw [hb] at h
      simp only [cond_true] at h
      -- whatever the bounds come to
      have fin : ∀ (l hh : Nat), l ≤ hh → hh ≤ xs.length → (∀ cap, xs.length ≤ cap → (Instr.sliceBounds true xs.length cap (lo.map a.eval) (hi.map a.eval) none).run C.E.P w = .ok (l, hh, cap) w) →
          ∃ v, (execOp a.eval o).run C.E.P w = .ok (.value v) w ∧ RdX w F σ (.d (.sl ((xs.take hh).drop l))) v := by
        intro l hh hl hx hbs
        rcases Rd.sl_inv hy with ⟨rfl, hev⟩ | ⟨_, ad, cap, hev, h1, h2, -⟩
        · simp at hx
          subst hx
          obtain rfl : l = 0 := by omega
          refine ⟨.slice none 0 0, key _ ?_, Rd.slnil⟩
          rw [hev]
          exact slice_run_nil hu hok rfl (hbs 0 (Nat.le_refl _))
        · refine ⟨_, key _ ?_, rd_sub (hev ▸ hy) te.size l hh hl hx (by omega) hsz⟩
          rw [hev]
          exact slice_run_sl hu hok rfl (hbs cap h1)
      split at h
      · rename_i k i h1 h2
        obtain ⟨rfl, rfl⟩ := Prod.mk.inj (Option.some.inj h)
        have := fin 0 i.toNat (Nat.zero_le _) (by omega) fun cap hcap => by
          have hj : 0 ≤ i ∧ i ≤ (cap : Int) := ⟨hp.1, by omega⟩
          rw [hbn h1, hbd hhi h2 _ _ rfl]
          simp [Instr.sliceBounds, sliceBound_run hj]
        simpa using this
      · rename_i k i h1 h2
        obtain ⟨rfl, rfl⟩ := Prod.mk.inj (Option.some.inj h)
        have := fin i.toNat xs.length (by omega) (Nat.le_refl _) fun cap hcap => by
          rw [hbn h2, hbd hlo h1 _ _ rfl]
          simp [Instr.sliceBounds, sliceBound_run hp]
        simpa using this
      · rename_i k i k' j h1 h2
        obtain ⟨rfl, rfl⟩ := Prod.mk.inj (Option.some.inj h)
        obtain ⟨p1, p2, p3⟩ := hp
        exact fin i.toNat j.toNat (by omega) (by omega) fun cap hcap => by
          have hj : 0 ≤ j ∧ j ≤ (cap : Int) := ⟨by omega, by omega⟩
          have hi2 : 0 ≤ i ∧ i ≤ (j.toNat : Int) := ⟨p1, by omega⟩
          rw [hbd hlo h1 _ _ rfl, hbd hhi h2 _ _ rfl]
          simp [Instr.sliceBounds, sliceBound_run hj, sliceBound_run hi2]
      · cases h
  · cases h

theorem v_min {y z : Operand} {t u : TypeId} (mx : Bool) (ho : o.op = .call { callee := .builtin (bif mx then .max else .min), args := #[y, z], argTypes := #[t, u] }) (h : minX mx (s.ev C.E y) (s.ev C.E z) = some (p, x)) (hp : p) : VOp C s o x := by
  refine VOp.pure_ fun F σ w a hi hr => ?_
  have hy := hr y (by simp [ho, Op.operands, Call.operands])
  have hz := hr z (by simp [ho, Op.operands, Call.operands])
  generalize s.ev C.E y = xy at *
  generalize s.ev C.E z = xz at *
  unfold minX at h
  split at h
  · rename_i k m k' n
    obtain ⟨e1, hk⟩ := Rd.imm_inv hy
    obtain ⟨e2, -⟩ := Rd.imm_inv hz
    obtain ⟨rfl, rfl⟩ := Prod.mk.inj (Option.some.inj h)
    have hm := ok_inR hk
    cases mx with
    | true =>
      refine ⟨.int k (max m n), ?_, Rd.imm _ (inR_ok ?_)⟩
      · have e : (if m < n then n else m) = max m n := by omega
        simp [execOp, ho, resolve, invoke, builtin, e1, e2, Builtin.max_, Builtin.max2, e]
      · rcases Int.le_total m n with h | h
        · simpa [Int.max_eq_right h] using hp
        · simpa [Int.max_eq_left h] using hm
    | false =>
      refine ⟨.int k (min m n), ?_, Rd.imm _ (inR_ok ?_)⟩
      · have e : (if n < m then n else m) = min m n := by omega
        simp [execOp, ho, resolve, invoke, builtin, e1, e2, Builtin.min_, Builtin.min2, e]
      · rcases Int.le_total m n with h | h
        · simpa [Int.min_eq_left h] using hm
        · simpa [Int.min_eq_right h] using hp
  · cases h

theorem v_extract {y : Operand} {k : Nat} {xs : List D} {d : D} (ho : o.op = .extract y k) (hy' : s.ev C.E y = .tup xs) (hx : xs[k]? = some d) : VOp C s o (.d d) := by
  refine VOp.pure_ fun F σ w a hi hr => ?_
  have hy := hr y (by simp [ho, Op.operands])
  rw [hy'] at hy
  obtain ⟨vs, e1, hl, h2⟩ := hy
  have hlt : k < vs.length := by rw [← hl]; exact (List.getElem?_eq_some_iff.1 hx).1
  refine ⟨vs[k], ?_, h2 k d _ hx (List.getElem?_eq_getElem hlt)⟩
  simp [execOp, ho, e1, Instr.extract, hlt]
end
end Go.Abs

/- The engine's operations that turn the state: variables, stores; element addresses. Conditions: each operation's own. -/
namespace Go.Abs
open Go Go.RowKit

def oneAll : List Value → Bool
  | [] => true
  | v :: r => v.oneCell' && oneAll r
theorem oneAll_ok : ∀ {l : List Value}, oneAll l = true → ∀ v ∈ l, v.oneCell' = true
  | [], _, v, hv => by simp at hv
  | u :: r, h, v, hv => by
    simp only [oneAll, Bool.and_eq_true] at h
    rcases List.mem_cons.1 hv with e | e
    · rw [e]; exact h.1
    · exact oneAll_ok h.2 v e
theorem heap_push {w : World} {o : Obj} : (w.alloc o).heap[w.heap.size]? = some o := by
  show (w.heap.push o)[w.heap.size]? = _
  simp
theorem below_alloc (w : World) (o : Obj) : Below w.heap.size w (w.alloc o) := ⟨rfl, rfl, rfl, by simp, fun k hk => Below.heap_alloc w o k hk⟩
theorem ext_alloc {w : World} {F : Nat → Prop} (o : Obj) (hF : ∀ b, F b → b < w.heap.size) : Ext w F (w.alloc o) F := Ext.of_below (below_alloc w o) hF

theorem σ_app {σ : Sg} {p : Nat × Nat × Nat} : ∀ (o : Nat) q, σ[o]? = some q → (σ ++ [p])[o]? = some q := by
  intro o q h
  rw [List.getElem?_append_left (List.getElem?_eq_some_iff.1 h).1]
  exact h

/-- A new object in a new block. -/
theorem WInv.add {E : Env} {B : Base} {F : Nat → Prop} {σ : Sg} {ob : List AObj} {w : World} (h : WInv E B F σ ob w) (o : Obj) (x : AObj) (c n : Nat)
    (hx : ObOK (w.alloc o) F (σ ++ [(w.heap.size, c, n)]) B.O x (w.heap.size, c, n)) : WInv E B F (σ ++ [(w.heap.size, c, n)]) (ob ++ [x]) (w.alloc o) := by
  have he := ext_alloc (F := F) o h.flt
  have h' := h.ext he
  refine ⟨h'.flt, h'.glob, by simp [h.len], fun k y p hy hp => ?_, fun k k' y y' p p' hne hy hl hy' hl' hp hp' => ?_, fun i p hp hq => σ_app _ _ (h.pre i p hp hq)⟩
  · rcases Nat.lt_or_ge k ob.length with hlt | hge
    · rw [List.getElem?_append_left hlt] at hy
      rw [List.getElem?_append_left (by rw [h.len]; exact hlt)] at hp
      exact (h'.obs k y p hy hp).mono (fun _ h => h) (fun _ _ => rfl) σ_app (fun _ => rfl) (fun _ h => h)
    · rw [List.getElem?_append_right hge] at hy
      rw [List.getElem?_append_right (by rw [h.len]; exact hge), h.len] at hp
      have hk : k - ob.length = 0 := by
        rcases Nat.eq_zero_or_pos (k - ob.length) with h0 | h0
        · exact h0
        · rw [List.getElem?_eq_none (by simp; omega)] at hy; cases hy
      rw [hk] at hy hp
      simp at hy hp
      subst hy hp
      exact hx
  · have key : ∀ k y p, (ob ++ [x])[k]? = some y → y.live = true → (σ ++ [(w.heap.size, c, n)])[k]? = some p → (k < ob.length ∧ ob[k]? = some y ∧ σ[k]? = some p ∧ p.1 < w.heap.size) ∨ (k = ob.length ∧ p.1 = w.heap.size) := by
      intro k y p hy hl hp
      rcases Nat.lt_or_ge k ob.length with hlt | hge
      · rw [List.getElem?_append_left hlt] at hy
        rw [List.getElem?_append_left (by rw [h.len]; exact hlt)] at hp
        exact .inl ⟨hlt, hy, hp, (h.obs k y p hy hp).lt hl⟩
      · rw [List.getElem?_append_right hge] at hy
        rw [List.getElem?_append_right (by rw [h.len]; exact hge), h.len] at hp
        have hk : k - ob.length = 0 := by
          rcases Nat.eq_zero_or_pos (k - ob.length) with h0 | h0
          · exact h0
          · rw [List.getElem?_eq_none (by simp; omega)] at hy; cases hy
        rw [hk] at hp
        simp at hp
        subst hp
        exact .inr ⟨by omega, rfl⟩
    rcases key k y p hy hl hp with ⟨a1, a2, a3, a4⟩ | ⟨a1, a2⟩ <;> rcases key k' y' p' hy' hl' hp' with ⟨b1, b2, b3, b4⟩ | ⟨b1, b2⟩
    · exact h.inj k k' y y' p p' hne a2 hl b2 hl' a3 b3
    · omega
    · omega
    · omega

def St.add (s : St) (dst : Option Tmp) (x : AObj) (y : X) : St := St.put { s with ob := s.ob ++ [x] } dst y

theorem rel_add {C : Cx} {s : St} {a : Act} {w : World} {F : Nat → Prop} {σ : Sg} {o : Oper} {y : X} {v : Value} {ob : Obj} {x : AObj} {c n : Nat}
    (h1 : Kept C.O C.w0 w) (h2 : ∀ b, C.F0 b → F b) (h3 : ∀ b, F b → C.F0 b ∨ ¬ C.O b) (hi : WInv C.E C.base F σ s.ob w)
    (h4 : a.defers = []) (h5 : a.tmps.size = C.N) (hs : ∀ t, RdX w F σ (lk s.tm t) (a.tmps.getD t undef)) (hd : dstOK C o = true)
    (hx : ObOK (w.alloc ob) F (σ ++ [(w.heap.size, c, n)]) C.O x (w.heap.size, c, n)) (hv : RdX (w.alloc ob) F (σ ++ [(w.heap.size, c, n)]) y v) :
    C.Rel (s.add o.dst x y) (a.put o.dst v) (w.alloc ob) := by
  have he := ext_alloc (F := F) ob hi.flt
  refine ⟨F, σ ++ [(w.heap.size, c, n)], h1.step he.below, h2, h3, ?_, by rw [Act.put_def]; exact h4, by rw [Act.put_size]; exact h5, ?_⟩
  · unfold St.add
    rw [St.put_ob]
    exact hi.add ob x c n hx
  · unfold St.add
    exact lk_put (N := C.N) (s := { s with ob := s.ob ++ [x] }) (fun t => ((hs t).ext he hi.flt).mono (fun _ h => h) (fun _ _ => rfl) σ_app) h5 (dstOK_lt hd) fun _ => hv

def X.held : X → Bool
  | .d _ | .nilS | .ptr _ _ | .at_ _ _ | .own _ | .pel _ _ _ _ => true
  | _ => false

/-- The cells of what a slot holds. -/
theorem RdX.cells_ {w : World} {F : Nat → Prop} {σ : Sg} {x : X} {v : Value} (h : RdX w F σ x v) (hx : x.held = true) :
    v.cells.size = x.cells.length ∧ (∀ u ∈ v.cells.toList, u.oneCell' = true) ∧ ∀ (i : Nat) y u, x.cells[i]? = some y → v.cells.toList[i]? = some u → RdX w F σ y u := by
  have one : v.oneCell' = true → x.cells = [x] → v.cells.size = x.cells.length ∧ (∀ u ∈ v.cells.toList, u.oneCell' = true) ∧ ∀ (i : Nat) y u, x.cells[i]? = some y → v.cells.toList[i]? = some u → RdX w F σ y u := by
    intro hv hc
    have hvc : v.cells = #[v] := by cases v <;> simp_all [Value.oneCell', Value.cells]
    rw [hvc, hc]
    refine ⟨rfl, by simpa using hv, ?_⟩
    intro i y u hy hu
    cases i with
    | zero => simp at hy hu; subst hy hu; exact h
    | succ i => simp at hy
  cases x with
  | d d =>
    obtain ⟨a1, a2, a3⟩ := Rd.cells h
    refine ⟨by simp [X.cells, a1], fun u hu => ?_, fun i y u hy hu => ?_⟩
    · obtain ⟨i, hi⟩ := List.getElem?_of_mem hu
      have hlt : i < d.cells.length := by rw [← a1]; simpa using (List.getElem?_eq_some_iff.1 hi).1
      have hc := List.getElem?_eq_getElem hlt
      exact (a2 i _ u hc (by simpa using hi)).one (a3 _ (List.getElem_mem hlt))
    · simp only [X.cells, List.getElem?_map, Option.map_eq_some_iff] at hy
      obtain ⟨c, hc, rfl⟩ := hy
      exact a2 i c u hc (by simpa using hu)
  | nilS => exact one (by rw [show v = _ from h]; rfl) rfl
  | ptr o k => obtain ⟨b, c, n, -, rfl⟩ := h; exact one rfl rfl
  | at_ y k => obtain ⟨ad, -, rfl⟩ := h; exact one rfl rfl
  | own o => obtain ⟨b, c, n, -, rfl⟩ := h; exact one rfl rfl
  | pel o i k z => obtain ⟨b, c, n, -, rfl⟩ := h; exact one rfl rfl
  | _ => simp [X.held] at hx

section
variable {C : Cx} {s : St} {o : Oper} {x : X}

theorem s_box {t : TypeId} {y : Operand} (ho : o.op = .box t y) (hx : s.ev C.E y = x) (hh : x.held = true) (hd : dstOK C o = true) : SOp C s o (s.add o.dst (.var t (.w x)) (.ptr s.ob.length 0)) := by
  rintro w a K Q ⟨F, σ, h1, h2, h3, hi, h4, h5, hs⟩ hK
  have hv := ev_rd (E := C.E) hi hs y
  rw [hx] at hv
  have hrun : (execOp a.eval o).run C.E.P w = .ok (.value (.pointer (some ⟨w.heap.size, 0, none⟩))) (w.alloc (.cells (a.eval y).cells t)) := by
    simp [execOp, ho, Instr.box, newVar, newRow]
  unfold Oper.wp
  rw [hrun]
  have he := ext_alloc (F := F) (.cells (a.eval y).cells t) hi.flt
  have hv' : RdX (w.alloc (.cells (a.eval y).cells t)) F (σ ++ [(w.heap.size, 0, 0)]) x (a.eval y) := (hv.ext he hi.flt).mono (fun _ h => h) (fun _ _ => rfl) σ_app
  obtain ⟨c1, c2, c3⟩ := hv'.cells_ hh
  refine hK _ _ (rel_add h1 h2 h3 hi h4 h5 hs hd (x := .var t (.w x)) (c := 0) (n := 0) ⟨(a.eval y).cells.toList, by simpa using heap_push, by simpa [VC.cells] using c1.symm, c2, c3, h1.new (Nat.le_refl _), fun hf => ?_⟩ ⟨w.heap.size, 0, 0, ?_, rfl⟩)
  · exact absurd (hi.flt _ hf) (Nat.lt_irrefl _)
  · rw [← hi.len]; simp

theorem zero_run {P : Program} {e : TE} {w : World} (h : e.ok P) : (zeroValue e.t).run P w = .ok e.zero w := by
  obtain ⟨_, i, hi, _, _, hz⟩ := h
  simp [zeroValue, typeInfo, hi, hz]

theorem s_alloc {t : TypeId} {e : TE} (ho : o.op = .alloc t) (he : findT C.E.T t = some e) (h1z : oneAll e.zero.cells.toList = true) (hd : dstOK C o = true) :
    SOp C s o (s.add o.dst (.var t (.cs (e.zero.cells.toList.map ofConst))) (.ptr s.ob.length 0)) := by
  obtain ⟨hok, rfl⟩ := findT_ok he
  rintro w a K Q ⟨F, σ, h1, h2, h3, hi, h4, h5, hs⟩ hK
  have hrun : (execOp a.eval o).run C.E.P w = .ok (.value (.pointer (some ⟨w.heap.size, 0, none⟩))) (w.alloc (.cells e.zero.cells e.t)) := by
    simp [execOp, ho, Instr.alloc, zero_run hok, newVar, newRow]
  unfold Oper.wp
  rw [hrun]
  refine hK _ _ (rel_add h1 h2 h3 hi h4 h5 hs hd (x := .var e.t (.cs (e.zero.cells.toList.map ofConst))) (c := 0) (n := 0) ⟨e.zero.cells.toList, by simpa using heap_push, by simp [VC.cells], fun v hv => ?_, fun i y u hy hu => ?_, h1.new (Nat.le_refl _), fun hf => ?_⟩ ⟨w.heap.size, 0, 0, ?_, rfl⟩)
  · exact oneAll_ok h1z v hv
  · simp only [VC.cells, List.getElem?_map, Option.map_eq_some_iff] at hy
    obtain ⟨c, hc, rfl⟩ := hy
    rw [hu] at hc
    cases hc
    exact ofConst_rd _
  · exact absurd (hi.flt _ hf) (Nat.lt_irrefl _)
  · rw [← hi.len]; simp

/-- The cells of a variable, some of them written. -/
def setX : List X → Nat → List X → List X
  | cs, _, [] => cs
  | cs, k, d :: r => setX (cs.set k d) (k + 1) r
def storeC (c : VC) (off : Nat) (x : X) : VC :=
  bif Nat.beq off 0 && Nat.beq x.cells.length c.cells.length then .w x else .cs (setX c.cells off x.cells)
theorem setX_spec : ∀ (r cs : List X) (k : Nat), k + r.length ≤ cs.length → setX cs k r = cs.take k ++ r ++ cs.drop (k + r.length)
  | [], cs, k, _ => by simp [setX]
  | d :: r, cs, k, h => by
    simp only [setX]
    simp only [List.length_cons] at h
    rw [setX_spec r (cs.set k d) (k + 1) (by simp; omega)]
    have hk : k < cs.length := by omega
    have e1 : (cs.set k d).take (k + 1) = cs.take k ++ [d] := by
      rw [List.take_succ_eq_append_getElem (by simp; omega), List.take_set_of_le (Nat.le_refl _)]
      simp
    have e2 : (cs.set k d).drop (k + 1 + r.length) = cs.drop (k + (d :: r).length) := by
      rw [List.drop_set_of_lt (by omega)]
      simp only [List.length_cons]
      congr 1
      omega
    rw [e1, e2]
    simp
theorem storeC_cells {c : VC} {off : Nat} {x : X} (h : off + x.cells.length ≤ c.cells.length) : (storeC c off x).cells = c.cells.take off ++ x.cells ++ c.cells.drop (off + x.cells.length) := by
  unfold storeC
  cases hb : Nat.beq off 0 && Nat.beq x.cells.length c.cells.length with
  | true =>
    rw [Bool.and_eq_true] at hb
    have h1 := Nat.eq_of_beq_eq_true hb.1
    have h2 := Nat.eq_of_beq_eq_true hb.2
    subst h1
    simp [VC.cells, h2]
  | false => simp only [cond_false, VC.cells]; exact setX_spec _ _ _ h

theorem setRow_size (w : World) (b : Nat) (cs : Array Value) : (w.setRow b cs).heap.size = w.heap.size := by simp [World.setRow]
theorem setRow_other (w : World) (b : Nat) (cs : Array Value) (k : Nat) (h : k ≠ b) : (w.setRow b cs).heap[k]? = w.heap[k]? := by
  simp only [World.setRow, Array.getElem?_modify]
  rw [if_neg (fun e => h e.symm)]

theorem Kept.setRow {O : Nat → Prop} {a w : World} (h : Kept O a w) {b : Nat} (hb : ¬ O b) (cs : Array Value) : Kept O a (w.setRow b cs) :=
  ⟨h.os, h.tape, h.output, by rw [setRow_size]; exact h.size, fun k hk => (setRow_other w b cs k fun e => hb (e ▸ hk)).trans (h.block k hk), h.old⟩

/-- One object turns, in its own block. -/
theorem WInv.turn {E : Env} {B : Base} {F : Nat → Prop} {σ : Sg} {ob : List AObj} {w : World} {i b c n : Nat} {x y : AObj} (h : WInv E B F σ ob w) (hx : ob[i]? = some x) (hl : x.live = true) (hσ : σ[i]? = some (b, c, n)) (hF : ¬ F b)
    {cs : Array Value} (hy : ObOK (w.setRow b cs) F σ B.O y (b, c, n)) : WInv E B F σ (ob.set i y) (w.setRow b cs) := by
  have keep : ∀ k, F k → (w.setRow b cs).heap[k]? = w.heap[k]? := fun k hk => setRow_other w b cs k (fun e => hF (e ▸ hk))
  refine ⟨fun k hk => by rw [setRow_size]; exact h.flt k hk, h.glob.mono (fun _ h => h) keep, by simp [h.len], fun k z p hz hp => ?_, fun k k' z z' p p' hne hz hzl hz' hzl' hp hp' => ?_, h.pre⟩
  · rw [List.getElem?_set] at hz
    split at hz
    · rename_i he
      subst he
      split at hz
      · cases hz
        rw [hσ] at hp
        cases hp
        exact hy
      · cases hz
    · rename_i he
      refine (h.obs k z p hz hp).mono (fun _ h => h) keep (fun _ _ h => h) (fun hzl => ?_) (fun _ h => h)
      exact setRow_other w b cs p.1 (h.inj k i z x p (b, c, n) (fun e => he e.symm) hz hzl hx hl hp hσ)
  · have key : ∀ (k : Nat) (z : AObj), (ob.set i y)[k]? = some z → z.live = true → ∃ u : AObj, ob[k]? = some u ∧ u.live = true := by
      intro k z hz hzl
      rw [List.getElem?_set] at hz
      split at hz
      · rename_i he; subst he; exact ⟨x, hx, hl⟩
      · exact ⟨z, hz, hzl⟩
    obtain ⟨u, u1, u2⟩ := key k z hz hzl
    obtain ⟨u', u1', u2'⟩ := key k' z' hz' hzl'
    exact h.inj k k' u u' p p' hne u1 u2 u1' u2' hp hp'

def St.setOb (s : St) (i : Nat) (y : AObj) : St := { s with ob := s.ob.set i y }

theorem s_store {t ty : TypeId} {y z : Operand} {i off : Nat} {c : VC} {e : TE} (ho : o.op = .store t y z) (hdst : o.dst = none) (hy : s.ev C.E y = .ptr i off) (hz : s.ev C.E z = x) (hh : x.held = true) (hob : s.ob[i]? = some (.var ty c))
    (he : findT C.E.T t = some e) (hsz : Nat.beq x.cells.length e.size = true) (hle : Nat.ble (off + x.cells.length) c.cells.length = true) : SOp C s o (s.setOb i (.var ty (storeC c off x))) := by
  obtain ⟨hok, rfl⟩ := findT_ok he
  have hsz' := Nat.eq_of_beq_eq_true hsz
  have hle' := Nat.le_of_ble_eq_true hle
  rintro w a K Q ⟨F, σ, h1, h2, h3, hi, h4, h5, hs⟩ hK
  have hv := ev_rd (E := C.E) hi hs z
  rw [hz] at hv
  have hp := ev_rd (E := C.E) hi hs y
  rw [hy] at hp
  obtain ⟨b, cc, n, p1, p2⟩ := hp
  obtain ⟨vs, q1, q2, q3, q4, q5, q6⟩ := hi.obs i _ _ hob p1
  obtain ⟨c1, c2, c3⟩ := hv.cells_ hh
  have hrow := run_storeCells_at C.E.P b off ty (a.eval z).cells.toList 0 vs.toArray w q1 (by simp; omega) c2
  have hrun : (execOp a.eval o).run C.E.P w = .ok .skip (w.setRow b (vs.take off ++ (a.eval z).cells.toList ++ vs.drop (off + (a.eval z).cells.toList.length)).toArray) := by
    simp only [execOp, ho, Instr.storeAt, p2, Instr.sureAddr, storeVar, Sem.run_bind, Sem.run_pure, Result.andThen_ok, sizeOf_run hok]
    rw [if_neg (by rw [c1, hsz']; simp)]
    simp only [Nat.add_zero] at hrow
    rw [hrow]
    rfl
  unfold Oper.wp
  rw [hrun]
  simp only [Oper.upon]
  rw [hdst]
  refine hK _ _ ⟨F, σ, ?_, h2, h3, ?_, h4, h5, fun t => ?_⟩
  · exact h1.setRow q5 _
  · refine hi.turn hob rfl p1 q6 ?_
    have keep : ∀ k, F k → (w.setRow b (vs.take off ++ (a.eval z).cells.toList ++ vs.drop (off + (a.eval z).cells.toList.length)).toArray).heap[k]? = w.heap[k]? := fun k hk => setRow_other w b _ k (fun e => q6 (e ▸ hk))
    refine ⟨_, setRow_heap w b vs.toArray _ ty _ q1, ?_, fun v hv => ?_, fun j xj v hj hvj => ?_, q5, q6⟩
    · rw [storeC_cells hle']
      simp only [List.length_append, List.length_take, List.length_drop, q2, Array.length_toList, c1]
    · rw [List.mem_append, List.mem_append] at hv
      rcases hv with (hv | hv) | hv
      · exact q3 v (List.mem_of_mem_take hv)
      · exact c2 v hv
      · exact q3 v (List.mem_of_mem_drop hv)
    · rw [storeC_cells hle'] at hj
      refine RdX.mono ?_ (fun _ h => h) keep (fun _ _ h => h)
      have hcl : (a.eval z).cells.toList.length = x.cells.length := by simp [c1]
      rw [hcl] at hvj
      rcases Nat.lt_or_ge j off with hlt | hge
      · have h1 : (c.cells.take off).length = off := by rw [List.length_take]; omega
        have h2 : (vs.take off).length = off := by rw [List.length_take, ← q2]; omega
        rw [List.append_assoc, List.getElem?_append_left (by omega), List.getElem?_take, if_pos hlt] at hj
        rw [List.append_assoc, List.getElem?_append_left (by omega), List.getElem?_take, if_pos hlt] at hvj
        exact q4 j xj v hj hvj
      · have h1 : (c.cells.take off).length = off := by rw [List.length_take]; omega
        have h2 : (vs.take off).length = off := by rw [List.length_take, ← q2]; omega
        rw [List.append_assoc, List.getElem?_append_right (by omega), h1] at hj
        rw [List.append_assoc, List.getElem?_append_right (by omega), h2] at hvj
        rcases Nat.lt_or_ge (j - off) x.cells.length with hlt | hge2
        · rw [List.getElem?_append_left hlt] at hj
          rw [List.getElem?_append_left (by omega)] at hvj
          exact c3 _ xj v hj hvj
        · rw [List.getElem?_append_right hge2, List.getElem?_drop] at hj
          rw [List.getElem?_append_right (by omega), hcl, List.getElem?_drop] at hvj
          exact q4 _ xj v hj hvj
  · refine (hs t).mono (fun _ h => h) (fun k hk => setRow_other w b _ k (fun e => q6 (e ▸ hk))) (fun _ _ h => h)

/-- An element's address in data. -/
theorem v_indexAddr {t : TypeId} {y z : Operand} {xs : List D} {k : IntKind} {i : Int} {d : D} {te : TE} (ho : o.op = .indexAddr t y z) (hy' : s.ev C.E y = .d (.sl xs)) (hz' : s.ev C.E z = .d (.imm (.int k i)))
    (hte : elemT C.E t = some te) (h0 : 0 ≤ i) (hd : xs[i.toNat]? = some d) (hsz : d.cells.length = te.size) : VOp C s o (.at_ d 0) := by
  obtain ⟨hu, hok⟩ := elemT_ok hte
  refine VOp.pure_ fun F σ w a hi hr => ?_
  have hy := hr y (by simp [ho, Op.operands])
  have hz := hr z (by simp [ho, Op.operands])
  rw [hy'] at hy
  rw [hz'] at hz
  obtain ⟨e2, -⟩ := Rd.imm_inv hz
  have hlt : i.toNat < xs.length := (List.getElem?_eq_some_iff.1 hd).1
  rcases Rd.sl_inv hy with ⟨rfl, hev⟩ | ⟨size, ad, cap, hev, h1, h2, h3, h4, h5, h6⟩
  · simp at hlt
  · have hm : d ∈ xs := List.mem_of_getElem? hd
    have hsize : size = te.size := by rw [← h4 d hm, hsz]
    refine ⟨.pointer (some (ad.add (i.toNat * te.size))), ?_, ad.add (i.toNat * te.size), ⟨?_, h5 d hm, fun j c hj => ?_⟩, by simp [Addr.add]⟩
    · have hlt' : 0 ≤ i ∧ i < (xs.length : Int) := ⟨h0, by omega⟩
      simp [execOp, ho, hev, e2, Instr.indexAt, asIntOf, run_underlying hu, hlt', sizeOf_run hok]
    · rw [block_add]
      exact h3 (fun e => by rw [e] at hlt; simp at hlt)
    · obtain ⟨u, hu1, hu2⟩ := h6 i.toNat d j c hd hj
      exact ⟨u, by rw [add_add, ← hsize]; exact hu1, hu2⟩
end
end Go.Abs

/- Contracts of functions over data, and how a walk enters a function, calls another, and returns. Conditions: none; lemmas over any program. -/
namespace Go.Abs
open Go Go.RowKit

/-- Called on values that read as these data, in whatever memory: the function returns what reads as r; all that was there is as it was. -/
def Ev (E : Env) (f : FuncId) (ds : List D) (r : X) : Prop :=
  ∀ (w : World) (F : Nat → Prop) (vs : List Value), (∀ b, F b → b < w.heap.size) → E.GI w F → vs.length = ds.length → (∀ (i : Nat) d v, ds[i]? = some d → vs[i]? = some v → Rd w F d v) →
    Calls E.P f vs.toArray w fun e w' => ∃ v F', e = .returned v ∧ Ext w F w' F' ∧ RdX w' F' [] r v

/-- What a slot holds, handed on as data: a row of the call's own counts as data while nobody writes it. -/
inductive Dat (ob : List AObj) : X → D → Prop
  | d (x : D) : Dat ob (.d x) x
  | nil : Dat ob .nilS (.sl [])
inductive Dats (s : St) (E : Env) : List Operand → List D → Prop
  | nil : Dats s E [] []
  | cons {x : Operand} {r : List Operand} {d : D} {ds : List D} (h : Dat s.ob (s.ev E x) d) (hr : Dats s E r ds) : Dats s E (x :: r) (d :: ds)

theorem Dat.rd {ob : List AObj} {x : X} {d : D} {w : World} {F : Nat → Prop} {σ : Sg} {v : Value} (h : Dat ob x d) (hv : RdX w F σ x v) : Rd w F d v := by
  cases h with
  | d x => exact hv
  | nil => rw [show v = .slice none 0 0 from hv]; exact .slnil
theorem Dats.rd {s : St} {E : Env} {w : World} {F : Nat → Prop} {σ : Sg} {a : Act} : ∀ {xs : List Operand} {ds : List D}, Dats s E xs ds → (∀ y ∈ xs, RdX w F σ (s.ev E y) (a.eval y)) →
    (xs.map a.eval).length = ds.length ∧ ∀ (i : Nat) d v, ds[i]? = some d → (xs.map a.eval)[i]? = some v → Rd w F d v
  | _, _, .nil, _ => ⟨rfl, fun i d v h => by simp at h⟩
  | _, _, .cons (x := x) h hr, hall => by
    obtain ⟨h1, h2⟩ := hr.rd (w := w) (F := F) (σ := σ) (a := a) fun y hy => hall y (by simp [hy])
    refine ⟨by simpa using h1, fun i d v hd hv => ?_⟩
    cases i with
    | zero =>
      simp at hd hv
      subst hd hv
      exact h.rd (hall x (by simp))
    | succ i => exact h2 i d v (by simpa using hd) (by simpa using hv)

/-- The arguments of a call as data. -/
def datsX (E : Env) (s : St) : List Operand → Option (List D)
  | [] => some []
  | x :: r => (match s.ev E x with
    | .d d => (match datsX E s r with
      | some ds => some (d :: ds)
      | none => none)
    | .nilS => (match datsX E s r with
      | some ds => some (.sl [] :: ds)
      | none => none)
    | _ => none)
theorem datsX_ok {E : Env} {s : St} : ∀ {args : List Operand} {ds : List D}, datsX E s args = some ds → Dats s E args ds
  | [], ds, h => by simp only [datsX] at h; cases h; exact .nil
  | x :: r, ds, h => by
    simp only [datsX] at h
    split at h
    · rename_i d hd
      split at h
      · rename_i ds' hds
        cases h
        exact .cons (hd ▸ .d _) (datsX_ok hds)
      · cases h
    · rename_i hd
      split at h
      · rename_i ds' hds
        cases h
        exact .cons (hd ▸ .nil) (datsX_ok hds)
      · cases h
    · cases h

/-- A result that reads without objects reads so beside objects. -/
theorem RdX.lift {w : World} {F : Nat → Prop} {σ : Sg} {x : X} {v : Value} (h : RdX w F [] x v) : RdX w F σ x v := h.mono (fun _ h => h) (fun _ _ => rfl) (fun o p h => by simp at h)

/-- The function has a body. -/
def HasBody (E : Env) (f : FuncId) : Prop := ∀ (args : Array Value) (w : World), (callFunc f args).run E.P w = .ok (.enter f args) w

section
variable {C : Cx} {s : St} {o : Oper} {x : X} {r : List It} {Q : Exit → St → Prop}

theorem resolve_func {ρ : Operand → Value} {y : Operand} {args : Array Operand} {tys : Array TypeId} {ty : TypeId} {f : FuncId} {P : Program} {w : World} (h : ρ y = .func (.func f) #[] #[]) :
    (do let d ← resolve ρ { callee := .value y, args := args, argTypes := tys } ty; invoke d.target d.args : Sem Next).run P w = (callFunc f (args.map ρ)).run P w := by
  simp [resolve, Deferred.ofValue, h, invoke]

/-- A call of a function by its contract. -/
theorem v_call {y : Operand} {args : List Operand} {tys : Array TypeId} {f : FuncId} {ds : List D} {rx : X} (ho : o.op = .call { callee := .value y, args := args.toArray, argTypes := tys }) (hf : s.ev C.E y = .d (.imm (.func (.func f) #[] #[])))
    (hb : HasBody C.E f) (hd : Dats s C.E args ds) (h : Ev C.E f ds rx) : VOp C s o rx := by
  intro F σ w a K Q hi hr hK
  have hy := hr y (by simp [ho, Op.operands, Call.operands])
  rw [hf] at hy
  obtain ⟨e1, -⟩ := Rd.imm_inv hy
  obtain ⟨h1, h2⟩ := hd.rd (w := w) (F := F) (σ := σ) (a := a) fun z hz => hr z (by simp [ho, Op.operands, Call.operands, hz])
  have hrun : (execOp a.eval o).run C.E.P w = .ok (.enter f (args.map a.eval).toArray) w := by
    simp only [execOp, ho]
    rw [resolve_func e1]
    simpa using hb (args.toArray.map a.eval) w
  unfold Oper.wp
  rw [hrun]
  refine (h w F _ hi.flt hi.glob h1 h2).mono ?_
  rintro e w' ⟨v, F', rfl, he, hv⟩
  exact hK v w' F' he hv.lift

/-! ## Entering and returning -/
/-- What a function's result slots hold comes to. -/
def ResIs (C : Cx) (fn : Func) (s : St) (rx : X) : Prop :=
  ∀ F σ w (a : Act), WInv C.E C.base F σ s.ob w → (∀ b, F b → C.F0 b ∨ ¬ C.O b) → (∀ b, C.F0 b → F b) → (∀ t, RdX w F σ (lk s.tm t) (a.tmps.getD t undef)) →
    ∃ v F', (results fn a.tmps).run C.E.P w = .ok v w ∧ (∀ b, F b → F' b) ∧ (∀ b, F' b → b < w.heap.size ∧ (C.F0 b ∨ ¬ C.O b)) ∧ RdX w F' [] rx v

def EndIs (C : Cx) (fn : Func) (rx : X) : Exit → St → Prop
  | .ret, s | .normal, s => ResIs C fn s rx
  | _, _ => False

theorem Ev.enter {E : Env} {f : FuncId} {fn : Func} {c : Code} {ds : List D} {rx : X} {N : Nat} (hf : E.P.funcs[f]? = some fn) (hb : fn.body = some c) (hN : fn.ntmps = N) (hle : ds.length ≤ N)
    (h : ∀ (w0 : World) (F0 O : Nat → Prop), go ⟨E, w0, F0, N, ⟨O, 0, []⟩⟩ [.code c] ⟨(List.range ds.length).zip (ds.map X.d), []⟩ (EndIs ⟨E, w0, F0, N, ⟨O, 0, []⟩⟩ fn rx)) : Ev E f ds rx := by
  intro w F vs hF hG hl hr
  refine calls_of_wp hf hb ?_
  have hgo := h w F (fun k => k < w.heap.size)
  have hlook : ∀ t, RdX w F [] (lk ((List.range ds.length).zip (ds.map X.d)) t) ((vs.toArray ++ Array.replicate (fn.ntmps - vs.toArray.size) undef).getD t undef) := by
    intro t
    have key : ∀ (k : Nat) (l : List D), (∀ (i : Nat) d, l[i]? = some d → ds[k + i]? = some d) → RdX w F [] (lk ((List.range' k l.length).zip (l.map X.d)) t) ((vs.toArray ++ Array.replicate (fn.ntmps - vs.toArray.size) undef).getD t undef) := by
      intro k l
      induction l generalizing k with
      | nil => intro _; trivial
      | cons d l ih =>
        intro hk
        simp only [List.length_cons, List.range'_succ, List.map_cons, List.zip_cons_cons, lk]
        cases hbq : Nat.beq k t with
        | true =>
          obtain rfl := Nat.eq_of_beq_eq_true hbq
          have hd : ds[k]? = some d := by simpa using hk 0 d rfl
          have hlt : k < vs.length := by rw [hl]; exact (List.getElem?_eq_some_iff.1 hd).1
          have e : (vs.toArray ++ Array.replicate (fn.ntmps - vs.toArray.size) undef).getD k undef = vs[k] := by
            simp [Array.getElem?_append, hlt]
          rw [e]
          exact hr k d _ hd (List.getElem?_eq_getElem hlt)
        | false =>
          refine ih (k + 1) fun i d' hi => ?_
          have := hk (i + 1) d' (by simpa using hi)
          rw [← this]
          congr 1
          omega
    have := key 0 ds fun i d hd => by simpa using hd
    rwa [← List.range_eq_range'] at this
  have hrel : Cx.Rel ⟨E, w, F, N, ⟨fun k => k < w.heap.size, 0, []⟩⟩ ⟨(List.range ds.length).zip (ds.map X.d), []⟩ { tmps := vs.toArray ++ Array.replicate (fn.ntmps - vs.toArray.size) undef, defers := [] } w := by
    refine ⟨F, [], Kept.refl (fun _ h => h), fun _ h => h, fun _ h => .inl h, ⟨hF, hG, rfl, fun k x p hx => by simp at hx, fun k k' x x' p p' _ hx => by simp at hx, fun i p h => absurd h (Nat.not_lt_zero _)⟩, rfl, ?_, hlook⟩
    simp [hN, hl]
    omega
  refine wp_mono (hgo _ w hrel) ?_
  rintro e a' w' ⟨s', ⟨F', σ, h1, h2, h3, hi, h4, h5, hs⟩, hq⟩
  have fin : ResIs ⟨E, w, F, N, ⟨fun k => k < w.heap.size, 0, []⟩⟩ fn s' rx → a'.defers = [] ∧ ∃ v, (results fn a'.tmps).run E.P w' = .ok v w' ∧ ∃ v_1 F'', Ending.returned v = .returned v_1 ∧ Ext w F w' F'' ∧ RdX w' F'' [] rx v_1 := by
    intro hres
    obtain ⟨v, F'', r1, r2, r3, r4⟩ := hres F' σ w' a' hi h3 h2 hs
    exact ⟨h4, v, r1, v, F'', rfl, ⟨h1.below, fun b hb => r2 b (h2 b hb), fun b hb => (r3 b hb).2.imp id Nat.le_of_not_lt, fun b hb => (r3 b hb).1⟩, r4⟩
  cases e with
  | normal => exact fin hq
  | ret => exact fin hq
  | _ => exact hq.elim

theorem res_none {fn : Func} (hr : fn.results = #[]) : ResIs C fn s (.tup []) := by
  intro F σ w a hi hn hm hs
  refine ⟨.tuple #[], F, ?_, fun _ h => h, fun b hb => ⟨hi.flt b hb, hn b hb⟩, [], rfl, rfl, fun i x v hx => by simp at hx⟩
  simp [results, hr]

/-- A result variable: a slot, or a variable in memory. -/
def resX (C : Cx) (s : St) : ResultVar → Option D
  | .tmp t => toD (lk s.tm t)
  | .cell a t => (match lk s.tm a with
    | .ptr i off => (match loadX C.E s.ob t (.ptr i off) with
      | some (_, x) => toD x
      | none => none)
    | _ => none)
theorem toD_rd {x : X} {d : D} {w : World} {F : Nat → Prop} {σ : Sg} {v : Value} (h : toD x = some d) (hv : RdX w F σ x v) : Rd w F d v := by
  cases x <;> simp [toD] at h
  · subst h; exact hv
  · subst h; rw [show v = .slice none 0 0 from hv]; exact .slnil
def resRun (a : Act) : ResultVar → Sem Value
  | .tmp t => pure (a.tmps.getD t undef)
  | .cell b t => do loadVar t (← asAddr (a.tmps.getD b undef))
theorem resX_run {F : Nat → Prop} {σ : Sg} {w : World} {a : Act} {q : ResultVar} {d : D} (hi : WInv C.E C.base F σ s.ob w) (hs : ∀ t, RdX w F σ (lk s.tm t) (a.tmps.getD t undef)) (h : resX C s q = some d) :
    ∃ v, (resRun a q).run C.E.P w = .ok v w ∧ Rd w F d v := by
  cases q with
  | tmp t => exact ⟨_, by simp only [resRun, Sem.run_pure], toD_rd h (hs t)⟩
  | cell b t =>
    simp only [resX] at h
    have hb := hs b
    split at h
    · rename_i i off hl
      rw [hl] at hb
      split at h
      · rename_i p x hx
        obtain ⟨v, h1, h2⟩ := load_ok hi hb hx
        obtain ⟨b', c, n, -, e⟩ := hb
        refine ⟨v, ?_, toD_rd h h2⟩
        rw [e] at h1
        simp only [Instr.loadAt, Instr.sureAddr, Sem.run_bind, Sem.run_pure, Result.andThen_ok] at h1
        simp only [resRun, e, asAddr, Sem.run_bind, Sem.run_pure, Result.andThen_ok, h1]
      · cases h
    · cases h
theorem results_eq (fn : Func) (a : Act) : results fn a.tmps = (do let vs ← fn.results.mapM (resRun a); pure (if h : vs.size = 1 then vs[0] else .tuple vs)) := by
  unfold results
  congr 1
theorem res_1 {fn : Func} {q : ResultVar} {d : D} (hr : fn.results = #[q]) (h : resX C s q = some d) : ResIs C fn s (.d d) := by
  intro F σ w a hi hn hm hs
  obtain ⟨v, h1, h2⟩ := resX_run hi hs h
  refine ⟨v, F, ?_, fun _ h => h, fun b hb => ⟨hi.flt b hb, hn b hb⟩, h2⟩
  rw [results_eq, hr]
  simp [h1]
theorem res_2 {fn : Func} {q q' : ResultVar} {d d' : D} (hr : fn.results = #[q, q']) (h : resX C s q = some d) (h' : resX C s q' = some d') : ResIs C fn s (.tup [d, d']) := by
  intro F σ w a hi hn hm hs
  obtain ⟨v, h1, h2⟩ := resX_run hi hs h
  obtain ⟨v', h1', h2'⟩ := resX_run hi hs h'
  refine ⟨.tuple #[v, v'], F, ?_, fun _ h => h, fun b hb => ⟨hi.flt b hb, hn b hb⟩, [v, v'], rfl, rfl, fun i x u hx hu => ?_⟩
  · rw [results_eq, hr]
    simp [h1, h1']
  · match i with
    | 0 => simp at hx hu; subst hx hu; exact h2
    | 1 => simp at hx hu; subst hx hu; exact h2'
    | i + 2 => simp at hx
theorem res_3 {fn : Func} {q q' q'' : ResultVar} {d d' d'' : D} (hr : fn.results = #[q, q', q'']) (h : resX C s q = some d) (h' : resX C s q' = some d') (h'' : resX C s q'' = some d'') : ResIs C fn s (.tup [d, d', d'']) := by
  intro F σ w a hi hn hm hs
  obtain ⟨v, h1, h2⟩ := resX_run hi hs h
  obtain ⟨v', h1', h2'⟩ := resX_run hi hs h'
  obtain ⟨v'', h1'', h2''⟩ := resX_run hi hs h''
  refine ⟨.tuple #[v, v', v''], F, ?_, fun _ h => h, fun b hb => ⟨hi.flt b hb, hn b hb⟩, [v, v', v''], rfl, rfl, fun i x u hx hu => ?_⟩
  · rw [results_eq, hr]
    simp [h1, h1', h1'']
  · match i with
    | 0 => simp at hx hu; subst hx hu; exact h2
    | 1 => simp at hx hu; subst hx hu; exact h2'
    | 2 => simp at hx hu; subst hx hu; exact h2''
    | i + 3 => simp at hx
end
end Go.Abs
