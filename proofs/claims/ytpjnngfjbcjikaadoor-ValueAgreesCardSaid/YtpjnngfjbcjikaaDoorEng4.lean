/- The engine's operations that yield a value: what each yields, reckoned by a plain function, and that it is so. Conditions: each operation's own ('p'), which the walk pays where it meets it. -/
import Derived.Test.YtpjnngfjbcjikaaDoorEng3
namespace Go.Abs
open Go Go.RowKit

theorem VOp.pure_ {C : Cx} {s : St} {o : Oper} {x : X} (h : ∀ F σ w (a : Act), WInv C.E C.w0.heap.size F σ s.ob w → (∀ y ∈ o.op.operands.toList, RdX w F σ (s.ev C.E y) (a.eval y)) →
    ∃ v, (execOp a.eval o).run C.E.P w = .ok (.value v) w ∧ RdX w F σ x v) : VOp C s o x := by
  intro F σ w a K Q hi ho hK
  obtain ⟨v, hr, hv⟩ := h F σ w a hi ho
  unfold Oper.wp
  rw [hr]
  exact hK v w F (Ext.refl hi.flt) hv

abbrev VR := Option (Prop × X)
def fw : X → VR
  | .d y => some (True, .d y)
  | .nilS => some (True, .nilS)
  | .tup l => some (True, .tup l)
  | .ptr o k => some (True, .ptr o k)
  | .at_ x k => some (True, .at_ x k)
  | .own o => some (True, .own o)
  | .pel o i k z => some (True, .pel o i k z)
  | .mayb p => some (True, .mayb p)
  | .und => some (True, .und)
  | .top => some (True, .top)
theorem fw_eq {y x : X} {p : Prop} (h : fw y = some (p, x)) : x = y := by cases y <;> simp [fw] at h <;> exact h.2.symm

def pickX : X → X → X → VR
  | .d (.imm (.bool c)), .d (.imm (.bool x)), .d (.imm (.bool y)) => some (True, .d (.imm (.bool (bif c then x else y))))
  | .d (.imm (.bool c)), .d (.imm (.bool x)), .und => some (c = true, .d (.imm (.bool x)))
  | .d (.imm (.bool c)), .und, .d (.imm (.bool y)) => some (c = false, .d (.imm (.bool y)))
  | _, _, _ => none

def inR : IntKind → Int → Prop
  | .i8, n => -128 ≤ n ∧ n ≤ 127
  | .i16, n => -32768 ≤ n ∧ n ≤ 32767
  | .i32, n => -2147483648 ≤ n ∧ n ≤ 2147483647
  | .i64, n => -9223372036854775808 ≤ n ∧ n ≤ 9223372036854775807
  | .u8, n => 0 ≤ n ∧ n ≤ 255
  | .u16, n => 0 ≤ n ∧ n ≤ 65535
  | .u32, n => 0 ≤ n ∧ n ≤ 4294967295
  | .u64, n => 0 ≤ n ∧ n ≤ 18446744073709551615
theorem inR_ok {k : IntKind} {n : Int} (h : inR k n) : okV (.int k n) = true := by
  cases k <;> simp only [inR] at h <;> simp [okV, IntKind.min, IntKind.max, IntKind.signed, IntKind.bits] <;> omega
theorem ok_inR {k : IntKind} {n : Int} (h : okV (.int k n) = true) : inR k n := by
  cases k <;> simp [okV, IntKind.min, IntKind.max, IntKind.signed, IntKind.bits] at h <;> simp only [inR] <;> omega
theorem inR_wrap {k : IntKind} {n : Int} (h : inR k n) : k.wrap n = n := by
  cases k <;> simp only [inR] at h <;> simp only [IntKind.wrap, IntKind.signed, IntKind.bits] <;> simp <;> omega

def cmpI (op : BinOp) (a b : Int) : Option Bool :=
  match op with
  | .eql => some (a == b)
  | .neq => some (a != b)
  | .lss => some (decide (a < b))
  | .leq => some (decide (a ≤ b))
  | .gtr => some (decide (a > b))
  | .geq => some (decide (a ≥ b))
  | _ => none
def ariI (op : BinOp) (k : IntKind) (a b : Int) : VR :=
  match op with
  | .add => some (inR k (a + b), .d (.imm (.int k (a + b))))
  | .sub => some (inR k (a - b), .d (.imm (.int k (a - b))))
  | .mul => some (inR k (a * b), .d (.imm (.int k (a * b))))
  | .quo => some (b ≠ 0 ∧ inR k (a.tdiv b), .d (.imm (.int k (a.tdiv b))))
  | .rem => some (b ≠ 0 ∧ inR k (a.tmod b), .d (.imm (.int k (a.tmod b))))
  | _ => none
def strB (op : BinOp) (x y : ByteArray) : Option Bool :=
  match op with
  | .eql => some (x.toList == y.toList)
  | .neq => some (!(x.toList == y.toList))
  | .lss => some (Op.bytesLess x.toList y.toList)
  | .leq => some (Op.bytesLess x.toList y.toList || x.toList == y.toList)
  | .gtr => some (!(Op.bytesLess x.toList y.toList || x.toList == y.toList))
  | .geq => some (!(Op.bytesLess x.toList y.toList))
  | _ => none
def isBoolT (E : Env) (t : TypeId) : Bool := match findT E.T t with | some e => (match e.desc with | .bool => true | _ => false) | none => false
def isSlT (E : Env) (t : TypeId) : Bool := match findT E.T t with | some e => (match e.desc with | .slice _ => true | _ => false) | none => false
def binX (E : Env) (op : BinOp) (t : TypeId) : X → X → VR
  | .d (.imm (.int k a)), .d (.imm (.int k' b)) => bif decide (k = k') then (match cmpI op a b with | some r => some (True, .d (.imm (.bool r))) | none => ariI op k a b) else none
  | .d (.imm (.string x)), .d (.imm (.string y)) => (match strB op x y with
    | some r => some (True, .d (.imm (.bool r)))
    | none => match op with
      | .add => some (x.size + y.size ≤ maxLen, .d (.imm (.string (x ++ y))))
      | _ => none)
  | .d (.imm (.bool a)), .d (.imm (.bool b)) => bif isBoolT E t then (match op with | .eql => some (True, .d (.imm (.bool (a == b)))) | .neq => some (True, .d (.imm (.bool (!(a == b))))) | _ => none) else none
  | .nilS, .nilS => bif isSlT E t then (match op with | .eql => some (True, .d (.imm (.bool true))) | .neq => some (True, .d (.imm (.bool false))) | _ => none) else none
  | .own _, .nilS => bif isSlT E t then (match op with | .eql => some (True, .d (.imm (.bool false))) | .neq => some (True, .d (.imm (.bool true))) | _ => none) else none
  | .d (.sl xs), .nilS => bif isSlT E t then (match op with | .eql => some (True, .mayb (xs = [])) | _ => none) else none
  | _, _ => none

def unX (op : UnOp) : X → VR
  | .d (.imm (.bool b)) => (match op with | .not => some (True, .d (.imm (.bool (!b)))) | _ => none)
  | .d (.imm (.int k n)) => (match op with | .neg => some (inR k (0 - n), .d (.imm (.int k (0 - n)))) | _ => none)
  | _ => none

def TE.isAgg (e : TE) : Bool := match e.desc with | .struct _ | .array _ _ => true | _ => false
def fieldOff (E : Env) (t : TypeId) (f : Nat) : Option Nat :=
  match findT E.T t with
  | some e => (match e.desc with
    | .struct fs => (match fs[f]? with
      | some fd => (match findT E.T fd.type with | some e2 => bif Nat.beq e2.size 0 then none else some fd.offset | none => none)
      | none => none)
    | _ => none)
  | none => none
def addX (k : Nat) : X → VR
  | .ptr o off => some (True, .ptr o (off + k))
  | .at_ x off => some (True, .at_ x (off + k))
  | .pel o i off z => some (True, .pel o i (off + k) z)
  | _ => none

def toDs : List X → Option (List D)
  | [] => some []
  | .d x :: r => (toDs r).map (x :: ·)
  | .nilS :: r => (toDs r).map (.sl [] :: ·)
  | _ => none
def loadX (E : Env) (ob : List AObj) (t : TypeId) (x : X) : VR :=
  match findT E.T t with
  | none => none
  | some e => match x with
    | .ptr o off => (match ob[o]? with
      | some (.var _ c) => bif e.isAgg then
          (match c, off with
           | .w (.d (.agg cs)), 0 => bif Nat.beq cs.length e.size then some (True, .d (.agg cs)) else none
           | c, off => match toDs ((c.cells.drop off).take e.size) with
             | some ds => bif Nat.beq ds.length e.size then some (True, .d (.agg ds)) else none
             | none => none)
        else (match c.cells[off]? with
          | some y => fw y
          | none => none)
      | _ => none)
    | .at_ y off => bif e.isAgg then
        (match off with
         | 0 => (match y with
           | .agg cs => bif Nat.beq cs.length e.size then some (True, .d (.agg cs)) else none
           | _ => none)
         | off => bif Nat.beq ((y.cells.drop off).take e.size).length e.size then some (True, .d (.agg ((y.cells.drop off).take e.size))) else none)
      else (match y.cells[off]? with
        | some c => some (True, .d c)
        | none => none)
    | _ => none

def byteAt (s : ByteArray) (i : Nat) : Int := ((s.data.toList.getD i 0).toNat : Int)
def isStrT (E : Env) (t : TypeId) : Bool := match findT E.T t with | some e => (match e.desc with | .string => true | _ => false) | none => false
def indexX (E : Env) (t : TypeId) : X → X → VR
  | .d (.imm (.string s)), .d (.imm (.int _ i)) => bif isStrT E t then some (0 ≤ i ∧ i < s.size, .d (.imm (.int .u8 (byteAt s i.toNat)))) else none
  | _, _ => none
def lenX (E : Env) (ob : List AObj) (t : TypeId) : X → VR
  | .d (.imm (.string s)) => bif isStrT E t then some (True, .d (.imm (.int .i64 s.size))) else none
  | .d (.sl xs) => bif isSlT E t then some (True, .d (.imm (.int .i64 xs.length))) else none
  | .nilS => bif isSlT E t then some (True, .d (.imm (.int .i64 0))) else none
  | .own o => (match ob[o]? with | some (.row _ _ xs) => bif isSlT E t then some (True, .d (.imm (.int .i64 xs.length))) else none | _ => none)
  | _ => none
def sliceX (E : Env) (t : TypeId) (x : X) (lo hi : Option X) : VR :=
  match x with
  | .d (.imm (.string s)) => bif isStrT E t then (match lo, hi with
    | none, some (.d (.imm (.int _ h))) => some (0 ≤ h ∧ h ≤ s.size, .d (.imm (.string (s.extract 0 h.toNat))))
    | some (.d (.imm (.int _ l))), none => some (0 ≤ l ∧ l ≤ s.size, .d (.imm (.string (s.extract l.toNat s.size))))
    | some (.d (.imm (.int _ l))), some (.d (.imm (.int _ h))) => some (0 ≤ l ∧ l ≤ h ∧ h ≤ s.size, .d (.imm (.string (s.extract l.toNat h.toNat))))
    | _, _ => none) else none
  | .d (.sl xs) => bif isSlT E t then (match lo, hi with
    | none, some (.d (.imm (.int _ h))) => some (0 ≤ h ∧ h ≤ xs.length, .d (.sl (xs.take h.toNat)))
    | some (.d (.imm (.int _ l))), none => some (0 ≤ l ∧ l ≤ xs.length, .d (.sl (xs.drop l.toNat)))
    | some (.d (.imm (.int _ l))), some (.d (.imm (.int _ h))) => some (0 ≤ l ∧ l ≤ h ∧ h ≤ xs.length, .d (.sl ((xs.take h.toNat).drop l.toNat)))
    | _, _ => none) else none
  | _ => none
def minX (mx : Bool) : X → X → VR
  | .d (.imm (.int k a)), .d (.imm (.int _ b)) => some (inR k b, .d (.imm (.int k (bif mx then max a b else min a b))))
  | _, _ => none

/-- The parts of a struct that is built: each at its field's place. -/
def placeOf (E : Env) (fs : Array Field) (i : Nat) : Option (Nat × Nat) :=
  match fs[i]? with
  | some fd => (match findT E.T fd.type with | some e => some (fd.offset, e.size) | none => none)
  | none => none
def toD : X → Option D
  | .d x => some x
  | .nilS => some (.sl [])
  | _ => none
def setAll : List D → Nat → List D → List D
  | cs, _, [] => cs
  | cs, k, d :: r => setAll (cs.set k d) (k + 1) r
def fillX (E : Env) (fs : Array Field) (s : St) : List (Nat × Operand) → List D → Option (List D)
  | [], cs => some cs
  | (i, x) :: r, cs => match placeOf E fs i with
    | none => none
    | some (off, size) => match toD (s.ev E x) with
      | none => none
      | some d => bif Nat.beq d.cells.length size && Nat.ble (off + d.cells.length) cs.length then fillX E fs s r (setAll cs off d.cells) else none
def zeroDs : List Value → Option (List D)
  | [] => some []
  | v :: r => match toD (ofConst v) with
    | some d => (zeroDs r).map (d :: ·)
    | none => none
def allPlaces (E : Env) (fs : List Field) : Bool := fs.all fun fd => (findT E.T fd.type).isSome
def buildX (E : Env) (s : St) (t : TypeId) (parts : List (Nat × Operand)) : VR :=
  match findT E.T t with
  | some e => (match e.desc with
    | .struct fs => bif allPlaces E fs.toList then (match zeroDs e.zero.cells.toList with
      | some zs => (match fillX E fs s parts zs with
        | some cs => some (True, .d (.agg cs))
        | none => none)
      | none => none) else none
    | _ => none)
  | none => none
end Go.Abs
