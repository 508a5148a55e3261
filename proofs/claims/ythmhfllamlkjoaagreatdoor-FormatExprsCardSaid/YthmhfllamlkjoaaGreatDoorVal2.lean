/- Values as plain trees, how they are written as data, and what the functions of layers 1, 3 and 4 come to. Conditions: none; plain definitions and lemmas. -/
import Derived.Test.YthmhfllamlkjoaaGreatDoorGC
namespace Go.Val
open Go Go.Abs

/-- A value: its kind, its two numbers, its string, its elements. -/
inductive V where
  | mk (k n d : Int) (s : ByteArray) (l : List V)
  deriving Inhabited
def V.k : V → Int | .mk k _ _ _ _ => k
def V.n : V → Int | .mk _ n _ _ _ => n
def V.d : V → Int | .mk _ _ d _ _ => d
def V.s : V → ByteArray | .mk _ _ _ s _ => s
def V.l : V → List V | .mk _ _ _ _ l => l
theorem V.eta (v : V) : V.mk v.k v.n v.d v.s v.l = v := by cases v; rfl

mutual
def kids : V → List D
  | .mk _ _ _ _ l => encL l
def encL : List V → List D
  | [] => []
  | v :: r => .agg [.int v.k, .int v.n, .int v.d, .str v.s, .sl (kids v)] :: encL r
end
def enc (v : V) : D := .agg [.int v.k, .int v.n, .int v.d, .str v.s, .sl (kids v)]
theorem encL_map (l : List V) : encL l = l.map enc := by
  induction l with
  | nil => simp [encL]
  | cons v r ih => simp [encL, ih, enc]
theorem kids_eq (v : V) : kids v = v.l.map enc := by
  cases v
  simp [kids, encL_map, V.l]
theorem kids_get {v : V} {i : Nat} {x : V} (h : v.l[i]? = some x) : (kids v)[i]? = some (enc x) := by
  rw [kids_eq, List.getElem?_map, h]; rfl
theorem encL_get {l : List V} {i : Nat} {x : V} (h : l[i]? = some x) : (encL l)[i]? = some (enc x) := by
  rw [encL_map, List.getElem?_map, h]; rfl
theorem kids_len (v : V) : (kids v).length = v.l.length := by rw [kids_eq]; simp
theorem encL_len (l : List V) : (encL l).length = l.length := by rw [encL_map]; simp
def encR (l : List (List V)) : List D := l.map fun r => .sl (encL r)

theorem fit_enc {v : V} (h : Fit (enc v)) : inR .i64 v.k ∧ inR .i64 v.n ∧ inR .i64 v.d ∧ v.s.size ≤ 9223372036854775807 ∧ v.l.length ≤ 9223372036854775807 ∧ ∀ x ∈ v.l, Fit (enc x) := by
  have hc := h.aggs
  have h5 := (hc (.sl (kids v)) (by simp)).sls
  rw [kids_len] at h5
  refine ⟨(hc (.int v.k) (by simp)).int, (hc (.int v.n) (by simp)).int, (hc (.int v.d) (by simp)).int, (hc (.str v.s) (by simp)).str, h5.1, fun x hx => h5.2 _ ?_⟩
  rw [kids_eq]
  exact List.mem_map_of_mem hx
theorem fit_encL {l : List V} (h : Fit (.sl (encL l))) : l.length ≤ 9223372036854775807 ∧ ∀ x ∈ l, Fit (enc x) := by
  have h5 := h.sls
  rw [encL_len] at h5
  refine ⟨h5.1, fun x hx => h5.2 _ ?_⟩
  rw [encL_map]
  exact List.mem_map_of_mem hx
/-! ## Layer 1 and layer 3 -/
def inM (n : Int) : Bool := decide (n ≥ -1000000000000000) && decide (n ≤ 1000000000000000)
theorem inM_iff (n : Int) : inM n = true ↔ -1000000000000000 ≤ n ∧ n ≤ 1000000000000000 := by simp [inM]
def gcdF (a b : Int) : Int := bif inM a && inM b then (Int.gcd a b : Int) else 0
def fval (n d : Int) : Bool := decide (d ≥ 1) && (decide (d ≤ 1000000000000000) && (inM n && ((Int.gcd n d : Int) == 1)))
/-! ## Layer 4: Kleene's logic -/
def kn (t : Int) : Int := bif (t == 0) || (t == 2) then t else 1
theorem kn_cases (t : Int) : kn t = 0 ∨ kn t = 1 ∨ kn t = 2 := by
  unfold kn
  cases h : (t == 0) || (t == 2) with
  | false => simp
  | true => simp at h; simp only [cond_true]; omega
def tt (b : Bool) : Int := bif b then 2 else 0
def vBool (b : Bool) : V := .mk 1 (bif b then 1 else 0) 0 ⟨#[]⟩ []
def vInt (n : Int) : V := .mk 2 n 0 ⟨#[]⟩ []
def vRat (n d : Int) : V := bif d == 1 then vInt n else .mk 3 n d ⟨#[]⟩ []
def vStr (s : ByteArray) : V := .mk 4 0 0 s []
def vNode (n : Int) : V := .mk 5 n 0 ⟨#[]⟩ []
def vEdge (n : Int) : V := .mk 6 n 0 ⟨#[]⟩ []
def vNull : V := .mk 0 0 0 ⟨#[]⟩ []
/-! ## Which values are valid -/
def s0 (s : ByteArray) : Bool := s.toList == (⟨#[]⟩ : ByteArray).toList
def strOK (s : ByteArray) : Bool := s.data.toList.all (fun b => !(decide (b.toNat < 32) || decide (b.toNat > 126))) && decide (s.size ≤ 100)
def okFlat (v : V) : Bool :=
  (v.k == 0 && (v.d == 0 && s0 v.s && v.l.length == 0) && v.n == 0) ||
  (v.k == 1 && (v.d == 0 && s0 v.s && v.l.length == 0) && (v.n == 0 || v.n == 1)) ||
  (v.k == 2 && (v.d == 0 && s0 v.s && v.l.length == 0) && inM v.n) ||
  (v.k == 3 && (s0 v.s && v.l.length == 0) && (decide (v.d ≥ 2) && fval v.n v.d)) ||
  (v.k == 4 && (v.d == 0 && v.l.length == 0) && (v.n == 0 && strOK v.s)) ||
  ((v.k == 5 || v.k == 6) && (v.d == 0 && s0 v.s && v.l.length == 0) && (decide (v.n ≥ 1) && decide (v.n ≤ 1000000)))
def okStep (i : Nat) (v : V) : Bool := v.k == (bif i % 2 == 0 then 5 else 6) && okFlat v
def okSteps : Nat → List V → Bool
  | _, [] => true
  | i, v :: r => okStep i v && okSteps (i + 1) r
def okPath (l : List V) : Bool := l.length % 2 == 1 && decide (l.length ≤ 25) && okSteps 0 l
/-- Valid where so many more lists may be nested. -/
def okN : Nat → V → Bool
  | 0, v => okFlat v || (v.k == 7 && (v.d == 0 && s0 v.s) && (v.n == 0 && okPath v.l))
  | m + 1, v => okFlat v || (v.k == 7 && (v.d == 0 && s0 v.s) && (v.n == 0 && okPath v.l)) || (v.k == 8 && (v.d == 0 && s0 v.s) && (v.n == 0 && decide (v.l.length ≤ 64) && v.l.all (okN m)))
def okV (v : V) : Bool := okN 8 v
def plainF (v : V) : Bool := (v.k == 1 || v.k == 2 || v.k == 4) && okV v
def isNum (v : V) : Bool := (v.k == 2 || v.k == 3) && okV v
def numN (v : V) : Int := bif isNum v then v.n else 0
def numD (v : V) : Int := bif isNum v then (bif v.k == 2 then 1 else v.d) else 0
def truthF (v : V) : Int := bif v.k == 1 && okV v then tt (v.n == 1) else 1
def vTruth (t : Int) : V := bif kn t == 1 then vNull else vBool (t == 2)
end Go.Val
