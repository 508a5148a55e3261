/- Conversions, given results of arithmetic that wraps, sub-slices; and one step for all operations of the engine. Conditions: each operation's own. -/
import Derived.Test.YtpjnngfjbcjikaaDoorEng12
namespace Go.Abs
open Go Go.RowKit

section
variable {C : Cx} {s : St} {o : Oper} {x : X} {p : Prop}

def descOf (E : Env) (t : TypeId) : Option TypeDesc := match findT E.T t with | some e => some e.desc | none => none
theorem descOf_ok {E : Env} {t : TypeId} {d : TypeDesc} (h : descOf E t = some d) : E.P.underlying t = some d := by
  unfold descOf at h
  split at h
  · rename_i e he
    cases h
    obtain ⟨hok, rfl⟩ := findT_ok he
    exact hok.1
  · cases h
def u8s : List D → Option (List Int)
  | [] => some []
  | .imm (.int .u8 n) :: r => (match u8s r with
    | some ns => some (n :: ns)
    | none => none)
  | _ => none
theorem u8s_ok : ∀ {xs : List D} {ns : List Int}, u8s xs = some ns → xs = ns.map fun n => .imm (.int .u8 n)
  | [], ns, h => by simp only [u8s] at h; cases h; rfl
  | .imm (.int .u8 n) :: r, ns, h => by
    simp only [u8s] at h
    split at h
    · rename_i ns' h'
      cases h
      rw [u8s_ok h']
      rfl
    · cases h
def strOf (ns : List Int) : ByteArray := ns.foldl (fun r n => r.push (UInt8.ofNat n.toNat)) ByteArray.empty
theorem strOf_size (ns : List Int) : (strOf ns).size = ns.length := by
  have key : ∀ (ns : List Int) (b : ByteArray), (ns.foldl (fun r n => r.push (UInt8.ofNat n.toNat)) b).size = b.size + ns.length := by
    intro ns
    induction ns with
    | nil => intro b; rfl
    | cons n r ih =>
      intro b
      rw [List.foldl_cons, ih]
      simp only [ByteArray.size_push, List.length_cons]
      omega
  unfold strOf
  rw [key]
  simp
def convX (E : Env) (src dst : TypeId) : X → VR
  | .d (.imm (.int _ n)) => (match descOf E src, descOf E dst with
    | some _, some (.int k) => some (inR k n, .d (.imm (.int k n)))
    | _, _ => none)
  | .d (.imm (.string b)) => (match descOf E src, descOf E dst with
    | some .string, some .string => some (True, .d (.imm (.string b)))
    | _, _ => none)
  | .d (.sl xs) => (match descOf E src, descOf E dst with
    | some (.slice e), some .string => (match descOf E e with
      | some (.int .u8) => (match u8s xs with
        | some ns => some (True, .d (.imm (.string (strOf ns))))
        | none => none)
      | _ => none)
    | _, _ => none)
  | _ => none

theorem bytes_run {w : World} {F : Nat → Prop} {P : Program} {ns : List Int} {v : Value} {src dst e : TypeId} (hs : P.underlying src = some (.slice e)) (he : P.underlying e = some (.int .u8)) (hd : P.underlying dst = some .string)
    (h : Rd w F (.sl (ns.map fun n => .imm (.int .u8 n))) v) : (convert src dst v).run P w = .ok (.string (strOf ns)) w ∧ ns.length ≤ maxLen := by
  rcases Rd.sl_inv h with ⟨h0, rfl⟩ | ⟨size, ad, cap, rfl, h1, h2, h3, h4, h5, h6⟩
  · have : ns = [] := by simpa using h0
    subst this
    refine ⟨?_, by simp⟩
    simp only [convert, Sem.run_bind, run_underlying hs, run_underlying hd, Result.andThen_ok, run_underlying he, Conv.bytesToString, Sem.run_pure]
    rfl
  · simp only [List.length_map] at h1
    refine ⟨?_, by omega⟩
    have hl := run_loadCells_list (P := P) (w := w) ad (ns.map (Value.int .u8)) (fun j v hj => by
      rw [List.getElem?_map, Option.map_eq_some_iff] at hj
      obtain ⟨n, hn, rfl⟩ := hj
      have hx : (ns.map fun n => D.imm (.int .u8 n))[j]? = some (.imm (.int .u8 n)) := by rw [List.getElem?_map, hn]; rfl
      have hsz : size = 1 := (h4 _ (List.mem_of_getElem? hx)).symm
      obtain ⟨u, e1, e2⟩ := h6 j _ 0 _ hx rfl
      obtain ⟨rfl, -⟩ := Rd.imm_inv e2
      rw [hsz, Nat.mul_one, Nat.add_zero] at e1
      exact e1)
    simp only [List.length_map] at hl
    simp only [convert, Sem.run_bind, run_underlying hs, run_underlying hd, Result.andThen_ok, run_underlying he, List.length_map]
    exact run_bytesToString w ad ns.length cap ns hl

theorem v_conv {src dst : TypeId} {y : Operand} (ho : o.op = .convert src dst y) (h : convX C.E src dst (s.ev C.E y) = some (p, x)) (hp : p) : VOp C s o x := by
  refine VOp.pure_ fun F σ w a hi hr => ?_
  have hy := hr y (by simp [ho, Op.operands])
  have key : ∀ v, (convert src dst (a.eval y)).run C.E.P w = .ok v w → (execOp a.eval o).run C.E.P w = .ok (.value v) w := by
    intro v hv
    simp [execOp, ho, hv]
  generalize s.ev C.E y = xy at *
  unfold convX at h
  split at h
  · rename_i k n
    obtain ⟨e1, -⟩ := Rd.imm_inv hy
    split at h
    · rename_i d k' hs hd
      obtain ⟨rfl, rfl⟩ := Prod.mk.inj (Option.some.inj h)
      refine ⟨_, key (.int k' n) ?_, Rd.imm _ (inR_ok hp)⟩
      rw [e1]
      simp only [convert, Sem.run_bind, run_underlying (descOf_ok hs), run_underlying (descOf_ok hd), Result.andThen_ok, Conv.intToInt, inR_wrap hp]
      rfl
    · cases h
  · rename_i b
    obtain ⟨e1, e2⟩ := Rd.imm_inv hy
    split at h
    · rename_i hs hd
      obtain ⟨rfl, rfl⟩ := Prod.mk.inj (Option.some.inj h)
      refine ⟨_, key (.string b) ?_, Rd.imm _ e2⟩
      rw [e1]
      simp only [convert, Sem.run_bind, run_underlying (descOf_ok hs), run_underlying (descOf_ok hd), Result.andThen_ok]
      rfl
    · cases h
  · rename_i xs
    split at h
    · rename_i e hs hd
      split at h
      · rename_i he
        split at h
        · rename_i ns hns
          obtain ⟨rfl, rfl⟩ := Prod.mk.inj (Option.some.inj h)
          rw [u8s_ok hns] at hy
          obtain ⟨r1, r2⟩ := bytes_run (descOf_ok hs) (descOf_ok he) (descOf_ok hd) hy
          exact ⟨_, key _ r1, Rd.imm _ (by simp only [okV, decide_eq_true_eq, strOf_size]; exact r2)⟩
        · cases h
      · cases h
    · cases h
  · cases h

/-- Results that are told: operations whose arithmetic wraps. -/
theorem v_convR {src dst : TypeId} {y : Operand} {v r : Value} (ho : o.op = .convert src dst y) (hy' : s.ev C.E y = .d (.imm v)) (h : ∀ w, (convert src dst v).run C.E.P w = .ok r w) (hok : okV r = true) : VOp C s o (.d (.imm r)) := by
  refine VOp.pure_ fun F σ w a hi hr => ?_
  have hy := hr y (by simp [ho, Op.operands])
  rw [hy'] at hy
  obtain ⟨e1, -⟩ := Rd.imm_inv hy
  exact ⟨r, by simp [execOp, ho, e1, h w], Rd.imm _ hok⟩
theorem v_unR {op : UnOp} {t : TypeId} {y : Operand} {v r : Value} (ho : o.op = .unOp op t y) (hy' : s.ev C.E y = .d (.imm v)) (h : ∀ w, (Op.unary op v).run C.E.P w = .ok r w) (hok : okV r = true) : VOp C s o (.d (.imm r)) := by
  refine VOp.pure_ fun F σ w a hi hr => ?_
  have hy := hr y (by simp [ho, Op.operands])
  rw [hy'] at hy
  obtain ⟨e1, -⟩ := Rd.imm_inv hy
  exact ⟨r, by simp [execOp, ho, e1, h w], Rd.imm _ hok⟩
theorem v_binR {op : BinOp} {t u : TypeId} {y z : Operand} {v v' r : Value} (ho : o.op = .binOp op t y z u) (hy' : s.ev C.E y = .d (.imm v)) (hz' : s.ev C.E z = .d (.imm v')) (hn : v ≠ .nilIface) (hc : ∀ cs, v ≠ .agg cs)
    (h : ∀ w, (binOp op t v v').run C.E.P w = .ok r w) (hok : okV r = true) : VOp C s o (.d (.imm r)) := by
  refine VOp.pure_ fun F σ w a hi hr => ?_
  have hy := hr y (by simp [ho, Op.operands])
  have hz := hr z (by simp [ho, Op.operands])
  rw [hy'] at hy
  rw [hz'] at hz
  obtain ⟨e1, -⟩ := Rd.imm_inv hy
  obtain ⟨e2, -⟩ := Rd.imm_inv hz
  exact ⟨r, by simp [execOp, ho, e1, e2, eqGuard_run hn hc, h w], Rd.imm _ hok⟩
def nnil : X → Bool
  | .ptr _ _ | .at_ _ _ | .pel _ _ _ _ | .d (.imm (.func _ _ _)) => true
  | _ => false
theorem v_nilCheck {y : Operand} (ho : o.op = .nilCheck y) (h : nnil (s.ev C.E y) = true) : VOp C s o (s.ev C.E y) := by
  refine VOp.pure_ fun F σ w a hi hr => ?_
  have hy := hr y (by simp [ho, Op.operands])
  have key : (∃ ad, a.eval y = .pointer (some ad)) → ∃ v, (execOp a.eval o).run C.E.P w = .ok (.value v) w ∧ RdX w F σ (s.ev C.E y) v := by
    rintro ⟨ad, e⟩
    exact ⟨a.eval y, by simp [execOp, ho, e], hy⟩
  revert key hy
  unfold nnil at h
  split at h
  · rename_i e; rw [e]; intro hy key; obtain ⟨b, c, n, -, e⟩ := hy; exact key ⟨_, e⟩
  · rename_i e; rw [e]; intro hy key; obtain ⟨ad, -, e⟩ := hy; exact key ⟨_, e⟩
  · rename_i e; rw [e]; intro hy key; obtain ⟨b, c, n, -, e⟩ := hy; exact key ⟨_, e⟩
  · rename_i fn f b e
    rw [e]
    intro hy _
    obtain ⟨e1, hk⟩ := Rd.imm_inv hy
    cases fn with
    | func g => exact ⟨_, by simp [execOp, ho, e1], Rd.imm _ hk⟩
    | _ => simp [okV] at hk
  · cases h

def elemOK (E : Env) (t : TypeId) (x : X) : Prop :=
  match x with
  | .d (.sl xs) => ∃ te, elemT E t = some te ∧ ∀ d ∈ xs, d.cells.length = te.size
  | _ => True

/-- More operations that yield a value. -/
def vop2 (C : Cx) (s : St) (o : Oper) : VR :=
  match o.op with
  | .slice t y lo hi none => (match sliceX C.E t (s.ev C.E y) (lo.map (s.ev C.E)) (hi.map (s.ev C.E)) with
    | some (p, x) => some (p ∧ elemOK C.E t (s.ev C.E y), x)
    | none => none)
  | .convert src dst y => convX C.E src dst (s.ev C.E y)
  | .buildSlice t n parts => (match elemT C.E t with
    | some te => (match partsX C.E s te.size 0 parts.toList with
      | some ds => bif Nat.beq n ds.length && (Nat.ble (n * te.size) 16777216 && Nat.ble n 16777216) then some (True, .d (.sl ds)) else none
      | none => none)
    | none => none)
  | .indexAddr t y z => (match s.ev C.E y, s.ev C.E z, elemT C.E t with
    | .own k, .d (.imm (.int _ i)), some te => (match s.ob[k]? with
      | some (.row e size xs) => bif Nat.beq e te.t && Nat.beq size te.size then some (0 ≤ i ∧ i < xs.length, .pel k i.toNat 0 te.size) else none
      | _ => none)
    | _, _, _ => none)
  | .nilCheck y => bif nnil (s.ev C.E y) then some (True, s.ev C.E y) else none
  | _ => none
theorem vop2_ok (h : vop2 C s o = some (p, x)) (hp : p) : VOp C s o x := by
  unfold vop2 at h
  split at h
  · rename_i t y lo hi ho
    split at h
    · rename_i q x' hq
      obtain ⟨rfl, rfl⟩ := Prod.mk.inj (Option.some.inj h)
      refine v_slice ho (fun xs hx => ?_) hq hp.1
      have := hp.2
      rw [hx] at this
      exact this
    · cases h
  · exact v_conv ‹_› h hp
  · rename_i t n parts ho
    obtain ⟨parts⟩ := parts
    split at h
    · rename_i te hte
      split at h
      · rename_i ds hds
        cases hb : Nat.beq n ds.length && (Nat.ble (n * te.size) 16777216 && Nat.ble n 16777216) with
        | false => rw [hb] at h; cases h
        | true =>
          rw [hb] at h
          obtain ⟨rfl, rfl⟩ := Prod.mk.inj (Option.some.inj h)
          rw [Bool.and_eq_true, Bool.and_eq_true] at hb
          exact v_buildSlice ho hte hds (Nat.eq_of_beq_eq_true hb.1) (Nat.le_of_ble_eq_true hb.2.1) (Nat.le_of_ble_eq_true hb.2.2)
      · cases h
    · cases h
  · rename_i t y z ho
    split at h
    · rename_i k kd i te hy hz hte
      split at h
      · rename_i e size xs hob
        cases hb : Nat.beq e te.t && Nat.beq size te.size with
        | false => rw [hb] at h; cases h
        | true =>
          rw [hb] at h
          obtain ⟨rfl, rfl⟩ := Prod.mk.inj (Option.some.inj h)
          rw [Bool.and_eq_true] at hb
          obtain rfl := Nat.eq_of_beq_eq_true hb.1
          obtain rfl := Nat.eq_of_beq_eq_true hb.2
          exact v_indexOwn ho hy hz hob hte hp.1 hp.2
      · cases h
    · cases h
  · rename_i y ho
    cases hb : nnil (s.ev C.E y) with
    | false => rw [hb] at h; cases h
    | true =>
      rw [hb] at h
      obtain ⟨rfl, rfl⟩ := Prod.mk.inj (Option.some.inj h)
      exact v_nilCheck ho hb
  · cases h

def ownOf (ob : List AObj) (te : TE) : X → Option (Option Nat × List D)
  | .nilS => some (none, [])
  | .own i => (match ob[i]? with
    | some (.row e size xs) => bif Nat.beq e te.t && Nat.beq size te.size then some (some i, xs) else none
    | _ => none)
  | _ => none
/-- More operations that turn the state. -/
def sop2 (C : Cx) (o : Oper) (tm : List (Nat × X)) (ob : List AObj) : Option (Prop × List (Nat × X) × List AObj) :=
  match o.op with
  | .makeSlice t y z => (match o.dst, elemT C.E t, (⟨tm, ob⟩ : St).ev C.E y, (⟨tm, ob⟩ : St).ev C.E z with
    | some d, some te, .d (.imm (.int _ (.ofNat n))), .d (.imm (.int _ (.ofNat m))) => (match zeroD te with
      | some z => bif Nat.blt d C.N && (oneAll te.zero.cells.toList && Nat.beq te.zero.cells.size te.size) then
          some (n = m ∧ te.bytes * n ≤ 281474976710656 ∧ n ≤ 9223372036854775807, (d, .own ob.length) :: tm, ob ++ [.row te.t te.size (List.replicate n z)]) else none
      | none => none)
    | _, _, _, _ => none)
  | .call c => (match c.callee with
    | .builtin .append => (match o.dst, c.args.toList, c.argTypes.toList with
      | some d, [y, z], [t, t'] => (match elemT C.E t, (⟨tm, ob⟩ : St).ev C.E z with
        | some te, .d (.sl ys) => (match ownOf ob te ((⟨tm, ob⟩ : St).ev C.E y) with
          | some (oi, xs) => bif Nat.blt d C.N && (Nat.beq t t' && (Nat.beq te.zero.cells.size te.size && Nat.blt 0 te.size)) then
              some (ys ≠ [] ∧ (∀ d ∈ ys, d.cells.length = te.size) ∧ (xs.length + ys.length) * te.bytes ≤ 140737488355328 ∧ xs.length + ys.length ≤ 9223372036854775807,
                (d, .own ob.length) :: tm, (match oi with | some i => ob.set i .dead | none => ob) ++ [.row te.t te.size (xs ++ ys)]) else none
          | none => none)
        | _, _ => none)
      | _, _, _ => none)
    | _ => none)
  | _ => none
theorem sop2_ok {tm tm' : List (Nat × X)} {ob ob' : List AObj} (h : sop2 C o tm ob = some (p, tm', ob')) (hp : p) : SOp C ⟨tm, ob⟩ o ⟨tm', ob'⟩ := by
  unfold sop2 at h
  split at h
  · rename_i t y z ho
    split at h
    · rename_i d te ky n kz m hdst hte hy hz
      split at h
      · rename_i zd hzd
        cases hb : Nat.blt d C.N && (oneAll te.zero.cells.toList && Nat.beq te.zero.cells.size te.size) with
        | false => rw [hb] at h; cases h
        | true =>
          rw [hb] at h
          simp only [cond_true, Option.some.injEq, Prod.mk.injEq] at h
          obtain ⟨rfl, rfl, rfl⟩ := h
          rw [Bool.and_eq_true, Bool.and_eq_true] at hb
          obtain ⟨rfl, h1, h2⟩ := hp
          have := s_make (s := ⟨tm, ob⟩) (n := n) ho hte hy hz hzd hb.2.1 (Nat.eq_of_beq_eq_true hb.2.2) h1 h2 (by simp only [dstOK, hdst]; exact hb.1)
          rw [hdst] at this
          exact this
      · cases h
    · cases h
  · rename_i c ho
    obtain ⟨ce, args, tys⟩ := c
    obtain ⟨args⟩ := args
    obtain ⟨tys⟩ := tys
    simp only at h
    split at h
    · split at h
      · rename_i d y z t t' hdst
        split at h
        · rename_i te ys hte hz
          split at h
          · rename_i oi xs hown
            cases hb : Nat.blt d C.N && (Nat.beq t t' && (Nat.beq te.zero.cells.size te.size && Nat.blt 0 te.size)) with
            | false => rw [hb] at h; cases h
            | true =>
              rw [hb] at h
              simp only [cond_true, Option.some.injEq, Prod.mk.injEq] at h
              obtain ⟨rfl, rfl, rfl⟩ := h
              rw [Bool.and_eq_true, Bool.and_eq_true, Bool.and_eq_true] at hb
              obtain ⟨h1, h2, h3, h4⟩ := hp
              obtain rfl := Nat.eq_of_beq_eq_true hb.2.1
              have hs0 : 0 < te.size := by simpa using hb.2.2.2
              have hy : (oi = none ∧ (⟨tm, ob⟩ : St).ev C.E y = .nilS ∧ xs = []) ∨ ∃ i, oi = some i ∧ (⟨tm, ob⟩ : St).ev C.E y = .own i ∧ ob[i]? = some (.row te.t te.size xs) := by
                unfold ownOf at hown
                split at hown
                · rename_i e; cases hown; exact .inl ⟨rfl, e, rfl⟩
                · rename_i i e
                  split at hown
                  · rename_i e' size' xs' hob
                    cases hb' : Nat.beq e' te.t && Nat.beq size' te.size with
                    | false => rw [hb'] at hown; cases hown
                    | true =>
                      rw [hb'] at hown
                      simp only [cond_true, Option.some.injEq, Prod.mk.injEq] at hown
                      obtain ⟨rfl, rfl⟩ := hown
                      rw [Bool.and_eq_true] at hb'
                      obtain rfl := Nat.eq_of_beq_eq_true hb'.1
                      obtain rfl := Nat.eq_of_beq_eq_true hb'.2
                      exact .inr ⟨i, rfl, e, hob⟩
                  · cases hown
                · cases hown
              have := s_append (s := ⟨tm, ob⟩) ho hte hy hz h1 h2 (Nat.eq_of_beq_eq_true hb.2.2.1) hs0 h3 h4 (by simp only [dstOK, hdst]; exact hb.1)
              rw [hdst] at this
              exact this
          · cases h
        · cases h
      · cases h
    · cases h
  · cases h

/-- One operation of a region, reckoned. -/
def stepY (C : Cx) (all : Array Oper) (pu : Bool) (o : Oper) (tm : List (Nat × X)) (ob : List AObj) : Option (Prop × List (Nat × X) × List AObj) :=
  match guardX all tm o with
  | some true => (match vop2 C ⟨tm, ob⟩ o with
    | some (p, x) => (match o.dst with
      | some d => bif Nat.blt d C.N then some (p, (d, x) :: tm, ob) else none
      | none => none)
    | none => (match pu with
      | true => stepX C all pu o tm ob
      | false => (match sop2 C o tm ob with
        | some r => some r
        | none => stepX C all pu o tm ob)))
  | _ => stepX C all pu o tm ob
theorem qS {all : Array Oper} {pu : Bool} {K : St → Prop} {rest : List Oper} {tm tm' : List (Nat × X)} {ob ob' : List AObj} (hv : stepY C all pu o tm ob = some (p, tm', ob')) (hp : p) (h : SGo C all pu rest ⟨tm', ob'⟩ K) :
    SGo C all pu (o :: rest) ⟨tm, ob⟩ K := by
  unfold stepY at hv
  split at hv
  · rename_i hg
    split at hv
    · rename_i q x hx
      split at hv
      · rename_i d hd
        cases hN : Nat.blt d C.N with
        | false => rw [hN] at hv; cases hv
        | true =>
          rw [hN] at hv
          simp only [cond_true, Option.some.injEq, Prod.mk.injEq] at hv
          obtain ⟨rfl, rfl, rfl⟩ := hv
          refine SGo.vop (guardX_ok hg) (by simp only [dstOK, hd]; exact hN) (vop2_ok hx hp) ?_
          rw [hd]
          exact h
      · cases hv
    · split at hv
      · exact go_step hv hp h
      · split at hv
        · rename_i r hr
          cases hv
          exact SGo.eff (guardX_ok hg) (sop2_ok hr hp) h
        · exact go_step hv hp h
  · exact go_step hv hp h

section
variable {all : Array Oper} {pu : Bool} {K : St → Prop} {rest : List Oper} {tm : List (Nat × X)} {ob : List AObj} {d : Nat}
theorem go_vopG {y : X} (hg : guardX all tm o = some true) (hdst : o.dst = some d) (hd : Nat.blt d C.N = true) (hv : VOp C ⟨tm, ob⟩ o y) (h : SGo C all pu rest ⟨(d, y) :: tm, ob⟩ K) : SGo C all pu (o :: rest) ⟨tm, ob⟩ K := by
  refine SGo.vop (guardX_ok hg) (by simp only [dstOK, hdst]; exact hd) hv ?_
  rw [hdst]
  exact h
/-- A guard that is known by a fact at hand. -/
theorem qX {j t : Nat} {pol b b' : Bool} {q : Oper} (_hg : o.guard = some (j, pol)) (_hj : all[j]? = some q) (_hq : q.dst = some t) (hb : lk tm t = .d (.imm (.bool b))) (he : b = b')
    (h : SGo C all pu (o :: rest) ⟨(t, .d (.imm (.bool b'))) :: tm, ob⟩ K) : SGo C all pu (o :: rest) ⟨tm, ob⟩ K := by
  subst he
  refine SGo.same (s1 := ⟨(t, .d (.imm (.bool b))) :: tm, ob⟩) ⟨fun u => ?_, rfl⟩ h
  simp only [lk]
  cases hbq : Nat.beq t u with
  | true => obtain rfl := Nat.eq_of_beq_eq_true hbq; exact hb.symm
  | false => rfl
/-- A load of an element of a row of the call's own; the element is told. -/
theorem qW {t te : TypeId} {y : Operand} {i k off size : Nat} {xs : List D} (e : D) (ho : o.op = .load t y) (hg : guardX all tm o = some true) (hdst : o.dst = some d) (hd : Nat.blt d C.N = true)
    (hy : (⟨tm, ob⟩ : St).ev C.E y = .pel k i off size) (hob : ob[k]? = some (.row te size xs)) (he : xs[i]? = some e) (hl : loadX C.E ob t (.at_ e off) = some (p, x)) (h : SGo C all pu rest ⟨(d, x) :: tm, ob⟩ K) : SGo C all pu (o :: rest) ⟨tm, ob⟩ K :=
  go_vopG hg hdst hd (v_loadP ho hy hob he hl) h
/-- A store into an element of a row of the call's own; what the element was is told. -/
theorem qZ {t te : TypeId} {y z : Operand} {k i off size : Nat} {xs : List D} {v : D} {tt : TE} (e : D) (ho : o.op = .store t y z) (hg : guardX all tm o = some true) (hdst : o.dst = none) (hy : (⟨tm, ob⟩ : St).ev C.E y = .pel k i off size) (hz : toD ((⟨tm, ob⟩ : St).ev C.E z) = some v)
    (hob : ob[k]? = some (.row te size xs)) (he : xs[i]? = some e) (ht : findT C.E.T t = some tt) (hsz : Nat.beq v.cells.length tt.size = true) (hle : Nat.ble (off + v.cells.length) e.cells.length = true)
    (h : SGo C all false rest ⟨tm, ob.set k (.row te size (xs.set i (subD e off v)))⟩ K) : SGo C all false (o :: rest) ⟨tm, ob⟩ K :=
  SGo.eff (guardX_ok hg) (s_storeP ho hdst hy hz hob he ht hsz hle) h
end
/-- A row that nobody writes any more. -/
theorem go_frz {c : Code} {r : List It} {Q : Exit → St → Prop} {tm : List (Nat × X)} {ob : List AObj} {s' : St} (k : Nat) (h : frz k ⟨tm, ob⟩ = some s') (hg : go C (.code c :: r) s' Q) : go C (.code c :: r) ⟨tm, ob⟩ Q := go_weaken (frz_le k h) hg
end

/-! ## What every readable datum keeps to -/
inductive Fit : D → Prop
  | imm (v : Value) (h : okV v = true) : Fit (.imm v)
  | agg (cs : List D) (h : ∀ c ∈ cs, Fit c) : Fit (.agg cs)
  | sl (xs : List D) (hl : xs.length ≤ maxLen) (h : ∀ x ∈ xs, Fit x) : Fit (.sl xs)
theorem fit_cells {x : D} (h : ∀ c ∈ x.cells, Fit c) : Fit x := by
  cases x with
  | agg cs => exact .agg cs h
  | imm v => exact h _ (by simp [D.cells])
  | sl xs => exact h _ (by simp [D.cells])
theorem Rd.fit {w : World} {F : Nat → Prop} {d : D} {v : Value} (h : Rd w F d v) : Fit d := by
  induction h with
  | imm v h => exact .imm v h
  | agg cs vs hl hc h ih =>
    refine .agg cs fun c hc' => ?_
    obtain ⟨i, hi⟩ := List.getElem?_of_mem hc'
    have hlt : i < vs.length := by rw [← hl]; exact (List.getElem?_eq_some_iff.1 hi).1
    exact ih i c _ hi (List.getElem?_eq_getElem hlt)
  | slnil => exact .sl [] (by simp) (by simp)
  | sl size xs ad cap u hc hm hF hz ho hcell hrd ih =>
    refine .sl xs (Nat.le_trans hc hm) fun x hx => fit_cells fun c hc => ?_
    obtain ⟨i, hi⟩ := List.getElem?_of_mem hx
    obtain ⟨j, hj⟩ := List.getElem?_of_mem hc
    exact ih i x j c hi hj
/-- A contract may take it that its arguments can be read. -/
theorem Ev.fit {E : Env} {f : FuncId} {ds : List D} {r : X} (h : (∀ d ∈ ds, Fit d) → Ev E f ds r) : Ev E f ds r := by
  intro w F vs hF hG hl hr
  refine h (fun d hd => ?_) w F vs hF hG hl hr
  obtain ⟨i, hi⟩ := List.getElem?_of_mem hd
  have hlt : i < vs.length := by rw [hl]; exact (List.getElem?_eq_some_iff.1 hi).1
  exact (hr i d _ hi (List.getElem?_eq_getElem hlt)).fit
theorem Fit.int {k : IntKind} {n : Int} (h : Fit (.imm (.int k n))) : inR k n := by cases h with | imm _ h => exact ok_inR h
theorem Fit.str {s : ByteArray} (h : Fit (.imm (.string s))) : s.size ≤ 9223372036854775807 := by
  cases h with
  | imm _ h =>
    simp only [okV, decide_eq_true_eq] at h
    exact h
theorem Fit.aggs {cs : List D} (h : Fit (.agg cs)) : ∀ c ∈ cs, Fit c := by cases h with | agg _ h => exact h
theorem Fit.sls {xs : List D} (h : Fit (.sl xs)) : xs.length ≤ 9223372036854775807 ∧ ∀ x ∈ xs, Fit x := by cases h with | sl _ h1 h2 => exact ⟨h1, h2⟩

theorem tmod_bnd {a b : Int} (hb : 1 ≤ b) : (0 ≤ a → 0 ≤ a.tmod b ∧ a.tmod b ≤ a ∧ a.tmod b < b) ∧ (a < 0 → a ≤ a.tmod b ∧ a.tmod b ≤ 0 ∧ -b < a.tmod b) := by
  have key : ∀ a : Int, 0 ≤ a → 0 ≤ a.tmod b ∧ a.tmod b ≤ a ∧ a.tmod b < b := by
    intro a h
    rw [Int.tmod_eq_emod_of_nonneg h]
    refine ⟨Int.emod_nonneg a (by omega), ?_, Int.emod_lt_of_pos a (by omega)⟩
    have h1 := Int.emod_add_mul_ediv a b
    have h2 := Int.mul_nonneg (show 0 ≤ b by omega) (Int.ediv_nonneg h (show 0 ≤ b by omega))
    omega
  refine ⟨key a, fun h => ?_⟩
  have := key (-a) (by omega)
  rw [Int.neg_tmod] at this
  omega
theorem tdiv_bnd {a b : Int} (hb : 1 ≤ b) : (0 ≤ a → 0 ≤ a.tdiv b ∧ a.tdiv b ≤ a) ∧ (a < 0 → a ≤ a.tdiv b ∧ a.tdiv b ≤ 0) := by
  have key : ∀ a : Int, 0 ≤ a → 0 ≤ a.tdiv b ∧ a.tdiv b ≤ a := by
    intro a h
    rw [Int.tdiv_eq_ediv_of_nonneg h]
    exact ⟨Int.ediv_nonneg h (by omega), Int.ediv_le_self b h⟩
  refine ⟨key a, fun h => ?_⟩
  have := key (-a) (by omega)
  rw [Int.neg_tdiv] at this
  omega
theorem tmod_ok {a b : Int} (hb : 1 ≤ b) (ha : -9223372036854775808 ≤ a ∧ a ≤ 9223372036854775807) : b ≠ 0 ∧ inR .i64 (a.tmod b) := by
  obtain ⟨h1, h2⟩ := tmod_bnd (a := a) hb
  refine ⟨by omega, ?_⟩
  simp only [inR]
  rcases (show a < 0 ∨ 0 ≤ a by omega) with h | h
  · have := h2 h; omega
  · have := h1 h; omega
theorem tdiv_ok {a b : Int} (hb : 1 ≤ b) (ha : -9223372036854775808 ≤ a ∧ a ≤ 9223372036854775807) : b ≠ 0 ∧ inR .i64 (a.tdiv b) := by
  obtain ⟨h1, h2⟩ := tdiv_bnd (a := a) hb
  refine ⟨by omega, ?_⟩
  simp only [inR]
  rcases (show a < 0 ∨ 0 ≤ a by omega) with h | h
  · have := h2 h; omega
  · have := h1 h; omega

end Go.Abs
