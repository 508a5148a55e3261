/- Arithmetic that wraps, with its result told; '==' on structs of plain fields; calls of functions that the model answers itself. Conditions: each operation's own. -/
import Derived.Test.YtpjnngfjbcjikaaDoorEng14
import Derived.Laws.StructEq
namespace Go.Abs
open Go Go.RowKit

section
variable {C : Cx} {s : St} {o : Oper} {x : X} {p : Prop}

theorem Ev.mk {E : Env} {f : FuncId} {ds : List D} {r : X} (h : ∀ (w : World) (F : Nat → Prop) (vs : List Value), (∀ b, F b → b < w.heap.size) → E.GI w F → vs.length = ds.length → (∀ (i : Nat) d v, ds[i]? = some d → vs[i]? = some v → Rd w F d v) →
    Calls E.P f vs.toArray w fun e w' => ∃ v F', e = .returned v ∧ Ext w F w' F' ∧ RdX w' F' [] r v) : Ev E f ds r := h
theorem inR_wrapped (k : IntKind) (n : Int) : inR k (k.wrap n) := by
  cases k <;> simp only [inR, IntKind.wrap, IntKind.signed, IntKind.bits] <;> simp <;> omega
theorem conv_int_run {E : Env} {src dst : TypeId} {k k' : IntKind} {n : Int} {ds : TypeDesc} (hs : descOf E src = some ds) (hd : descOf E dst = some (.int k)) (w : World) : (convert src dst (.int k' n)).run E.P w = .ok (.int k (k.wrap n)) w := by
  simp only [convert, Sem.run_bind, run_underlying (descOf_ok hs), run_underlying (descOf_ok hd), Result.andThen_ok, Conv.intToInt]
  rfl

/-- Cells of two structs, compared field by field. -/
def flatEq (E : Env) : List Field → List D → List D → Option Bool
  | [], _, _ => some true
  | f :: r, cs, cs' => bif f.name == "_" then none else (match descOf E f.type, cs[f.offset]?, cs'[f.offset]? with
    | some (.int _), some (.imm (.int k a)), some (.imm (.int k' b)) => bif decide (k = k') then (flatEq E r cs cs').map ((a == b) && ·) else none
    | some .bool, some (.imm (.bool a)), some (.imm (.bool b)) => (flatEq E r cs cs').map ((a == b) && ·)
    | some .string, some (.imm (.string a)), some (.imm (.string b)) => (flatEq E r cs cs').map ((a.toList == b.toList) && ·)
    | _, _, _ => none)
theorem isAgg_desc {P : Program} {t : TypeId} {d : TypeDesc} {w : World} (h : P.underlying t = some d) (hd : (∃ k, d = .int k) ∨ d = .bool ∨ d = .string) : (isAgg t).run P w = .ok false w := by
  unfold isAgg
  simp only [Sem.run_bind, run_underlying h, Result.andThen_ok]
  rcases hd with ⟨k, rfl⟩ | rfl | rfl <;> rfl
theorem part_run {P : Program} {t : TypeId} {d : TypeDesc} {w : World} {cs : Array Value} {off : Nat} {v : Value} (h : P.underlying t = some d) (hd : (∃ k, d = .int k) ∨ d = .bool ∨ d = .string) (hv : cs[off]? = some v) : (part t cs off).run P w = .ok v w := by
  unfold part
  simp only [Sem.run_bind, isAgg_desc h hd, Result.andThen_ok, Bool.false_eq_true, if_false, hv]
  rfl
theorem eqFields_run {E : Env} {w : World} {F : Nat → Prop} {d : Nat} {vs vs' : List Value} {cs cs' : List D} (hl : cs.length = vs.length) (hl' : cs'.length = vs'.length)
    (h : ∀ (i : Nat) (c : D) (v : Value), cs[i]? = some c → vs[i]? = some v → Rd w F c v) (h' : ∀ (i : Nat) (c : D) (v : Value), cs'[i]? = some c → vs'[i]? = some v → Rd w F c v) :
    ∀ (fs : List Field) (b : Bool), flatEq E fs cs cs' = some b → (Op.eqFields (d + 1) vs.toArray vs'.toArray fs).run E.P w = .ok b w
  | [], b, hb => by
    simp only [flatEq] at hb
    cases hb
    rfl
  | f :: r, b, hb => by
    have look : ∀ {cs : List D} {vs : List Value} {u : Value}, cs.length = vs.length → (∀ (i : Nat) (c : D) (v : Value), cs[i]? = some c → vs[i]? = some v → Rd w F c v) → cs[f.offset]? = some (.imm u) → vs.toArray[f.offset]? = some u := by
      intro cs vs u hl h hc
      have hlt : f.offset < vs.length := by rw [← hl]; exact (List.getElem?_eq_some_iff.1 hc).1
      have hv := List.getElem?_eq_getElem hlt
      have := (h _ _ _ hc hv).imm_inv.1
      rw [List.getElem?_toArray, hv, this]
    simp only [flatEq] at hb
    cases hn : f.name == "_" with
    | true => rw [hn] at hb; cases hb
    | false =>
      rw [hn] at hb
      simp only [cond_false] at hb
      have hne : f.name ≠ "_" := by simpa using hn
      simp only [Op.eqFields, if_pos hne]
      split at hb
      · rename_i k0 k a k' a' hd h1 h2
        cases hk : decide (k = k') with
        | false => rw [hk] at hb; cases hb
        | true =>
          rw [hk] at hb
          obtain rfl := of_decide_eq_true hk
          simp only [cond_true, Option.map_eq_some_iff] at hb
          obtain ⟨q, hq, rfl⟩ := hb
          have ih := eqFields_run hl hl' h h' r q hq (d := d)
          simp only [Sem.run_bind, part_run (descOf_ok hd) (.inl ⟨_, rfl⟩) (look hl h h1), part_run (descOf_ok hd) (.inl ⟨_, rfl⟩) (look hl' h' h2), Result.andThen_ok, run_equalIn_int w d _ _ _ a a' (descOf_ok hd)]
          cases a == a' with
          | true => simp [ih]
          | false => simp
      · rename_i a a' hd h1 h2
        simp only [Option.map_eq_some_iff] at hb
        obtain ⟨q, hq, rfl⟩ := hb
        have ih := eqFields_run hl hl' h h' r q hq (d := d)
        simp only [Sem.run_bind, part_run (descOf_ok hd) (.inr (.inl rfl)) (look hl h h1), part_run (descOf_ok hd) (.inr (.inl rfl)) (look hl' h' h2), Result.andThen_ok, run_equalIn_bool' w d _ a a' (descOf_ok hd)]
        cases a == a' with
        | true => simp [ih]
        | false => simp
      · rename_i a a' hd h1 h2
        simp only [Option.map_eq_some_iff] at hb
        obtain ⟨q, hq, rfl⟩ := hb
        have ih := eqFields_run hl hl' h h' r q hq (d := d)
        simp only [Sem.run_bind, part_run (descOf_ok hd) (.inr (.inr rfl)) (look hl h h1), part_run (descOf_ok hd) (.inr (.inr rfl)) (look hl' h' h2), Result.andThen_ok, run_equalIn_string w d _ a a' (descOf_ok hd)]
        cases a.toList == a'.toList with
        | true => simp [ih]
        | false => simp
      · cases hb
theorem v_eqS {op : BinOp} {t u : TypeId} {y z : Operand} {cs cs' : List D} {fs : Array Field} {b r : Bool} (ho : o.op = .binOp op t y z u) (hy' : s.ev C.E y = .d (.agg cs)) (hz' : s.ev C.E z = .d (.agg cs')) (hd : descOf C.E t = some (.struct fs))
    (h1 : C.E.P.stoodInHeld t = false) (h2 : C.E.P.eqGuardType C.E.P.depth t = false) (hb : flatEq C.E fs.toList cs cs' = some b) (hop : (op = .eql ∧ r = b) ∨ (op = .neq ∧ r = !b)) : VOp C s o (.d (.imm (.bool r))) := by
  refine VOp.pure_ fun F σ w a hi hr => ?_
  have hy := hr y (by simp [ho, Op.operands])
  have hz := hr z (by simp [ho, Op.operands])
  rw [hy'] at hy
  rw [hz'] at hz
  obtain ⟨vs, e1, l1, -, r1⟩ := Rd.agg_inv hy
  obtain ⟨vs', e2, l2, -, r2⟩ := Rd.agg_inv hz
  have hu := descOf_ok hd
  have hf : C.E.P.fieldsOf t = fs := by unfold Program.fieldsOf; rw [hu]
  have hrun := eqFields_run (d := 9998) l1 l2 r1 r2 fs.toList b hb
  refine ⟨.bool r, ?_, Rd.imm _ rfl⟩
  have hin : (Op.equalIn 10000 t (.agg vs.toArray) (.agg vs'.toArray)).run C.E.P w = .ok b w := by
    rw [run_equalIn_struct w 9999 t _ _ (by rw [hf]; exact hu) h1, hf]
    exact hrun
  rcases hop with ⟨rfl, rfl⟩ | ⟨rfl, rfl⟩
  · simp only [execOp, ho, e1, e2, Sem.run_bind, run_eqGuard_agg w _ _ _ _ _ _ h2, Result.andThen_ok, run_eql_struct, hin, Sem.run_pure]
  · simp only [execOp, ho, e1, e2, Sem.run_bind, run_eqGuard_agg w _ _ _ _ _ _ h2, Result.andThen_ok, run_neq_struct, hin, Sem.run_pure]

/-- What the model itself answers at a call on immediate values. -/
def ExtEv (E : Env) (f : FuncId) (vals : List Value) (rx : X) : Prop := ∃ v, (∀ w, (callFunc f vals.toArray).run E.P w = .ok (.value v) w) ∧ ∀ w F, RdX w F [] rx v
theorem ExtEv.mk {E : Env} {f : FuncId} {vals : List Value} {rx : X} {v : Value} (h : ∀ w, (callFunc f vals.toArray).run E.P w = .ok (.value v) w) (hx : ∀ w F, RdX w F [] rx v) : ExtEv E f vals rx := ⟨v, h, hx⟩
/-- A call that the model answers itself, on immediate values. -/
theorem v_callV {y : Operand} {args : List Operand} {tys : Array TypeId} {f : FuncId} {vals : List Value} {v : Value} (ho : o.op = .call { callee := .value y, args := args.toArray, argTypes := tys }) (hf : s.ev C.E y = .d (.imm (.func (.func f) #[] #[])))
    (hd : datsX C.E s args = some (vals.map .imm)) (h : ∀ w, (callFunc f vals.toArray).run C.E.P w = .ok (.value v) w) (hx : ∀ w F, RdX w F [] x v) : VOp C s o x := by
  refine VOp.pure_ fun F σ w a hi hr => ?_
  have hy := hr y (by simp [ho, Op.operands, Call.operands])
  rw [hf] at hy
  obtain ⟨e1, -⟩ := Rd.imm_inv hy
  obtain ⟨h1, h2⟩ := (datsX_ok hd).rd (w := w) (F := F) (σ := σ) (a := a) fun z hz => hr z (by simp [ho, Op.operands, Call.operands, hz])
  have hvals : args.map a.eval = vals := by
    refine List.ext_getElem? fun i => ?_
    by_cases hlt : i < vals.length
    · have hlt' : i < (args.map a.eval).length := by rw [h1]; simpa using hlt
      have := h2 i _ _ (by rw [List.getElem?_map, List.getElem?_eq_getElem hlt]; rfl) (List.getElem?_eq_getElem hlt')
      rw [List.getElem?_eq_getElem hlt, List.getElem?_eq_getElem hlt', this.imm_inv.1]
    · rw [List.length_map (f := D.imm)] at h1
      rw [List.getElem?_eq_none (by omega), List.getElem?_eq_none (by omega)]
  refine ⟨v, ?_, (hx w F).lift⟩
  simp only [execOp, ho]
  rw [resolve_func e1]
  have : args.toArray.map a.eval = vals.toArray := by simp [hvals]
  rw [this]
  exact h w

section
variable {all : Array Oper} {pu : Bool} {K : St → Prop} {rest : List Oper} {tm : List (Nat × X)} {ob : List AObj} {d : Nat}
theorem go_convW {src dst : TypeId} {y : Operand} {k k' : IntKind} {n : Int} {ds : TypeDesc} (m : Int) (ho : o.op = .convert src dst y) (hg : guardX all tm o = some true) (hdst : o.dst = some d) (hd : Nat.blt d C.N = true) (hy : (⟨tm, ob⟩ : St).ev C.E y = .d (.imm (.int k' n)))
    (hs : descOf C.E src = some ds) (hd' : descOf C.E dst = some (.int k)) (hm : k.wrap n = m) (h : SGo C all pu rest ⟨(d, .d (.imm (.int k m))) :: tm, ob⟩ K) : SGo C all pu (o :: rest) ⟨tm, ob⟩ K :=
  go_vopG hg hdst hd (v_convR ho hy (fun w => by rw [conv_int_run hs hd', hm]) (inR_ok (by rw [← hm]; exact inR_wrapped k n))) h
theorem go_negW {t : TypeId} {y : Operand} {k : IntKind} {n : Int} (m : Int) (ho : o.op = .unOp .neg t y) (hg : guardX all tm o = some true) (hdst : o.dst = some d) (hd : Nat.blt d C.N = true) (hy : (⟨tm, ob⟩ : St).ev C.E y = .d (.imm (.int k n)))
    (hm : k.wrap (0 - n) = m) (h : SGo C all pu rest ⟨(d, .d (.imm (.int k m))) :: tm, ob⟩ K) : SGo C all pu (o :: rest) ⟨tm, ob⟩ K :=
  go_vopG hg hdst hd (v_unR ho hy (fun w => by simp only [Op.unary, Op.intArith, hm]; rfl) (inR_ok (by rw [← hm]; exact inR_wrapped k _))) h
theorem go_binW {op : BinOp} {t u : TypeId} {y z : Operand} {k k' : IntKind} {a b : Int} (r : Value) (ho : o.op = .binOp op t y z u) (hg : guardX all tm o = some true) (hdst : o.dst = some d) (hd : Nat.blt d C.N = true) (hy : (⟨tm, ob⟩ : St).ev C.E y = .d (.imm (.int k a)))
    (hz : (⟨tm, ob⟩ : St).ev C.E z = .d (.imm (.int k' b))) (hm : ∀ w, (binOp op t (.int k a) (.int k' b)).run C.E.P w = .ok r w) (hok : okV r = true) (h : SGo C all pu rest ⟨(d, .d (.imm r)) :: tm, ob⟩ K) : SGo C all pu (o :: rest) ⟨tm, ob⟩ K :=
  go_vopG hg hdst hd (v_binR ho hy hz (by simp) (by simp) hm hok) h
theorem go_eqS {op : BinOp} {t u : TypeId} {y z : Operand} {cs cs' : List D} {fs : Array Field} {b r : Bool} (h1 : C.E.P.stoodInHeld t = false) (h2 : C.E.P.eqGuardType C.E.P.depth t = false) (ho : o.op = .binOp op t y z u) (hg : guardX all tm o = some true) (hdst : o.dst = some d) (hd : Nat.blt d C.N = true)
    (hy : (⟨tm, ob⟩ : St).ev C.E y = .d (.agg cs)) (hz : (⟨tm, ob⟩ : St).ev C.E z = .d (.agg cs')) (hds : descOf C.E t = some (.struct fs)) (hb : flatEq C.E fs.toList cs cs' = some b) (hop : (op = .eql ∧ r = b) ∨ (op = .neq ∧ r = !b))
    (h : SGo C all pu rest ⟨(d, .d (.imm (.bool r))) :: tm, ob⟩ K) : SGo C all pu (o :: rest) ⟨tm, ob⟩ K :=
  go_vopG hg hdst hd (v_eqS ho hy hz hds h1 h2 hb hop) h
theorem go_callV {y : Operand} {args : List Operand} {tys : Array TypeId} {f : FuncId} {vals : List Value} {rx : X} (ho : o.op = .call { callee := .value y, args := args.toArray, argTypes := tys })
    (hg : guardX all tm o = some true) (hdst : o.dst = some d) (hd : Nat.blt d C.N = true) (hf : (⟨tm, ob⟩ : St).ev C.E y = .d (.imm (.func (.func f) #[] #[]))) (h0 : ExtEv C.E f vals rx) (hds : datsX C.E ⟨tm, ob⟩ args = some (vals.map .imm)) (h : SGo C all pu rest ⟨(d, rx) :: tm, ob⟩ K) :
    SGo C all pu (o :: rest) ⟨tm, ob⟩ K := by
  obtain ⟨v, h1, h2⟩ := h0
  exact go_vopG hg hdst hd (v_callV ho hf hds h1 h2) h
end
end
end Go.Abs
