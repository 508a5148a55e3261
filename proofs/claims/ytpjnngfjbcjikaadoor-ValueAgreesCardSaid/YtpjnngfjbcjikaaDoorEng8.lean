/- Contracts of functions over data, and how a walk enters a function, calls another, and returns. Conditions: none; lemmas over any program. -/
import Derived.Test.YtpjnngfjbcjikaaDoorEng7
namespace Go.Abs
open Go Go.RowKit

/-- Called on values that read as these data, in whatever memory: the function returns what reads as r; all that was there is as it was. -/
def Ev (E : Env) (f : FuncId) (ds : List D) (r : X) : Prop :=
  ∀ (w : World) (F : Nat → Prop) (vs : List Value), (∀ b, F b → b < w.heap.size) → E.GI w F → vs.length = ds.length → (∀ (i : Nat) d v, ds[i]? = some d → vs[i]? = some v → Rd w F d v) →
    Calls E.P f vs.toArray w fun e w' => ∃ v F', e = .returned v ∧ Ext w F w' F' ∧ RdX w' F' [] r v

/-- What a slot holds, handed on as data: a row of the call's own counts as data while nobody writes it. -/
inductive Dat (ob : List AObj) : X → D → Prop
  | d (x : D) : Dat ob (.d x) x
  | nil : Dat ob .nilS (.sl [])
inductive Dats (s : St) (E : Env) : List Operand → List D → Prop
  | nil : Dats s E [] []
  | cons {x : Operand} {r : List Operand} {d : D} {ds : List D} (h : Dat s.ob (s.ev E x) d) (hr : Dats s E r ds) : Dats s E (x :: r) (d :: ds)

theorem Dat.rd {ob : List AObj} {x : X} {d : D} {w : World} {F : Nat → Prop} {σ : Sg} {v : Value} (h : Dat ob x d) (hv : RdX w F σ x v) : Rd w F d v := by
  cases h with
  | d x => exact hv
  | nil => rw [show v = .slice none 0 0 from hv]; exact .slnil
theorem Dats.rd {s : St} {E : Env} {w : World} {F : Nat → Prop} {σ : Sg} {a : Act} : ∀ {xs : List Operand} {ds : List D}, Dats s E xs ds → (∀ y ∈ xs, RdX w F σ (s.ev E y) (a.eval y)) →
    (xs.map a.eval).length = ds.length ∧ ∀ (i : Nat) d v, ds[i]? = some d → (xs.map a.eval)[i]? = some v → Rd w F d v
  | _, _, .nil, _ => ⟨rfl, fun i d v h => by simp at h⟩
  | _, _, .cons (x := x) h hr, hall => by
    obtain ⟨h1, h2⟩ := hr.rd (w := w) (F := F) (σ := σ) (a := a) fun y hy => hall y (by simp [hy])
    refine ⟨by simpa using h1, fun i d v hd hv => ?_⟩
    cases i with
    | zero =>
      simp at hd hv
      subst hd hv
      exact h.rd (hall x (by simp))
    | succ i => exact h2 i d v (by simpa using hd) (by simpa using hv)

/-- The arguments of a call as data. -/
def datsX (E : Env) (s : St) : List Operand → Option (List D)
  | [] => some []
  | x :: r => (match s.ev E x with
    | .d d => (match datsX E s r with
      | some ds => some (d :: ds)
      | none => none)
    | .nilS => (match datsX E s r with
      | some ds => some (.sl [] :: ds)
      | none => none)
    | _ => none)
theorem datsX_ok {E : Env} {s : St} : ∀ {args : List Operand} {ds : List D}, datsX E s args = some ds → Dats s E args ds
  | [], ds, h => by simp only [datsX] at h; cases h; exact .nil
  | x :: r, ds, h => by
    simp only [datsX] at h
    split at h
    · rename_i d hd
      split at h
      · rename_i ds' hds
        cases h
        exact .cons (hd ▸ .d _) (datsX_ok hds)
      · cases h
    · rename_i hd
      split at h
      · rename_i ds' hds
        cases h
        exact .cons (hd ▸ .nil) (datsX_ok hds)
      · cases h
    · cases h

/-- A result that reads without objects reads so beside objects. -/
theorem RdX.lift {w : World} {F : Nat → Prop} {σ : Sg} {x : X} {v : Value} (h : RdX w F [] x v) : RdX w F σ x v := h.mono (fun _ h => h) (fun _ _ => rfl) (fun o p h => by simp at h)

/-- The function has a body. -/
def HasBody (E : Env) (f : FuncId) : Prop := ∀ (args : Array Value) (w : World), (callFunc f args).run E.P w = .ok (.enter f args) w

section
variable {C : Cx} {s : St} {o : Oper} {x : X} {r : List It} {Q : Exit → St → Prop}

theorem resolve_func {ρ : Operand → Value} {y : Operand} {args : Array Operand} {tys : Array TypeId} {ty : TypeId} {f : FuncId} {P : Program} {w : World} (h : ρ y = .func (.func f) #[] #[]) :
    (do let d ← resolve ρ { callee := .value y, args := args, argTypes := tys } ty; invoke d.target d.args : Sem Next).run P w = (callFunc f (args.map ρ)).run P w := by
  simp [resolve, Deferred.ofValue, h, invoke]

/-- A call of a function by its contract. -/
theorem v_call {y : Operand} {args : List Operand} {tys : Array TypeId} {f : FuncId} {ds : List D} {rx : X} (ho : o.op = .call { callee := .value y, args := args.toArray, argTypes := tys }) (hf : s.ev C.E y = .d (.imm (.func (.func f) #[] #[])))
    (hb : HasBody C.E f) (hd : Dats s C.E args ds) (h : Ev C.E f ds rx) : VOp C s o rx := by
  intro F σ w a K Q hi hr hK
  have hy := hr y (by simp [ho, Op.operands, Call.operands])
  rw [hf] at hy
  obtain ⟨e1, -⟩ := Rd.imm_inv hy
  obtain ⟨h1, h2⟩ := hd.rd (w := w) (F := F) (σ := σ) (a := a) fun z hz => hr z (by simp [ho, Op.operands, Call.operands, hz])
  have hrun : (execOp a.eval o).run C.E.P w = .ok (.enter f (args.map a.eval).toArray) w := by
    simp only [execOp, ho]
    rw [resolve_func e1]
    simpa using hb (args.toArray.map a.eval) w
  unfold Oper.wp
  rw [hrun]
  refine (h w F _ hi.flt hi.glob h1 h2).mono ?_
  rintro e w' ⟨v, F', rfl, he, hv⟩
  exact hK v w' F' he hv.lift

/-! ## Entering and returning -/
/-- What a function's result slots hold comes to. -/
def ResIs (C : Cx) (fn : Func) (s : St) (rx : X) : Prop :=
  ∀ F σ w (a : Act), WInv C.E C.w0.heap.size F σ s.ob w → (∀ b, F b → C.F0 b ∨ C.w0.heap.size ≤ b) → (∀ b, C.F0 b → F b) → (∀ t, RdX w F σ (lk s.tm t) (a.tmps.getD t undef)) →
    ∃ v F', (results fn a.tmps).run C.E.P w = .ok v w ∧ (∀ b, F b → F' b) ∧ (∀ b, F' b → b < w.heap.size ∧ (C.F0 b ∨ C.w0.heap.size ≤ b)) ∧ RdX w F' [] rx v

def EndIs (C : Cx) (fn : Func) (rx : X) : Exit → St → Prop
  | .ret, s | .normal, s => ResIs C fn s rx
  | _, _ => False

theorem Ev.enter {E : Env} {f : FuncId} {fn : Func} {c : Code} {ds : List D} {rx : X} {N : Nat} (hf : E.P.funcs[f]? = some fn) (hb : fn.body = some c) (hN : fn.ntmps = N) (hle : ds.length ≤ N)
    (h : ∀ (w0 : World) (F0 : Nat → Prop), go ⟨E, w0, F0, N⟩ [.code c] ⟨(List.range ds.length).zip (ds.map X.d), []⟩ (EndIs ⟨E, w0, F0, N⟩ fn rx)) : Ev E f ds rx := by
  intro w F vs hF hG hl hr
  refine calls_of_wp hf hb ?_
  have hgo := h w F
  have hlook : ∀ t, RdX w F [] (lk ((List.range ds.length).zip (ds.map X.d)) t) ((vs.toArray ++ Array.replicate (fn.ntmps - vs.toArray.size) undef).getD t undef) := by
    intro t
    have key : ∀ (k : Nat) (l : List D), (∀ (i : Nat) d, l[i]? = some d → ds[k + i]? = some d) → RdX w F [] (lk ((List.range' k l.length).zip (l.map X.d)) t) ((vs.toArray ++ Array.replicate (fn.ntmps - vs.toArray.size) undef).getD t undef) := by
      intro k l
      induction l generalizing k with
      | nil => intro _; trivial
      | cons d l ih =>
        intro hk
        simp only [List.length_cons, List.range'_succ, List.map_cons, List.zip_cons_cons, lk]
        cases hbq : Nat.beq k t with
        | true =>
          obtain rfl := Nat.eq_of_beq_eq_true hbq
          have hd : ds[k]? = some d := by simpa using hk 0 d rfl
          have hlt : k < vs.length := by rw [hl]; exact (List.getElem?_eq_some_iff.1 hd).1
          have e : (vs.toArray ++ Array.replicate (fn.ntmps - vs.toArray.size) undef).getD k undef = vs[k] := by
            simp [Array.getElem?_append, hlt]
          rw [e]
          exact hr k d _ hd (List.getElem?_eq_getElem hlt)
        | false =>
          refine ih (k + 1) fun i d' hi => ?_
          have := hk (i + 1) d' (by simpa using hi)
          rw [← this]
          congr 1
          omega
    have := key 0 ds fun i d hd => by simpa using hd
    rwa [← List.range_eq_range'] at this
  have hrel : Cx.Rel ⟨E, w, F, N⟩ ⟨(List.range ds.length).zip (ds.map X.d), []⟩ { tmps := vs.toArray ++ Array.replicate (fn.ntmps - vs.toArray.size) undef, defers := [] } w := by
    refine ⟨F, [], Below.refl _ _, fun _ h => h, fun _ h => .inl h, ⟨hF, hG, rfl, fun k x p hx => by simp at hx, fun k k' x x' p p' _ hx => by simp at hx⟩, rfl, ?_, hlook⟩
    simp [hN, hl]
    omega
  refine wp_mono (hgo _ w hrel) ?_
  rintro e a' w' ⟨s', ⟨F', σ, h1, h2, h3, hi, h4, h5, hs⟩, hq⟩
  have fin : ResIs ⟨E, w, F, N⟩ fn s' rx → a'.defers = [] ∧ ∃ v, (results fn a'.tmps).run E.P w' = .ok v w' ∧ ∃ v_1 F'', Ending.returned v = .returned v_1 ∧ Ext w F w' F'' ∧ RdX w' F'' [] rx v_1 := by
    intro hres
    obtain ⟨v, F'', r1, r2, r3, r4⟩ := hres F' σ w' a' hi h3 h2 hs
    exact ⟨h4, v, r1, v, F'', rfl, ⟨h1, fun b hb => r2 b (h2 b hb), fun b hb => (r3 b hb).2, fun b hb => (r3 b hb).1⟩, r4⟩
  cases e with
  | normal => exact fin hq
  | ret => exact fin hq
  | _ => exact hq.elim

theorem res_none {fn : Func} (hr : fn.results = #[]) : ResIs C fn s (.tup []) := by
  intro F σ w a hi hn hm hs
  refine ⟨.tuple #[], F, ?_, fun _ h => h, fun b hb => ⟨hi.flt b hb, hn b hb⟩, [], rfl, rfl, fun i x v hx => by simp at hx⟩
  simp [results, hr]

/-- A result variable: a slot, or a variable in memory. -/
def resX (C : Cx) (s : St) : ResultVar → Option D
  | .tmp t => toD (lk s.tm t)
  | .cell a t => (match lk s.tm a with
    | .ptr i off => (match loadX C.E s.ob t (.ptr i off) with
      | some (_, x) => toD x
      | none => none)
    | _ => none)
theorem toD_rd {x : X} {d : D} {w : World} {F : Nat → Prop} {σ : Sg} {v : Value} (h : toD x = some d) (hv : RdX w F σ x v) : Rd w F d v := by
  cases x <;> simp [toD] at h
  · subst h; exact hv
  · subst h; rw [show v = .slice none 0 0 from hv]; exact .slnil
def resRun (a : Act) : ResultVar → Sem Value
  | .tmp t => pure (a.tmps.getD t undef)
  | .cell b t => do loadVar t (← asAddr (a.tmps.getD b undef))
theorem resX_run {F : Nat → Prop} {σ : Sg} {w : World} {a : Act} {q : ResultVar} {d : D} (hi : WInv C.E C.w0.heap.size F σ s.ob w) (hs : ∀ t, RdX w F σ (lk s.tm t) (a.tmps.getD t undef)) (h : resX C s q = some d) :
    ∃ v, (resRun a q).run C.E.P w = .ok v w ∧ Rd w F d v := by
  cases q with
  | tmp t => exact ⟨_, by simp only [resRun, Sem.run_pure], toD_rd h (hs t)⟩
  | cell b t =>
    simp only [resX] at h
    have hb := hs b
    split at h
    · rename_i i off hl
      rw [hl] at hb
      split at h
      · rename_i p x hx
        obtain ⟨v, h1, h2⟩ := load_ok hi hb hx
        obtain ⟨b', c, n, -, e⟩ := hb
        refine ⟨v, ?_, toD_rd h h2⟩
        rw [e] at h1
        simp only [Instr.loadAt, Instr.sureAddr, Sem.run_bind, Sem.run_pure, Result.andThen_ok] at h1
        simp only [resRun, e, asAddr, Sem.run_bind, Sem.run_pure, Result.andThen_ok, h1]
      · cases h
    · cases h
theorem results_eq (fn : Func) (a : Act) : results fn a.tmps = (do let vs ← fn.results.mapM (resRun a); pure (if h : vs.size = 1 then vs[0] else .tuple vs)) := by
  unfold results
  congr 1
theorem res_1 {fn : Func} {q : ResultVar} {d : D} (hr : fn.results = #[q]) (h : resX C s q = some d) : ResIs C fn s (.d d) := by
  intro F σ w a hi hn hm hs
  obtain ⟨v, h1, h2⟩ := resX_run hi hs h
  refine ⟨v, F, ?_, fun _ h => h, fun b hb => ⟨hi.flt b hb, hn b hb⟩, h2⟩
  rw [results_eq, hr]
  simp [h1]
theorem res_2 {fn : Func} {q q' : ResultVar} {d d' : D} (hr : fn.results = #[q, q']) (h : resX C s q = some d) (h' : resX C s q' = some d') : ResIs C fn s (.tup [d, d']) := by
  intro F σ w a hi hn hm hs
  obtain ⟨v, h1, h2⟩ := resX_run hi hs h
  obtain ⟨v', h1', h2'⟩ := resX_run hi hs h'
  refine ⟨.tuple #[v, v'], F, ?_, fun _ h => h, fun b hb => ⟨hi.flt b hb, hn b hb⟩, [v, v'], rfl, rfl, fun i x u hx hu => ?_⟩
  · rw [results_eq, hr]
    simp [h1, h1']
  · match i with
    | 0 => simp at hx hu; subst hx hu; exact h2
    | 1 => simp at hx hu; subst hx hu; exact h2'
    | i + 2 => simp at hx
theorem res_3 {fn : Func} {q q' q'' : ResultVar} {d d' d'' : D} (hr : fn.results = #[q, q', q'']) (h : resX C s q = some d) (h' : resX C s q' = some d') (h'' : resX C s q'' = some d'') : ResIs C fn s (.tup [d, d', d'']) := by
  intro F σ w a hi hn hm hs
  obtain ⟨v, h1, h2⟩ := resX_run hi hs h
  obtain ⟨v', h1', h2'⟩ := resX_run hi hs h'
  obtain ⟨v'', h1'', h2''⟩ := resX_run hi hs h''
  refine ⟨.tuple #[v, v', v''], F, ?_, fun _ h => h, fun b hb => ⟨hi.flt b hb, hn b hb⟩, [v, v', v''], rfl, rfl, fun i x u hx hu => ?_⟩
  · rw [results_eq, hr]
    simp [h1, h1', h1'']
  · match i with
    | 0 => simp at hx hu; subst hx hu; exact h2
    | 1 => simp at hx hu; subst hx hu; exact h2'
    | 2 => simp at hx hu; subst hx hu; exact h2''
    | i + 3 => simp at hx
end
end Go.Abs
