/- Functions that hand back a new row, which the caller may write; literals that are written; a test for nil that decides nothing else. Conditions: each operation's own. -/
import Derived.Test.YtpjnngfjbcjikaaDoorEng16
namespace Go.Abs
open Go Go.RowKit

section
variable {C : Cx} {r : List It} {s : St} {Q : Exit → St → Prop} {o : Oper}
theorem go_condm {c : Operand} {x y : Code} {p : Prop} (hc : s.ev C.E c = .mayb p) (ht : p → go C (.code x :: r) s Q) (hf : go C (.code y :: r) s Q) : go C (.code (.cond c x y) :: r) s Q := by
  intro a w hr
  have hev : ∃ b : Bool, a.eval c = .bool b ∧ (b = true → p) := by
    obtain ⟨F, σ, _, _, _, hi, _, _, hs⟩ := hr
    have := ev_rd (E := C.E) (s := s) hi hs c
    rw [hc] at this
    exact this
  obtain ⟨b, h1, h2⟩ := hev
  exact wp_cond_split h1 (fun h => ht (h2 h) a w hr) (fun _ => hf a w hr)

/-- A literal of a slice, as a row of the call's own. -/
theorem s_buildOwn {t : TypeId} {n : Nat} {parts : List (Nat × Operand)} {te : TE} {ds : List D} (ho : o.op = .buildSlice t n parts.toArray) (hte : elemT C.E t = some te) (hp : partsX C.E s te.size 0 parts = some ds) (hn : n = ds.length)
    (hsm : n * te.size ≤ 16777216) (hn6 : n ≤ 16777216) (hd : dstOK C o = true) : SOp C s o (s.add o.dst (.row te.t te.size ds) (.own s.ob.length)) := by
  obtain ⟨hu, hok⟩ := elemT_ok hte
  rintro w a K Q ⟨F, σ, h1, h2, h3, hi, h4, h5, hs⟩ hK
  have hr : ∀ y : Operand, RdX w F σ (s.ev C.E y) (a.eval y) := fun y => ev_rd hi hs y
  have hsz := sizeOf_run (w := w) hok
  have fin : ∀ zs : Array Value, ∃ vs', Instr.fill (fun i => some (i * te.size, te.size)) ((Array.range (n * te.size)).map (zs[· % zs.size]!)) (parts.map fun q => (q.1, a.eval q.2)) = some vs' ∧ vs'.size = n * te.size ∧ (∀ d ∈ ds, d.cells.length = te.size) ∧ (∀ d ∈ ds, ∀ c ∈ d.cells, c.one = true) ∧
      ∀ (i : Nat) (x : D) (j : Nat) (cd : D), ds[i]? = some x → x.cells[j]? = some cd → ∃ v, vs'.toList[(0 + i) * te.size + j]? = some v ∧ Rd w F cd v := fun zs => by
    obtain ⟨vs', e1, e2, -, e4, e5, e6⟩ := fill_parts (s := s) (E := C.E) (size := te.size) (w := w) (F := F) (σ := σ) (a := a) parts 0 ((Array.range (n * te.size)).map (zs[· % zs.size]!)) ds hp (by simp [hn]) (fun q hq => hr q.2)
    exact ⟨vs', e1, by simpa using e2, e4, e5, e6⟩
  have hparts : (parts.toArray.map fun (i, x) => (i, a.eval x)).toList = parts.map fun q => (q.1, a.eval q.2) := by simp
  obtain ⟨vs', hrun, e2, e4, e5, e6⟩ : ∃ vs', (execOp a.eval o).run C.E.P w = .ok (.value (.slice (some ⟨w.heap.size, 0, none⟩) n n)) (w.alloc (.cells vs' te.t)) ∧ vs'.size = n * te.size ∧ (∀ d ∈ ds, d.cells.length = te.size) ∧ (∀ d ∈ ds, ∀ c ∈ d.cells, c.one = true) ∧
      ∀ (i : Nat) (x : D) (j : Nat) (cd : D), ds[i]? = some x → x.cells[j]? = some cd → ∃ v, vs'.toList[(0 + i) * te.size + j]? = some v ∧ Rd w F cd v := by
    by_cases h0 : n * te.size = 0
    · obtain ⟨vs', e1, e456⟩ := fin #[]
      refine ⟨vs', ?_, e456⟩
      simp only [execOp, ho, Instr.buildSlice, Sem.run_bind, run_underlying hu, Result.andThen_ok, hsz]
      rw [if_neg (by omega), if_pos h0]
      simp only [Sem.run_bind, Sem.run_pure, Result.andThen_ok, hparts, e1, newRow]
      rfl
    · obtain ⟨vs', e1, e456⟩ := fin te.zero.cells
      refine ⟨vs', ?_, e456⟩
      simp only [execOp, ho, Instr.buildSlice, Sem.run_bind, run_underlying hu, Result.andThen_ok, hsz]
      rw [if_neg (by omega), if_neg h0]
      simp only [Sem.run_bind, Sem.run_pure, Result.andThen_ok, zero_run hok, hparts, e1, newRow]
      rfl
  unfold Oper.wp
  rw [hrun]
  have hmx' : n ≤ maxLen := by show n ≤ 9223372036854775807; omega
  have he := ext_alloc (F := F) (.cells vs' te.t) hi.flt
  refine hK _ _ (rel_add h1 h2 h3 hi h4 h5 hs hd (x := .row te.t te.size ds) (c := n) (n := n) ⟨vs'.toList, by simpa using heap_push, by simpa using e2, hn, Nat.le_refl _, hmx', e4, e5, fun i x j cd hx hcd => ?_, h1.size, fun hf => ?_⟩ ⟨w.heap.size, n, n, ?_, rfl⟩)
  · obtain ⟨u, q1, q2⟩ := e6 i x j cd hx hcd
    rw [Nat.zero_add] at q1
    exact ⟨u, q1, q2.ext he hi.flt⟩
  · exact absurd (hi.flt _ hf) (Nat.lt_irrefl _)
  · rw [← hi.len]; simp

/-- Called on values that read as these data: the function returns a slice over a new block of which nobody else knows, holding xs. -/
def EvO (E : Env) (f : FuncId) (ds : List D) (te : TypeId) (size : Nat) (xs : List D) : Prop :=
  ∀ (w : World) (F : Nat → Prop) (vs : List Value), (∀ b, F b → b < w.heap.size) → E.GI w F → vs.length = ds.length → (∀ (i : Nat) d v, ds[i]? = some d → vs[i]? = some v → Rd w F d v) →
    Calls E.P f vs.toArray w fun e w' => ∃ b c F', e = .returned (.slice (some ⟨b, 0, none⟩) xs.length c) ∧ Ext w F w' F' ∧ ObOK w' F' [] w.heap.size (.row te size xs) (b, c, xs.length)
theorem EvO.mk {E : Env} {f : FuncId} {ds : List D} {te : TypeId} {size : Nat} {xs : List D} (h : ∀ (w : World) (F : Nat → Prop) (vs : List Value), (∀ b, F b → b < w.heap.size) → E.GI w F → vs.length = ds.length → (∀ (i : Nat) d v, ds[i]? = some d → vs[i]? = some v → Rd w F d v) →
    Calls E.P f vs.toArray w fun e w' => ∃ b c F', e = .returned (.slice (some ⟨b, 0, none⟩) xs.length c) ∧ Ext w F w' F' ∧ ObOK w' F' [] w.heap.size (.row te size xs) (b, c, xs.length)) : EvO E f ds te size xs := h
/-- What a function's one result slot holds: a row of its own. -/
def EndO (C : Cx) (fn : Func) (te : TypeId) (size : Nat) (xs : List D) : Exit → St → Prop
  | .ret, s | .normal, s => ∃ k t, fn.results = #[.tmp t] ∧ lk s.tm t = .own k ∧ s.ob[k]? = some (.row te size xs)
  | _, _ => False
theorem EvO.enter {E : Env} {f : FuncId} {fn : Func} {c : Code} {ds : List D} {te : TypeId} {size : Nat} {xs : List D} {N : Nat} (hf : E.P.funcs[f]? = some fn) (hb : fn.body = some c) (hN : fn.ntmps = N) (hle : ds.length ≤ N)
    (h : ∀ (w0 : World) (F0 : Nat → Prop), go ⟨E, w0, F0, N⟩ [.code c] ⟨(List.range ds.length).zip (ds.map X.d), []⟩ (EndO ⟨E, w0, F0, N⟩ fn te size xs)) : EvO E f ds te size xs := by
  intro w F vs hF hG hl hr
  refine calls_of_wp hf hb ?_
  have hgo := h w F
  have hlook : ∀ t, RdX w F [] (lk ((List.range ds.length).zip (ds.map X.d)) t) ((vs.toArray ++ Array.replicate (fn.ntmps - vs.toArray.size) undef).getD t undef) := by
    intro t
    have key : ∀ (k : Nat) (l : List D), (∀ (i : Nat) d, l[i]? = some d → ds[k + i]? = some d) → RdX w F [] (lk ((List.range' k l.length).zip (l.map X.d)) t) ((vs.toArray ++ Array.replicate (fn.ntmps - vs.toArray.size) undef).getD t undef) := by
      intro k l
      induction l generalizing k with
      | nil => intro _; trivial
      | cons d l ih =>
        intro hk
        simp only [List.length_cons, List.range'_succ, List.map_cons, List.zip_cons_cons, lk]
        cases hbq : Nat.beq k t with
        | true =>
          obtain rfl := Nat.eq_of_beq_eq_true hbq
          have hd : ds[k]? = some d := by simpa using hk 0 d rfl
          have hlt : k < vs.length := by rw [hl]; exact (List.getElem?_eq_some_iff.1 hd).1
          have e : (vs.toArray ++ Array.replicate (fn.ntmps - vs.toArray.size) undef).getD k undef = vs[k] := by
            simp [Array.getElem?_append, hlt]
          rw [e]
          exact hr k d _ hd (List.getElem?_eq_getElem hlt)
        | false =>
          refine ih (k + 1) fun i d' hi => ?_
          have := hk (i + 1) d' (by simpa using hi)
          rw [← this]
          congr 1
          omega
    have := key 0 ds fun i d hd => by simpa using hd
    rwa [← List.range_eq_range'] at this
  have hrel : Cx.Rel ⟨E, w, F, N⟩ ⟨(List.range ds.length).zip (ds.map X.d), []⟩ { tmps := vs.toArray ++ Array.replicate (fn.ntmps - vs.toArray.size) undef, defers := [] } w := by
    refine ⟨F, [], Below.refl _ _, fun _ h => h, fun _ h => .inl h, ⟨hF, hG, rfl, fun k x p hx => by simp at hx, fun k k' x x' p p' _ hx => by simp at hx⟩, rfl, ?_, hlook⟩
    simp [hN, hl]
    omega
  refine wp_mono (hgo _ w hrel) ?_
  rintro e a' w' ⟨s', ⟨F', σ, h1, h2, h3, hi, h4, h5, hs⟩, hq⟩
  have fin : (∃ k t, fn.results = #[.tmp t] ∧ lk s'.tm t = .own k ∧ s'.ob[k]? = some (.row te size xs)) → a'.defers = [] ∧ ∃ v, (results fn a'.tmps).run E.P w' = .ok v w' ∧
      ∃ b c F'', Ending.returned v = .returned (.slice (some ⟨b, 0, none⟩) xs.length c) ∧ Ext w F w' F'' ∧ ObOK w' F'' [] w.heap.size (.row te size xs) (b, c, xs.length) := by
    rintro ⟨k, t, r1, r2, r3⟩
    have hv := hs t
    rw [r2] at hv
    obtain ⟨b, c, n, p1, p2⟩ := hv
    have hob := hi.obs k _ _ r3 p1
    have hn : n = xs.length := by obtain ⟨vs, -, -, hn, -⟩ := hob; exact hn
    subst hn
    have hob' : ObOK w' F' [] w.heap.size (.row te size xs) (b, c, xs.length) := hob
    refine ⟨h4, _, ?_, b, c, F', rfl, ⟨h1, h2, h3, hi.flt⟩, hob'⟩
    rw [results_eq, r1]
    simp [resRun, p2]
  cases e with
  | normal => exact fin hq
  | ret => exact fin hq
  | _ => exact hq.elim
/-- Such a result, given up as data. -/
theorem EvO.ev {E : Env} {f : FuncId} {ds : List D} {te : TypeId} {size : Nat} {xs : List D} (h : EvO E f ds te size xs) : Ev E f ds (.d (.sl xs)) := by
  intro w F vs hF hG hl hr
  refine (h w F vs hF hG hl hr).mono ?_
  rintro e w' ⟨b, c, F', rfl, he, hob⟩
  obtain ⟨us, q1, q2, q3, q4, q5, q6, q7, q8, q9, q10⟩ := hob
  have hlt : b < w'.heap.size := by
    rcases Nat.lt_or_ge b w'.heap.size with h | h
    · exact h
    · rw [Array.getElem?_eq_none h] at q1; cases q1
  refine ⟨_, fun i => F' i ∨ i = b, rfl, ⟨he.below, fun i h => .inl (he.more i h), fun i h => ?_, fun i h => ?_⟩, ?_⟩
  · rcases h with h | h
    · exact he.new i h
    · rw [h]; exact .inr q9
  · rcases h with h | h
    · exact he.lt i h
    · rw [h]; exact hlt
  · have hex : ∀ i j, ∃ u, ∀ x cd, xs[i]? = some x → x.cells[j]? = some cd → us[i * size + j]? = some u ∧ Rd w' F' cd u := by
      intro i j
      cases hx : xs[i]? with
      | none => exact ⟨undef, fun x cd h => by cases h⟩
      | some x =>
        cases hc : x.cells[j]? with
        | none => exact ⟨undef, fun x' cd h h' => by cases h; rw [hc] at h'; cases h'⟩
        | some cd =>
          obtain ⟨u, e1, e2⟩ := q8 i x j cd hx hc
          exact ⟨u, fun x' cd' h h' => by cases h; rw [hc] at h'; cases h'; exact ⟨e1, e2⟩⟩
    refine Rd.sl size xs ⟨b, 0, none⟩ c (fun i j => Classical.choose (hex i j)) (by omega) q5 (fun _ => .inr rfl) q6 q7 (fun i x j cd hx hc => ?_) (fun i x j cd hx hc => ?_)
    · rw [add_mk, cell_vs q1, Nat.zero_add]
      exact (Classical.choose_spec (hex i j) x cd hx hc).1
    · exact (Classical.choose_spec (hex i j) x cd hx hc).2.mono (fun _ h => .inl h) fun _ _ => rfl
/-- A call that hands back a new row. -/
theorem s_callO {y : Operand} {args : List Operand} {tys : Array TypeId} {f : FuncId} {ds : List D} {te : TypeId} {size : Nat} {xs : List D} (ho : o.op = .call { callee := .value y, args := args.toArray, argTypes := tys }) (hf : s.ev C.E y = .d (.imm (.func (.func f) #[] #[])))
    (hb : HasBody C.E f) (hd : Dats s C.E args ds) (h : EvO C.E f ds te size xs) (hdst : dstOK C o = true) : SOp C s o (s.add o.dst (.row te size xs) (.own s.ob.length)) := by
  rintro w a K Q ⟨F, σ, h1, h2, h3, hi, h4, h5, hs⟩ hK
  have hr : ∀ y : Operand, RdX w F σ (s.ev C.E y) (a.eval y) := fun y => ev_rd hi hs y
  have hy := hr y
  rw [hf] at hy
  obtain ⟨e1, -⟩ := Rd.imm_inv hy
  obtain ⟨g1, g2⟩ := hd.rd (w := w) (F := F) (σ := σ) (a := a) fun z hz => hr z
  have hrun : (execOp a.eval o).run C.E.P w = .ok (.enter f (args.map a.eval).toArray) w := by
    simp only [execOp, ho]
    rw [resolve_func e1]
    simpa using hb (args.toArray.map a.eval) w
  unfold Oper.wp
  rw [hrun]
  refine (h w F _ hi.flt hi.glob g1 g2).mono ?_
  rintro e w' ⟨b, c, F', rfl, he, hob⟩
  refine hK _ _ ?_
  have hi' := hi.ext he
  have hbl : w.heap.size ≤ b := by obtain ⟨us, -, -, -, -, -, -, -, -, q9, -⟩ := hob; exact q9
  have hob' : ObOK w' F' (σ ++ [(b, c, xs.length)]) C.w0.heap.size (.row te size xs) (b, c, xs.length) := by
    obtain ⟨us, q1, q2, q3, q4, q5, q6, q7, q8, q9, q10⟩ := hob
    exact ⟨us, q1, q2, q3, q4, q5, q6, q7, q8, Nat.le_trans h1.size q9, q10⟩
  have cases_ : ∀ (k : Nat) z p, (s.ob ++ [AObj.row te size xs])[k]? = some z → (σ ++ [(b, c, xs.length)])[k]? = some p → (k < s.ob.length ∧ s.ob[k]? = some z ∧ σ[k]? = some p) ∨ (k = s.ob.length ∧ z = .row te size xs ∧ p = (b, c, xs.length)) := by
    intro k z p hz hp
    rcases Nat.lt_or_ge k s.ob.length with hlt | hge
    · rw [List.getElem?_append_left hlt] at hz
      rw [List.getElem?_append_left (by rw [hi.len]; omega)] at hp
      exact .inl ⟨hlt, hz, hp⟩
    · rw [List.getElem?_append_right hge] at hz
      rw [List.getElem?_append_right (by rw [hi.len]; omega), hi.len] at hp
      have hk0 : k - s.ob.length = 0 := by
        rcases Nat.eq_zero_or_pos (k - s.ob.length) with h0 | h0
        · exact h0
        · rw [List.getElem?_eq_none (by simp; omega)] at hz; cases hz
      rw [hk0] at hz hp
      simp at hz hp
      exact .inr ⟨by omega, hz.symm, hp.symm⟩
  refine ⟨F', σ ++ [(b, c, xs.length)], h1.trans (he.below.mono h1.size), fun i hb => he.more _ (h2 i hb), fun i hb => ?_, ?_, by rw [Act.put_def]; exact h4, by rw [Act.put_size]; exact h5, ?_⟩
  · rcases he.new i hb with h | h
    · exact h3 i h
    · exact .inr (Nat.le_trans h1.size h)
  · unfold St.add
    rw [St.put_ob]
    refine ⟨hi'.flt, hi'.glob, by simp [hi.len], fun k z p hz hp => ?_, fun k k' z z' p p' hne hz hl hz' hl' hp hp' => ?_⟩
    · rcases cases_ k z p hz hp with ⟨-, q2, q3⟩ | ⟨-, rfl, rfl⟩
      · exact (hi'.obs k z p q2 q3).mono (fun _ h => h) (fun _ _ => rfl) σ_app (fun _ => rfl) (fun _ h => h)
      · exact hob'
    · have far : ∀ (k : Nat) z p, s.ob[k]? = some z → z.live = true → σ[k]? = some p → p.1 ≠ b := by
        intro k z p q2 hlv q3
        have := (hi.obs k z p q2 q3).lt hlv
        omega
      rcases cases_ k z p hz hp with ⟨q1, q2, q3⟩ | ⟨q1, rfl, rfl⟩ <;> rcases cases_ k' z' p' hz' hp' with ⟨q1', q2', q3'⟩ | ⟨q1', rfl, rfl⟩
      · exact hi.inj k k' z z' p p' hne q2 hl q2' hl' q3 q3'
      · exact far k z p q2 hl q3
      · exact fun e => far k' z' p' q2' hl' q3' e.symm
      · omega
  · unfold St.add
    exact lk_put (N := C.N) (s := { s with ob := s.ob ++ [AObj.row te size xs] }) (fun t => ((hs t).ext he hi.flt).mono (fun _ h => h) (fun _ _ => rfl) σ_app) h5 (dstOK_lt hdst) fun _ => ⟨b, c, xs.length, by rw [← hi.len]; simp, rfl⟩
section
variable {all : Array Oper} {K : St → Prop} {rest : List Oper} {tm : List (Nat × X)} {ob : List AObj} {d : Nat}
theorem go_callO {y : Operand} {args : List Operand} {tys : Array TypeId} {f : FuncId} {ds : List D} {te : TypeId} {size : Nat} {xs : List D}
    (ho : o.op = .call { callee := .value y, args := args.toArray, argTypes := tys }) (hg : guardX all tm o = some true) (hdst : o.dst = some d) (hd : Nat.blt d C.N = true)
    (hf : (⟨tm, ob⟩ : St).ev C.E y = .d (.imm (.func (.func f) #[] #[]))) (hds : datsX C.E ⟨tm, ob⟩ args = some ds) (hb : HasBody C.E f) (h0 : EvO C.E f ds te size xs)
    (h : SGo C all false rest ⟨(d, .own ob.length) :: tm, ob ++ [.row te size xs]⟩ K) : SGo C all false (o :: rest) ⟨tm, ob⟩ K := by
  refine SGo.eff (guardX_ok hg) (s_callO ho hf hb (datsX_ok hds) h0 (by simp only [dstOK, hdst]; exact hd)) ?_
  rw [hdst]
  exact h
theorem go_buildOwn {t : TypeId} {n : Nat} {parts : List (Nat × Operand)} {te : TE} {ds : List D} (ho : o.op = .buildSlice t n parts.toArray) (hg : guardX all tm o = some true) (hdst : o.dst = some d) (hd : Nat.blt d C.N = true) (hte : elemT C.E t = some te)
    (hp : partsX C.E ⟨tm, ob⟩ te.size 0 parts = some ds) (hn : n = ds.length) (hsm : n * te.size ≤ 16777216) (hn6 : n ≤ 16777216) (h : SGo C all false rest ⟨(d, .own ob.length) :: tm, ob ++ [.row te.t te.size ds]⟩ K) : SGo C all false (o :: rest) ⟨tm, ob⟩ K := by
  refine SGo.eff (guardX_ok hg) (s_buildOwn ho hte hp hn hsm hn6 (by simp only [dstOK, hdst]; exact hd)) ?_
  rw [hdst]
  exact h
end
theorem append0_run {P : Program} {w : World} {t t' ty : TypeId} {te : TE} {e' : TypeId} {base zb : Option Addr} {sl sc zc : Nat} (hu : P.underlying t = some (.slice te.t)) (hok : te.ok P) (hu' : P.underlying t' = some (.slice e')) (hle : sl ≤ sc) :
    (Builtin.append_ #[t, t'] ty #[.slice base sl sc, .slice zb 0 zc]).run P w = .ok (.slice base sl sc) w := by
  have hsz := sizeOf_run (w := w) hok
  have h0 : (Builtin.firstCells te.size 0 (.slice zb 0 zc)).run P w = .ok #[] w := by
    cases zb with
    | none => rfl
    | some a =>
      simp only [Builtin.firstCells, Nat.zero_mul]
      rfl
  cases base <;> simp [Builtin.append_, run_underlying hu, run_underlying hu', hsz, Builtin.lenOf, hle, h0, storeCells]
/-- append of nothing: the slice as it was. -/
theorem v_append0 {t t' : TypeId} {y z : Operand} {te : TE} {e' : TypeId} {xs : List D} (ho : o.op = .call { callee := .builtin .append, args := #[y, z], argTypes := #[t, t'] }) (hte : elemT C.E t = some te) (hd' : descOf C.E t' = some (.slice e'))
    (hy' : s.ev C.E y = .d (.sl xs)) (hz' : s.ev C.E z = .d (.sl [])) : VOp C s o (.d (.sl xs)) := by
  obtain ⟨hu, hok⟩ := elemT_ok hte
  refine VOp.pure_ fun F σ w a hi hr => ?_
  have hy := hr y (by simp [ho, Op.operands, Call.operands])
  have hz := hr z (by simp [ho, Op.operands, Call.operands])
  rw [hy'] at hy
  rw [hz'] at hz
  have key : ∀ v, (Builtin.append_ #[t, t'] o.type #[a.eval y, a.eval z]).run C.E.P w = .ok v w → (execOp a.eval o).run C.E.P w = .ok (.value v) w := by
    intro v hv
    simp [execOp, ho, resolve, invoke, builtin, hv]
  have hzv : ∃ zb zc, a.eval z = .slice zb 0 zc := by
    rcases Rd.sl_inv hz with ⟨-, e⟩ | ⟨_, ad, cap, e, -⟩
    · exact ⟨_, _, e⟩
    · exact ⟨_, _, e⟩
  obtain ⟨zb, zc, ez⟩ := hzv
  refine ⟨a.eval y, key _ ?_, hy⟩
  rcases Rd.sl_inv hy with ⟨-, e⟩ | ⟨_, ad, cap, e, h1, -⟩
  · rw [e, ez]; exact append0_run hu hok (descOf_ok hd') (Nat.le_refl _)
  · rw [e, ez]; exact append0_run hu hok (descOf_ok hd') h1
theorem go_append0 {all : Array Oper} {pu : Bool} {K : St → Prop} {rest : List Oper} {tm : List (Nat × X)} {ob : List AObj} {d : Nat} {t t' : TypeId} {y z : Operand} {te : TE} {e' : TypeId} {xs : List D} (ho : o.op = .call { callee := .builtin .append, args := #[y, z], argTypes := #[t, t'] })
    (hg : guardX all tm o = some true) (hdst : o.dst = some d) (hd : Nat.blt d C.N = true) (hte : elemT C.E t = some te) (hd' : descOf C.E t' = some (.slice e')) (hy' : (⟨tm, ob⟩ : St).ev C.E y = .d (.sl xs)) (hz' : (⟨tm, ob⟩ : St).ev C.E z = .d (.sl []))
    (h : SGo C all pu rest ⟨(d, .d (.sl xs)) :: tm, ob⟩ K) : SGo C all pu (o :: rest) ⟨tm, ob⟩ K :=
  go_vopG hg hdst hd (v_append0 ho hte hd' hy' hz') h
theorem qO {r : List It} {fn : Func} {t k : Nat} {te : TypeId} {size : Nat} {xs ys : List D} (hr : fn.results = #[.tmp t]) (h : lk s.tm t = .own k) (hob : s.ob[k]? = some (.row te size ys)) (he : ys = xs) : go C (.code .ret :: r) s (EndO C fn te size xs) := by
  subst he
  exact go_ret_ ⟨k, t, hr, h, hob⟩
theorem enterO1 {E : Env} {f : FuncId} {fn : Func} {c : Code} {d0 : D} {te : TypeId} {size : Nat} {xs : List D} {N : Nat} (hf : E.P.funcs[f]? = some fn) (hN : fn.ntmps = N) (hb : fn.body = some c) (hle : Nat.ble 1 N = true)
    (h : ∀ (w0 : World) (F0 : Nat → Prop), go ⟨E, w0, F0, N⟩ [.code c] ⟨[(0, .d d0)], []⟩ (EndO ⟨E, w0, F0, N⟩ fn te size xs)) : EvO E f [d0] te size xs :=
  EvO.enter hf hb hN (Nat.le_of_ble_eq_true hle) h
end
end Go.Abs
