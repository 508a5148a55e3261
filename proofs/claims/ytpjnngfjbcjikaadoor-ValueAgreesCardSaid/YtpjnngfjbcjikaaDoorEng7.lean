/- The engine's operations that turn the state: variables, stores; element addresses. Conditions: each operation's own. -/
import Derived.Test.YtpjnngfjbcjikaaDoorEng6
import Derived.Laws.CopyRow
namespace Go.Abs
open Go Go.RowKit

def oneAll : List Value → Bool
  | [] => true
  | v :: r => v.oneCell' && oneAll r
theorem oneAll_ok : ∀ {l : List Value}, oneAll l = true → ∀ v ∈ l, v.oneCell' = true
  | [], _, v, hv => by simp at hv
  | u :: r, h, v, hv => by
    simp only [oneAll, Bool.and_eq_true] at h
    rcases List.mem_cons.1 hv with e | e
    · rw [e]; exact h.1
    · exact oneAll_ok h.2 v e
theorem heap_push {w : World} {o : Obj} : (w.alloc o).heap[w.heap.size]? = some o := by
  show (w.heap.push o)[w.heap.size]? = _
  simp
theorem below_alloc (w : World) (o : Obj) : Below w.heap.size w (w.alloc o) := ⟨rfl, rfl, rfl, by simp, fun k hk => Below.heap_alloc w o k hk⟩
theorem ext_alloc {w : World} {F : Nat → Prop} (o : Obj) (hF : ∀ b, F b → b < w.heap.size) : Ext w F (w.alloc o) F := Ext.of_below (below_alloc w o) hF

theorem σ_app {σ : Sg} {p : Nat × Nat × Nat} : ∀ (o : Nat) q, σ[o]? = some q → (σ ++ [p])[o]? = some q := by
  intro o q h
  rw [List.getElem?_append_left (List.getElem?_eq_some_iff.1 h).1]
  exact h

/-- A new object in a new block. -/
theorem WInv.add {E : Env} {B : Nat} {F : Nat → Prop} {σ : Sg} {ob : List AObj} {w : World} (h : WInv E B F σ ob w) (o : Obj) (x : AObj) (c n : Nat)
    (hx : ObOK (w.alloc o) F (σ ++ [(w.heap.size, c, n)]) B x (w.heap.size, c, n)) : WInv E B F (σ ++ [(w.heap.size, c, n)]) (ob ++ [x]) (w.alloc o) := by
  have he := ext_alloc (F := F) o h.flt
  have h' := h.ext he
  refine ⟨h'.flt, h'.glob, by simp [h.len], fun k y p hy hp => ?_, fun k k' y y' p p' hne hy hl hy' hl' hp hp' => ?_⟩
  · rcases Nat.lt_or_ge k ob.length with hlt | hge
    · rw [List.getElem?_append_left hlt] at hy
      rw [List.getElem?_append_left (by rw [h.len]; exact hlt)] at hp
      exact (h'.obs k y p hy hp).mono (fun _ h => h) (fun _ _ => rfl) σ_app (fun _ => rfl) (fun _ h => h)
    · rw [List.getElem?_append_right hge] at hy
      rw [List.getElem?_append_right (by rw [h.len]; exact hge), h.len] at hp
      have hk : k - ob.length = 0 := by
        rcases Nat.eq_zero_or_pos (k - ob.length) with h0 | h0
        · exact h0
        · rw [List.getElem?_eq_none (by simp; omega)] at hy; cases hy
      rw [hk] at hy hp
      simp at hy hp
      subst hy hp
      exact hx
  · have key : ∀ k y p, (ob ++ [x])[k]? = some y → y.live = true → (σ ++ [(w.heap.size, c, n)])[k]? = some p → (k < ob.length ∧ ob[k]? = some y ∧ σ[k]? = some p ∧ p.1 < w.heap.size) ∨ (k = ob.length ∧ p.1 = w.heap.size) := by
      intro k y p hy hl hp
      rcases Nat.lt_or_ge k ob.length with hlt | hge
      · rw [List.getElem?_append_left hlt] at hy
        rw [List.getElem?_append_left (by rw [h.len]; exact hlt)] at hp
        exact .inl ⟨hlt, hy, hp, (h.obs k y p hy hp).lt hl⟩
      · rw [List.getElem?_append_right hge] at hy
        rw [List.getElem?_append_right (by rw [h.len]; exact hge), h.len] at hp
        have hk : k - ob.length = 0 := by
          rcases Nat.eq_zero_or_pos (k - ob.length) with h0 | h0
          · exact h0
          · rw [List.getElem?_eq_none (by simp; omega)] at hy; cases hy
        rw [hk] at hp
        simp at hp
        subst hp
        exact .inr ⟨by omega, rfl⟩
    rcases key k y p hy hl hp with ⟨a1, a2, a3, a4⟩ | ⟨a1, a2⟩ <;> rcases key k' y' p' hy' hl' hp' with ⟨b1, b2, b3, b4⟩ | ⟨b1, b2⟩
    · exact h.inj k k' y y' p p' hne a2 hl b2 hl' a3 b3
    · omega
    · omega
    · omega

def St.add (s : St) (dst : Option Tmp) (x : AObj) (y : X) : St := St.put { s with ob := s.ob ++ [x] } dst y

theorem rel_add {C : Cx} {s : St} {a : Act} {w : World} {F : Nat → Prop} {σ : Sg} {o : Oper} {y : X} {v : Value} {ob : Obj} {x : AObj} {c n : Nat}
    (h1 : Below C.w0.heap.size C.w0 w) (h2 : ∀ b, C.F0 b → F b) (h3 : ∀ b, F b → C.F0 b ∨ C.w0.heap.size ≤ b) (hi : WInv C.E C.w0.heap.size F σ s.ob w)
    (h4 : a.defers = []) (h5 : a.tmps.size = C.N) (hs : ∀ t, RdX w F σ (lk s.tm t) (a.tmps.getD t undef)) (hd : dstOK C o = true)
    (hx : ObOK (w.alloc ob) F (σ ++ [(w.heap.size, c, n)]) C.w0.heap.size x (w.heap.size, c, n)) (hv : RdX (w.alloc ob) F (σ ++ [(w.heap.size, c, n)]) y v) :
    C.Rel (s.add o.dst x y) (a.put o.dst v) (w.alloc ob) := by
  have he := ext_alloc (F := F) ob hi.flt
  refine ⟨F, σ ++ [(w.heap.size, c, n)], h1.trans (he.below.mono h1.size), h2, h3, ?_, by rw [Act.put_def]; exact h4, by rw [Act.put_size]; exact h5, ?_⟩
  · unfold St.add
    rw [St.put_ob]
    exact hi.add ob x c n hx
  · unfold St.add
    exact lk_put (N := C.N) (s := { s with ob := s.ob ++ [x] }) (fun t => ((hs t).ext he hi.flt).mono (fun _ h => h) (fun _ _ => rfl) σ_app) h5 (dstOK_lt hd) fun _ => hv

def X.held : X → Bool
  | .d _ | .nilS | .ptr _ _ | .at_ _ _ | .own _ | .pel _ _ _ _ => true
  | _ => false

/-- The cells of what a slot holds. -/
theorem RdX.cells_ {w : World} {F : Nat → Prop} {σ : Sg} {x : X} {v : Value} (h : RdX w F σ x v) (hx : x.held = true) :
    v.cells.size = x.cells.length ∧ (∀ u ∈ v.cells.toList, u.oneCell' = true) ∧ ∀ (i : Nat) y u, x.cells[i]? = some y → v.cells.toList[i]? = some u → RdX w F σ y u := by
  have one : v.oneCell' = true → x.cells = [x] → v.cells.size = x.cells.length ∧ (∀ u ∈ v.cells.toList, u.oneCell' = true) ∧ ∀ (i : Nat) y u, x.cells[i]? = some y → v.cells.toList[i]? = some u → RdX w F σ y u := by
    intro hv hc
    have hvc : v.cells = #[v] := by cases v <;> simp_all [Value.oneCell', Value.cells]
    rw [hvc, hc]
    refine ⟨rfl, by simpa using hv, ?_⟩
    intro i y u hy hu
    cases i with
    | zero => simp at hy hu; subst hy hu; exact h
    | succ i => simp at hy
  cases x with
  | d d =>
    obtain ⟨a1, a2, a3⟩ := Rd.cells h
    refine ⟨by simp [X.cells, a1], fun u hu => ?_, fun i y u hy hu => ?_⟩
    · obtain ⟨i, hi⟩ := List.getElem?_of_mem hu
      have hlt : i < d.cells.length := by rw [← a1]; simpa using (List.getElem?_eq_some_iff.1 hi).1
      have hc := List.getElem?_eq_getElem hlt
      exact (a2 i _ u hc (by simpa using hi)).one (a3 _ (List.getElem_mem hlt))
    · simp only [X.cells, List.getElem?_map, Option.map_eq_some_iff] at hy
      obtain ⟨c, hc, rfl⟩ := hy
      exact a2 i c u hc (by simpa using hu)
  | nilS => exact one (by rw [show v = _ from h]; rfl) rfl
  | ptr o k => obtain ⟨b, c, n, -, rfl⟩ := h; exact one rfl rfl
  | at_ y k => obtain ⟨ad, -, rfl⟩ := h; exact one rfl rfl
  | own o => obtain ⟨b, c, n, -, rfl⟩ := h; exact one rfl rfl
  | pel o i k z => obtain ⟨b, c, n, -, rfl⟩ := h; exact one rfl rfl
  | _ => simp [X.held] at hx

section
variable {C : Cx} {s : St} {o : Oper} {x : X}

theorem s_box {t : TypeId} {y : Operand} (ho : o.op = .box t y) (hx : s.ev C.E y = x) (hh : x.held = true) (hd : dstOK C o = true) : SOp C s o (s.add o.dst (.var t (.w x)) (.ptr s.ob.length 0)) := by
  rintro w a K Q ⟨F, σ, h1, h2, h3, hi, h4, h5, hs⟩ hK
  have hv := ev_rd (E := C.E) hi hs y
  rw [hx] at hv
  have hrun : (execOp a.eval o).run C.E.P w = .ok (.value (.pointer (some ⟨w.heap.size, 0, none⟩))) (w.alloc (.cells (a.eval y).cells t)) := by
    simp [execOp, ho, Instr.box, newVar, newRow]
  unfold Oper.wp
  rw [hrun]
  have he := ext_alloc (F := F) (.cells (a.eval y).cells t) hi.flt
  have hv' : RdX (w.alloc (.cells (a.eval y).cells t)) F (σ ++ [(w.heap.size, 0, 0)]) x (a.eval y) := (hv.ext he hi.flt).mono (fun _ h => h) (fun _ _ => rfl) σ_app
  obtain ⟨c1, c2, c3⟩ := hv'.cells_ hh
  refine hK _ _ (rel_add h1 h2 h3 hi h4 h5 hs hd (x := .var t (.w x)) (c := 0) (n := 0) ⟨(a.eval y).cells.toList, by simpa using heap_push, by simpa [VC.cells] using c1.symm, c2, c3, h1.size, fun hf => ?_⟩ ⟨w.heap.size, 0, 0, ?_, rfl⟩)
  · exact absurd (hi.flt _ hf) (Nat.lt_irrefl _)
  · rw [← hi.len]; simp

theorem zero_run {P : Program} {e : TE} {w : World} (h : e.ok P) : (zeroValue e.t).run P w = .ok e.zero w := by
  obtain ⟨_, i, hi, _, _, hz⟩ := h
  simp [zeroValue, typeInfo, hi, hz]

theorem s_alloc {t : TypeId} {e : TE} (ho : o.op = .alloc t) (he : findT C.E.T t = some e) (h1z : oneAll e.zero.cells.toList = true) (hd : dstOK C o = true) :
    SOp C s o (s.add o.dst (.var t (.cs (e.zero.cells.toList.map ofConst))) (.ptr s.ob.length 0)) := by
  obtain ⟨hok, rfl⟩ := findT_ok he
  rintro w a K Q ⟨F, σ, h1, h2, h3, hi, h4, h5, hs⟩ hK
  have hrun : (execOp a.eval o).run C.E.P w = .ok (.value (.pointer (some ⟨w.heap.size, 0, none⟩))) (w.alloc (.cells e.zero.cells e.t)) := by
    simp [execOp, ho, Instr.alloc, zero_run hok, newVar, newRow]
  unfold Oper.wp
  rw [hrun]
  refine hK _ _ (rel_add h1 h2 h3 hi h4 h5 hs hd (x := .var e.t (.cs (e.zero.cells.toList.map ofConst))) (c := 0) (n := 0) ⟨e.zero.cells.toList, by simpa using heap_push, by simp [VC.cells], fun v hv => ?_, fun i y u hy hu => ?_, h1.size, fun hf => ?_⟩ ⟨w.heap.size, 0, 0, ?_, rfl⟩)
  · exact oneAll_ok h1z v hv
  · simp only [VC.cells, List.getElem?_map, Option.map_eq_some_iff] at hy
    obtain ⟨c, hc, rfl⟩ := hy
    rw [hu] at hc
    cases hc
    exact ofConst_rd _
  · exact absurd (hi.flt _ hf) (Nat.lt_irrefl _)
  · rw [← hi.len]; simp

/-- The cells of a variable, some of them written. -/
def setX : List X → Nat → List X → List X
  | cs, _, [] => cs
  | cs, k, d :: r => setX (cs.set k d) (k + 1) r
def storeC (c : VC) (off : Nat) (x : X) : VC :=
  bif Nat.beq off 0 && Nat.beq x.cells.length c.cells.length then .w x else .cs (setX c.cells off x.cells)
theorem setX_spec : ∀ (r cs : List X) (k : Nat), k + r.length ≤ cs.length → setX cs k r = cs.take k ++ r ++ cs.drop (k + r.length)
  | [], cs, k, _ => by simp [setX]
  | d :: r, cs, k, h => by
    simp only [setX]
    simp only [List.length_cons] at h
    rw [setX_spec r (cs.set k d) (k + 1) (by simp; omega)]
    have hk : k < cs.length := by omega
    have e1 : (cs.set k d).take (k + 1) = cs.take k ++ [d] := by
      rw [List.take_succ_eq_append_getElem (by simp; omega), List.take_set_of_le (Nat.le_refl _)]
      simp
    have e2 : (cs.set k d).drop (k + 1 + r.length) = cs.drop (k + (d :: r).length) := by
      rw [List.drop_set_of_lt (by omega)]
      simp only [List.length_cons]
      congr 1
      omega
    rw [e1, e2]
    simp
theorem storeC_cells {c : VC} {off : Nat} {x : X} (h : off + x.cells.length ≤ c.cells.length) : (storeC c off x).cells = c.cells.take off ++ x.cells ++ c.cells.drop (off + x.cells.length) := by
  unfold storeC
  cases hb : Nat.beq off 0 && Nat.beq x.cells.length c.cells.length with
  | true =>
    rw [Bool.and_eq_true] at hb
    have h1 := Nat.eq_of_beq_eq_true hb.1
    have h2 := Nat.eq_of_beq_eq_true hb.2
    subst h1
    simp [VC.cells, h2]
  | false => simp only [cond_false, VC.cells]; exact setX_spec _ _ _ h

theorem setRow_size (w : World) (b : Nat) (cs : Array Value) : (w.setRow b cs).heap.size = w.heap.size := by simp [World.setRow]
theorem setRow_other (w : World) (b : Nat) (cs : Array Value) (k : Nat) (h : k ≠ b) : (w.setRow b cs).heap[k]? = w.heap[k]? := by
  simp only [World.setRow, Array.getElem?_modify]
  rw [if_neg (fun e => h e.symm)]

/-- One object turns, in its own block. -/
theorem WInv.turn {E : Env} {B : Nat} {F : Nat → Prop} {σ : Sg} {ob : List AObj} {w : World} {i b c n : Nat} {x y : AObj} (h : WInv E B F σ ob w) (hx : ob[i]? = some x) (hl : x.live = true) (hσ : σ[i]? = some (b, c, n)) (hF : ¬ F b)
    {cs : Array Value} (hy : ObOK (w.setRow b cs) F σ B y (b, c, n)) : WInv E B F σ (ob.set i y) (w.setRow b cs) := by
  have keep : ∀ k, F k → (w.setRow b cs).heap[k]? = w.heap[k]? := fun k hk => setRow_other w b cs k (fun e => hF (e ▸ hk))
  refine ⟨fun k hk => by rw [setRow_size]; exact h.flt k hk, h.glob.mono (fun _ h => h) keep, by simp [h.len], fun k z p hz hp => ?_, fun k k' z z' p p' hne hz hzl hz' hzl' hp hp' => ?_⟩
  · rw [List.getElem?_set] at hz
    split at hz
    · rename_i he
      subst he
      split at hz
      · cases hz
        rw [hσ] at hp
        cases hp
        exact hy
      · cases hz
    · rename_i he
      refine (h.obs k z p hz hp).mono (fun _ h => h) keep (fun _ _ h => h) (fun hzl => ?_) (fun _ h => h)
      exact setRow_other w b cs p.1 (h.inj k i z x p (b, c, n) (fun e => he e.symm) hz hzl hx hl hp hσ)
  · have key : ∀ (k : Nat) (z : AObj), (ob.set i y)[k]? = some z → z.live = true → ∃ u : AObj, ob[k]? = some u ∧ u.live = true := by
      intro k z hz hzl
      rw [List.getElem?_set] at hz
      split at hz
      · rename_i he; subst he; exact ⟨x, hx, hl⟩
      · exact ⟨z, hz, hzl⟩
    obtain ⟨u, u1, u2⟩ := key k z hz hzl
    obtain ⟨u', u1', u2'⟩ := key k' z' hz' hzl'
    exact h.inj k k' u u' p p' hne u1 u2 u1' u2' hp hp'

def St.setOb (s : St) (i : Nat) (y : AObj) : St := { s with ob := s.ob.set i y }

theorem s_store {t ty : TypeId} {y z : Operand} {i off : Nat} {c : VC} {e : TE} (ho : o.op = .store t y z) (hdst : o.dst = none) (hy : s.ev C.E y = .ptr i off) (hz : s.ev C.E z = x) (hh : x.held = true) (hob : s.ob[i]? = some (.var ty c))
    (he : findT C.E.T t = some e) (hsz : Nat.beq x.cells.length e.size = true) (hle : Nat.ble (off + x.cells.length) c.cells.length = true) : SOp C s o (s.setOb i (.var ty (storeC c off x))) := by
  obtain ⟨hok, rfl⟩ := findT_ok he
  have hsz' := Nat.eq_of_beq_eq_true hsz
  have hle' := Nat.le_of_ble_eq_true hle
  rintro w a K Q ⟨F, σ, h1, h2, h3, hi, h4, h5, hs⟩ hK
  have hv := ev_rd (E := C.E) hi hs z
  rw [hz] at hv
  have hp := ev_rd (E := C.E) hi hs y
  rw [hy] at hp
  obtain ⟨b, cc, n, p1, p2⟩ := hp
  obtain ⟨vs, q1, q2, q3, q4, q5, q6⟩ := hi.obs i _ _ hob p1
  obtain ⟨c1, c2, c3⟩ := hv.cells_ hh
  have hrow := run_storeCells_at C.E.P b off ty (a.eval z).cells.toList 0 vs.toArray w q1 (by simp; omega) c2
  have hrun : (execOp a.eval o).run C.E.P w = .ok .skip (w.setRow b (vs.take off ++ (a.eval z).cells.toList ++ vs.drop (off + (a.eval z).cells.toList.length)).toArray) := by
    simp only [execOp, ho, Instr.storeAt, p2, Instr.sureAddr, storeVar, Sem.run_bind, Sem.run_pure, Result.andThen_ok, sizeOf_run hok]
    rw [if_neg (by rw [c1, hsz']; simp)]
    simp only [Nat.add_zero] at hrow
    rw [hrow]
    rfl
  unfold Oper.wp
  rw [hrun]
  simp only [Oper.upon]
  rw [hdst]
  refine hK _ _ ⟨F, σ, ?_, h2, h3, ?_, h4, h5, fun t => ?_⟩
  · refine h1.trans ⟨rfl, rfl, rfl, Nat.le_of_eq (setRow_size _ _ _).symm, fun k hk => setRow_other _ _ _ _ (by omega)⟩
  · refine hi.turn hob rfl p1 q6 ?_
    have keep : ∀ k, F k → (w.setRow b (vs.take off ++ (a.eval z).cells.toList ++ vs.drop (off + (a.eval z).cells.toList.length)).toArray).heap[k]? = w.heap[k]? := fun k hk => setRow_other w b _ k (fun e => q6 (e ▸ hk))
    refine ⟨_, setRow_heap w b vs.toArray _ ty _ q1, ?_, fun v hv => ?_, fun j xj v hj hvj => ?_, q5, q6⟩
    · rw [storeC_cells hle']
      simp only [List.length_append, List.length_take, List.length_drop, q2, Array.length_toList, c1]
    · rw [List.mem_append, List.mem_append] at hv
      rcases hv with (hv | hv) | hv
      · exact q3 v (List.mem_of_mem_take hv)
      · exact c2 v hv
      · exact q3 v (List.mem_of_mem_drop hv)
    · rw [storeC_cells hle'] at hj
      refine RdX.mono ?_ (fun _ h => h) keep (fun _ _ h => h)
      have hcl : (a.eval z).cells.toList.length = x.cells.length := by simp [c1]
      rw [hcl] at hvj
      rcases Nat.lt_or_ge j off with hlt | hge
      · have h1 : (c.cells.take off).length = off := by rw [List.length_take]; omega
        have h2 : (vs.take off).length = off := by rw [List.length_take, ← q2]; omega
        rw [List.append_assoc, List.getElem?_append_left (by omega), List.getElem?_take, if_pos hlt] at hj
        rw [List.append_assoc, List.getElem?_append_left (by omega), List.getElem?_take, if_pos hlt] at hvj
        exact q4 j xj v hj hvj
      · have h1 : (c.cells.take off).length = off := by rw [List.length_take]; omega
        have h2 : (vs.take off).length = off := by rw [List.length_take, ← q2]; omega
        rw [List.append_assoc, List.getElem?_append_right (by omega), h1] at hj
        rw [List.append_assoc, List.getElem?_append_right (by omega), h2] at hvj
        rcases Nat.lt_or_ge (j - off) x.cells.length with hlt | hge2
        · rw [List.getElem?_append_left hlt] at hj
          rw [List.getElem?_append_left (by omega)] at hvj
          exact c3 _ xj v hj hvj
        · rw [List.getElem?_append_right hge2, List.getElem?_drop] at hj
          rw [List.getElem?_append_right (by omega), hcl, List.getElem?_drop] at hvj
          exact q4 _ xj v hj hvj
  · refine (hs t).mono (fun _ h => h) (fun k hk => setRow_other w b _ k (fun e => q6 (e ▸ hk))) (fun _ _ h => h)

/-- An element's address in data. -/
theorem v_indexAddr {t : TypeId} {y z : Operand} {xs : List D} {k : IntKind} {i : Int} {d : D} {te : TE} (ho : o.op = .indexAddr t y z) (hy' : s.ev C.E y = .d (.sl xs)) (hz' : s.ev C.E z = .d (.imm (.int k i)))
    (hte : elemT C.E t = some te) (h0 : 0 ≤ i) (hd : xs[i.toNat]? = some d) (hsz : d.cells.length = te.size) : VOp C s o (.at_ d 0) := by
  obtain ⟨hu, hok⟩ := elemT_ok hte
  refine VOp.pure_ fun F σ w a hi hr => ?_
  have hy := hr y (by simp [ho, Op.operands])
  have hz := hr z (by simp [ho, Op.operands])
  rw [hy'] at hy
  rw [hz'] at hz
  obtain ⟨e2, -⟩ := Rd.imm_inv hz
  have hlt : i.toNat < xs.length := (List.getElem?_eq_some_iff.1 hd).1
  rcases Rd.sl_inv hy with ⟨rfl, hev⟩ | ⟨size, ad, cap, hev, h1, h2, h3, h4, h5, h6⟩
  · simp at hlt
  · have hm : d ∈ xs := List.mem_of_getElem? hd
    have hsize : size = te.size := by rw [← h4 d hm, hsz]
    refine ⟨.pointer (some (ad.add (i.toNat * te.size))), ?_, ad.add (i.toNat * te.size), ⟨?_, h5 d hm, fun j c hj => ?_⟩, by simp [Addr.add]⟩
    · have hlt' : 0 ≤ i ∧ i < (xs.length : Int) := ⟨h0, by omega⟩
      simp [execOp, ho, hev, e2, Instr.indexAt, asIntOf, run_underlying hu, hlt', sizeOf_run hok]
    · rw [block_add]
      exact h3 (fun e => by rw [e] at hlt; simp at hlt)
    · obtain ⟨u, hu1, hu2⟩ := h6 i.toNat d j c hd hj
      exact ⟨u, by rw [add_add, ← hsize]; exact hu1, hu2⟩
end
end Go.Abs
