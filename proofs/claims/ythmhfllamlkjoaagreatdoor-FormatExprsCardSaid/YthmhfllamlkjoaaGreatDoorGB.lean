/- Structs that are built; and the steps of a walk, each in the form in which it is applied; Rows of the call's own: append, make, loads and stores of elements; and that a row that nobody writes any more counts as data; Elements of the call's own rows, make, literals of slices, and that a row that nobody writes any more counts as data; Literals of slices, conversions, sub-slices, and one step for these operations beside the elder ones; Conversions, given results of arithmetic that wraps, sub-slices; and one step for all operations of the engine; Slices that are made and never written: they count . Conditions: each part's own, as it says. -/
import Derived.Test.YthmhfllamlkjoaaGreatDoorGA
import Derived.Maps.AppendAt
import Derived.Laws.OwnMore
import Derived.Laws.BytesArg
import Derived.Laws.StructEq
/- Structs that are built; and the steps of a walk, each in the form in which it is applied. Conditions: each operation's own. -/
namespace Go.Abs
open Go Go.RowKit

section
variable {C : Cx} {s : St} {o : Oper} {x : X} {p : Prop}

/-- A row of cells that reads as a row of data. -/
structure CellsRd (w : World) (F : Nat → Prop) (vs : List Value) (cs : List D) : Prop where
  len : cs.length = vs.length
  one : ∀ v ∈ vs, v.oneCell' = true
  rd : ∀ (i : Nat) v, vs[i]? = some v → ∃ d, cs[i]? = some d ∧ Rd w F d v

theorem setAll_spec : ∀ (r cs : List D) (k : Nat), k + r.length ≤ cs.length → setAll cs k r = cs.take k ++ r ++ cs.drop (k + r.length)
  | [], cs, k, _ => by simp [setAll]
  | d :: r, cs, k, h => by
    simp only [setAll]
    simp only [List.length_cons] at h
    rw [setAll_spec r (cs.set k d) (k + 1) (by simp; omega)]
    have e1 : (cs.set k d).take (k + 1) = cs.take k ++ [d] := by
      rw [List.take_succ_eq_append_getElem (by simp; omega), List.take_set_of_le (Nat.le_refl _)]
      simp
    have e2 : (cs.set k d).drop (k + 1 + r.length) = cs.drop (k + (d :: r).length) := by
      rw [List.drop_set_of_lt (by omega)]
      simp only [List.length_cons]
      congr 1
      omega
    rw [e1, e2]
    simp
theorem setV_spec : ∀ (r : List Value) (cs : Array Value) (off j : Nat), off + j + r.length ≤ cs.size →
    ((r.zipIdx j).foldl (fun cs (c, j) => cs.setIfInBounds (off + j) c) cs).toList = cs.toList.take (off + j) ++ r ++ cs.toList.drop (off + j + r.length)
  | [], cs, off, j, _ => by simp
  | d :: r, cs, off, j, h => by
    simp only [List.length_cons] at h
    rw [List.zipIdx_cons, List.foldl_cons, setV_spec r _ off (j + 1) (by simp; omega)]
    simp only [Array.toList_setIfInBounds]
    have e1 : (cs.toList.set (off + j) d).take (off + (j + 1)) = cs.toList.take (off + j) ++ [d] := by
      rw [show off + (j + 1) = (off + j) + 1 from by omega, List.take_succ_eq_append_getElem (by simp; omega), List.take_set_of_le (Nat.le_refl _)]
      simp
    have e2 : (cs.toList.set (off + j) d).drop (off + (j + 1) + r.length) = cs.toList.drop (off + j + (d :: r).length) := by
      rw [List.drop_set_of_lt (by omega)]
      simp only [List.length_cons]
      congr 1
      omega
    rw [e1, e2]
    simp

theorem CellsRd.set_ {w : World} {F : Nat → Prop} {vs : List Value} {cs : List D} {v : Value} {d : D} {off : Nat} (h : CellsRd w F vs cs) (hv : Rd w F d v) (hle : off + d.cells.length ≤ cs.length) :
    CellsRd w F (vs.take off ++ v.cells.toList ++ vs.drop (off + v.cells.toList.length)) (setAll cs off d.cells) := by
  obtain ⟨a1, a2, a3⟩ := hv.cells
  have hl : v.cells.toList.length = d.cells.length := by simpa using a1
  rw [setAll_spec _ _ _ hle]
  have hlen := h.len
  refine ⟨?_, fun u hu => ?_, fun i u hu => ?_⟩
  · simp only [List.length_append, List.length_take, List.length_drop, hl, hlen]
  · rw [List.mem_append, List.mem_append] at hu
    rcases hu with (hu | hu) | hu
    · exact h.one u (List.mem_of_mem_take hu)
    · obtain ⟨i, hi⟩ := List.getElem?_of_mem hu
      have hlt : i < d.cells.length := by rw [← hl]; exact (List.getElem?_eq_some_iff.1 hi).1
      exact (a2 i _ u (List.getElem?_eq_getElem hlt) (by simpa using hi)).one (a3 _ (List.getElem_mem hlt))
    · exact h.one u (List.mem_of_mem_drop hu)
  · have h1 : (cs.take off).length = off := by rw [List.length_take]; omega
    have h2 : (vs.take off).length = off := by rw [List.length_take]; omega
    rcases Nat.lt_or_ge i off with hlt | hge
    · rw [List.append_assoc, List.getElem?_append_left (by omega), List.getElem?_take, if_pos hlt] at hu
      rw [List.append_assoc, List.getElem?_append_left (by omega), List.getElem?_take, if_pos hlt]
      exact h.rd i u hu
    · rw [List.append_assoc, List.getElem?_append_right (by omega), h2] at hu
      rw [List.append_assoc, List.getElem?_append_right (by omega), h1]
      rcases Nat.lt_or_ge (i - off) d.cells.length with hlt | hge2
      · rw [List.getElem?_append_left (by omega)] at hu
        rw [List.getElem?_append_left hlt]
        exact ⟨_, List.getElem?_eq_getElem hlt, a2 _ _ u (List.getElem?_eq_getElem hlt) (by simpa using hu)⟩
      · rw [List.getElem?_append_right (by omega), hl, List.getElem?_drop] at hu
        rw [List.getElem?_append_right hge2, List.getElem?_drop]
        exact h.rd _ u hu

theorem placeOf_ok {E : Env} {fs : Array Field} {i off size : Nat} (h : placeOf E fs i = some (off, size)) : ∃ fd i', fs[i]? = some fd ∧ fd.offset = off ∧ E.P.info? fd.type = some i' ∧ i'.size = size := by
  unfold placeOf at h
  split at h
  · rename_i fd hfd
    split at h
    · rename_i e he
      obtain ⟨⟨-, i', hi, hs, -⟩, ht⟩ := findT_ok he
      obtain ⟨rfl, rfl⟩ := Prod.mk.inj (Option.some.inj h)
      exact ⟨fd, i', hfd, rfl, by rw [← ht]; exact hi, hs⟩
    · cases h
  · cases h

theorem fill_ok {E : Env} {fs : Array Field} {w : World} {F : Nat → Prop} {σ : Sg} {a : Act} {places : Array (Nat × Nat)} (hpl : ∀ (i off size : Nat), placeOf E fs i = some (off, size) → places[i]? = some (off, size)) :
    ∀ (parts : List (Nat × Operand)) (vs : Array Value) (cs cs' : List D), (∀ q ∈ parts, RdX w F σ (s.ev E q.2) (a.eval q.2)) → CellsRd w F vs.toList cs → fillX E fs s parts cs = some cs' →
      ∃ vs', Instr.fill (places[·]?) vs (parts.map fun q => (q.1, a.eval q.2)) = some vs' ∧ CellsRd w F vs'.toList cs'
  | [], vs, cs, cs', _, h, hf => by
    simp only [fillX] at hf
    cases hf
    exact ⟨vs, rfl, h⟩
  | (i, y) :: r, vs, cs, cs', ha, h, hf => by
    simp only [fillX] at hf
    split at hf
    · cases hf
    · rename_i off size hp
      split at hf
      · cases hf
      · rename_i d hd
        cases hb : (Nat.beq d.cells.length size && Nat.ble (off + d.cells.length) cs.length) with
        | false => rw [hb] at hf; cases hf
        | true =>
          rw [hb] at hf
          rw [Bool.and_eq_true] at hb
          have h1 := Nat.eq_of_beq_eq_true hb.1
          have h2 := Nat.le_of_ble_eq_true hb.2
          have hv : Rd w F d (a.eval y) := toD_rd hd (ha (i, y) (by simp))
          obtain ⟨a1, -, -⟩ := hv.cells
          have hlen := h.len
          have hsz : vs.size = cs.length := by rw [hlen]; simp
          have hs := setV_spec (a.eval y).cells.toList vs off 0 (by simp; omega)
          obtain ⟨vs', e1, e2⟩ := fill_ok hpl r (((a.eval y).cells.toList.zipIdx 0).foldl (fun cs (c, j) => cs.setIfInBounds (off + j) c) vs) _ cs' (fun q hq => ha q (by simp [hq]))
            (by rw [hs]; exact h.set_ hv h2) (by simpa using hf)
          refine ⟨vs', ?_, e2⟩
          simp only [List.map_cons, Instr.fill, hpl i off size hp]
          rw [if_neg (by simp; omega)]
          rw [← e1]
          congr 1
          rw [← Array.foldl_toList]
          congr 1
          simp [Array.toList_zipIdx]

theorem zeroDs_ok {w : World} {F : Nat → Prop} : ∀ {vs : List Value} {cs : List D}, zeroDs vs = some cs → (∀ v ∈ vs, v.oneCell' = true) → CellsRd w F vs cs
  | [], cs, h, _ => by
    simp only [zeroDs] at h
    cases h
    exact ⟨rfl, fun v h => (by simp at h), fun i v h => (by simp at h)⟩
  | v :: r, cs, h, h1 => by
    simp only [zeroDs] at h
    split at h
    · rename_i d hd
      rw [Option.map_eq_some_iff] at h
      obtain ⟨cs', hc, rfl⟩ := h
      have ih := zeroDs_ok (w := w) (F := F) hc fun v hv => h1 v (by simp [hv])
      refine ⟨by simp [ih.len], h1, fun i u hu => ?_⟩
      cases i with
      | zero => simp at hu; subst hu; exact ⟨d, by simp, toD_rd hd (ofConst_rd (σ := []) v)⟩
      | succ i => simpa using ih.rd i u (by simpa using hu)
    · cases h

theorem mapM_places {E : Env} {w : World} : ∀ (fs : List Field), allPlaces E fs = true → ∃ ps : List (Nat × Nat), (fs.mapM fun f => (do pure (f.offset, ← sizeOf f.type) : Sem (Nat × Nat))).run E.P w = .ok ps w ∧
    ∀ (i off size : Nat), placeOf E fs.toArray i = some (off, size) → ps[i]? = some (off, size)
  | [], _ => ⟨[], rfl, fun i off size h => by simp [placeOf] at h⟩
  | f :: r, h => by
    simp only [allPlaces, List.all_cons, Bool.and_eq_true] at h
    obtain ⟨ps, h1, h2⟩ := mapM_places (w := w) r h.2
    obtain ⟨e, he⟩ := Option.isSome_iff_exists.1 h.1
    obtain ⟨hok, ht⟩ := findT_ok he
    have hs := sizeOf_run (w := w) hok
    rw [ht] at hs
    refine ⟨(f.offset, e.size) :: ps, ?_, fun i off size hp => ?_⟩
    · simp only [List.mapM_cons, Sem.run_bind, hs, Result.andThen_ok, Sem.run_pure, h1]
    · cases i with
      | zero =>
        simp only [placeOf, List.getElem?_toArray, List.getElem?_cons_zero, he] at hp
        simpa using hp
      | succ i =>
        have hp' : placeOf E r.toArray i = some (off, size) := by simpa [placeOf] using hp
        simpa using h2 i off size hp'

theorem v_build {t : TypeId} {parts : Array (Nat × Operand)} (ho : o.op = .build t parts) (h : buildX C.E s t parts.toList = some (p, x)) (hz1 : ∀ e, findT C.E.T t = some e → oneAll e.zero.cells.toList = true) : VOp C s o x := by
  refine VOp.pure_ fun F σ w a hi hr => ?_
  unfold buildX at h
  split at h
  · rename_i e he
    obtain ⟨hok, rfl⟩ := findT_ok he
    have hz := hz1 e he
    split at h
    · rename_i fs hd
      have hu := hok.1
      rw [hd] at hu
      cases hb : allPlaces C.E fs.toList with
      | false => rw [hb] at h; cases h
      | true =>
        rw [hb] at h
        simp only [cond_true] at h
        split at h
        · rename_i zs hzs
          split at h
          · rename_i cs hcs
            obtain ⟨rfl, rfl⟩ := Prod.mk.inj (Option.some.inj h)
            obtain ⟨ps, m1, m2⟩ := mapM_places (E := C.E) (w := w) fs.toList hb
            have hz0 := zeroDs_ok (w := w) (F := F) hzs fun v hv => oneAll_ok hz v hv
            obtain ⟨vs', f1, f2⟩ := fill_ok (s := s) (a := a) (σ := σ) (places := ps.toArray) (fun i off size hp => by simpa using m2 i off size (by simpa using hp)) parts.toList e.zero.cells zs cs
              (fun q hq => hr q.2 (by simp [ho, Op.operands]; exact ⟨q.1, by simpa using hq⟩)) hz0 hcs
            refine ⟨.agg vs', ?_, ?_⟩
            · have m1' : (fs.mapM fun f => (do pure (f.offset, ← sizeOf f.type) : Sem (Nat × Nat))).run C.E.P w = .ok ps.toArray w := by
                rw [← Array.toArray_toList (xs := fs), List.mapM_toArray]
                simp only [map_eq_pure_bind, Sem.run_bind, m1, Result.andThen_ok, Sem.run_pure]
              have hparts : (parts.map fun (i, x) => (i, a.eval x)).toList = parts.toList.map fun q => (q.1, a.eval q.2) := by simp
              simp only [execOp, ho, Instr.build, Sem.run_bind, zero_run hok, Result.andThen_ok, run_underlying hu, m1', hparts, f1, Sem.run_pure]
            · have := rd_agg (ds := cs) (vs := vs'.toList) f2.len f2.one f2.rd
              show Rd w F (.agg cs) (.agg vs')
              simpa using this
          · cases h
        · cases h
    · cases h
  · cases h

/-- Two operands of one type are the same exactly where the model says so. -/
def vop (C : Cx) (s : St) (o : Oper) : VR :=
  match o.op with
  | .move y => fw (s.ev C.E y)
  | .assign y => fw (s.ev C.E y)
  | .pick c a b => pickX (s.ev C.E c) (s.ev C.E a) (s.ev C.E b)
  | .binOp op t y z _ => binX C.E op t (s.ev C.E y) (s.ev C.E z)
  | .unOp op _ y => unX op (s.ev C.E y)
  | .fieldAddr t y f => (match fieldOff C.E t f with
    | some k => addX k (s.ev C.E y)
    | none => none)
  | .load t y => loadX C.E s.ob t (s.ev C.E y)
  | .index t y z => indexX C.E t (s.ev C.E y) (s.ev C.E z)
  | .build t parts => (match findT C.E.T t with
    | some e => bif oneAll e.zero.cells.toList then buildX C.E s t parts.toList else none
    | none => none)
  | .extract y k => (match s.ev C.E y with
    | .tup xs => (match xs[k]? with
      | some d => some (True, .d d)
      | none => none)
    | _ => none)
  | .call c => (match c.callee with
    | .builtin b => (match b, c.args.toList, c.argTypes.toList with
      | .len, [y], [t] => lenX C.E s.ob t (s.ev C.E y)
      | .min, [y, z], [_, _] => minX false (s.ev C.E y) (s.ev C.E z)
      | .max, [y, z], [_, _] => minX true (s.ev C.E y) (s.ev C.E z)
      | _, _, _ => none)
    | _ => none)
  | _ => none

theorem vop_ok (h : vop C s o = some (p, x)) (hp : p) : VOp C s o x := by
  unfold vop at h
  split at h
  · exact v_move (.inl ‹_›) h
  · exact v_move (.inr ‹_›) h
  · exact v_pick ‹_› h hp
  · exact v_bin ‹_› h hp
  · exact v_un ‹_› h hp
  · rename_i ho
    split at h
    · exact v_fieldAddr ho ‹_› h
    · cases h
  · exact v_load ‹_› h
  · exact v_index ‹_› h hp
  · rename_i t parts ho
    split at h
    · rename_i e he
      cases hb : oneAll e.zero.cells.toList with
      | false => rw [hb] at h; cases h
      | true => rw [hb] at h; exact v_build ho h fun e' he' => by rw [he] at he'; cases he'; exact hb
    · cases h
  · rename_i y k ho
    split at h
    · rename_i xs hy
      split at h
      · rename_i d hd
        obtain ⟨rfl, rfl⟩ := Prod.mk.inj (Option.some.inj h)
        exact v_extract ho hy hd
      · cases h
    · cases h
  · rename_i c ho
    split at h
    · rename_i b hb
      obtain ⟨ce, args, tys⟩ := c
      obtain ⟨args⟩ := args
      obtain ⟨tys⟩ := tys
      simp only at hb h
      subst hb
      split at h
      · subst_vars; exact v_len ho h
      · subst_vars; exact v_min false ho h hp
      · subst_vars; exact v_min true ho h hp
      · cases h
    · cases h
  · cases h

section
variable {all : Array Oper} {pu : Bool} {K : St → Prop} {rest : List Oper} {tm : List (Nat × X)} {ob : List AObj} {d : Nat}
theorem go_v (hg : o.guard = none) (hdst : o.dst = some d) (hd : Nat.blt d C.N = true) (hv : vop C ⟨tm, ob⟩ o = some (p, x)) (hp : p) (h : SGo C all pu rest ⟨(d, x) :: tm, ob⟩ K) : SGo C all pu (o :: rest) ⟨tm, ob⟩ K := by
  refine SGo.vop (by simp [GuardIs, hg]) (by simp [dstOK, hdst]; simpa using hd) (vop_ok hv hp) ?_
  rw [hdst]
  exact h
/-- The same behind a guard that is known to let through. -/
theorem go_vg {j t : Nat} {pol b : Bool} {q : Oper} (hg : o.guard = some (j, pol)) (hj : all[j]? = some q) (hq : q.dst = some t) (hb : lk tm t = .d (.imm (.bool b))) (hbp : b = pol)
    (hdst : o.dst = some d) (hd : Nat.blt d C.N = true) (hv : vop C ⟨tm, ob⟩ o = some (p, x)) (hp : p) (h : SGo C all pu rest ⟨(d, x) :: tm, ob⟩ K) : SGo C all pu (o :: rest) ⟨tm, ob⟩ K := by
  refine SGo.vop ?_ (by simp [dstOK, hdst]; simpa using hd) (vop_ok hv hp) ?_
  · simp only [GuardIs, hg]
    exact ⟨t, by simp [hj, hq], .inl ⟨b, hb, by simp [hbp]⟩⟩
  · rw [hdst]
    exact h
theorem go_skt {j t : Nat} {b : Bool} {q : Oper} (hg : o.guard = some (j, true)) (hj : all[j]? = some q) (hq : q.dst = some t) (hb : lk tm t = .d (.imm (.bool b))) (hbp : b = false)
    (hdst : o.dst = some d) (hd : Nat.blt d C.N = true) (h : SGo C all pu rest ⟨(d, .und) :: tm, ob⟩ K) : SGo C all pu (o :: rest) ⟨tm, ob⟩ K := by
  refine SGo.skip ?_ (by simp [dstOK, hdst]; simpa using hd) ?_
  · simp only [GuardIs, hg]
    exact ⟨t, by simp [hj, hq], .inl ⟨b, hb, by rw [hbp]; rfl⟩⟩
  · rw [hdst]
    exact h
theorem go_skf {j t : Nat} {b : Bool} {q : Oper} (hg : o.guard = some (j, false)) (hj : all[j]? = some q) (hq : q.dst = some t) (hb : lk tm t = .d (.imm (.bool b))) (hbp : b = true)
    (hdst : o.dst = some d) (hd : Nat.blt d C.N = true) (h : SGo C all pu rest ⟨(d, .und) :: tm, ob⟩ K) : SGo C all pu (o :: rest) ⟨tm, ob⟩ K := by
  refine SGo.skip ?_ (by simp [dstOK, hdst]; simpa using hd) ?_
  · simp only [GuardIs, hg]
    exact ⟨t, by simp [hj, hq], .inl ⟨b, hb, by rw [hbp]; rfl⟩⟩
  · rw [hdst]
    exact h
theorem go_sku {j t : Nat} {pol : Bool} {q : Oper} (hg : o.guard = some (j, pol)) (hj : all[j]? = some q) (hq : q.dst = some t) (hb : lk tm t = .und)
    (hdst : o.dst = some d) (hd : Nat.blt d C.N = true) (h : SGo C all pu rest ⟨(d, .und) :: tm, ob⟩ K) : SGo C all pu (o :: rest) ⟨tm, ob⟩ K := by
  refine SGo.skip ?_ (by simp [dstOK, hdst]; simpa using hd) ?_
  · simp only [GuardIs, hg]
    exact ⟨t, by simp [hj, hq], .inr ⟨hb, by trivial⟩⟩
  · rw [hdst]
    exact h
/-- At a guard that is not known: both cases. -/
theorem qY {j t : Nat} {pol b : Bool} {q : Oper} (_hg : o.guard = some (j, pol)) (_hj : all[j]? = some q) (_hq : q.dst = some t) (hb : lk tm t = .d (.imm (.bool b)))
    (ht : b = true → SGo C all pu (o :: rest) ⟨(t, .d (.imm (.bool true))) :: tm, ob⟩ K) (hf : b = false → SGo C all pu (o :: rest) ⟨(t, .d (.imm (.bool false))) :: tm, ob⟩ K) : SGo C all pu (o :: rest) ⟨tm, ob⟩ K := by
  have key : ∀ c : Bool, b = c → StEq ⟨tm, ob⟩ ⟨(t, .d (.imm (.bool c))) :: tm, ob⟩ := by
    rintro c rfl
    refine ⟨fun u => ?_, rfl⟩
    simp only [lk]
    cases hbq : Nat.beq t u with
    | true => obtain rfl := Nat.eq_of_beq_eq_true hbq; exact hb.symm
    | false => rfl
  cases b
  · exact SGo.same (key false rfl) (hf rfl)
  · exact SGo.same (key true rfl) (ht rfl)
theorem go_box_ {t : TypeId} {y : Operand} (hg : o.guard = none) (hdst : o.dst = some d) (hd : Nat.blt d C.N = true) (ho : o.op = .box t y) (hx : fw ((⟨tm, ob⟩ : St).ev C.E y) = some (p, x)) (hh : x.held = true)
    (h : SGo C all false rest ⟨(d, .ptr ob.length 0) :: tm, ob ++ [.var t (.w x)]⟩ K) : SGo C all false (o :: rest) ⟨tm, ob⟩ K := by
  refine SGo.eff (by simp [GuardIs, hg]) (s_box ho (fw_eq hx).symm hh (by simp [dstOK, hdst]; simpa using hd)) ?_
  rw [hdst]
  exact h
theorem go_alloc_ {t : TypeId} {e : TE} (hg : o.guard = none) (hdst : o.dst = some d) (hd : Nat.blt d C.N = true) (ho : o.op = .alloc t) (he : findT C.E.T t = some e) (h1z : oneAll e.zero.cells.toList = true)
    (h : SGo C all false rest ⟨(d, .ptr ob.length 0) :: tm, ob ++ [.var t (.cs (e.zero.cells.toList.map ofConst))]⟩ K) : SGo C all false (o :: rest) ⟨tm, ob⟩ K := by
  refine SGo.eff (by simp [GuardIs, hg]) (s_alloc ho he h1z (by simp [dstOK, hdst]; simpa using hd)) ?_
  rw [hdst]
  exact h
theorem go_store_ {t ty : TypeId} {y z : Operand} {i off : Nat} {c : VC} {e : TE} (hg : o.guard = none) (hdst : o.dst = none) (ho : o.op = .store t y z) (hy : (⟨tm, ob⟩ : St).ev C.E y = .ptr i off) (hz : fw ((⟨tm, ob⟩ : St).ev C.E z) = some (p, x)) (hh : x.held = true)
    (hob : ob[i]? = some (.var ty c)) (he : findT C.E.T t = some e) (hsz : Nat.beq x.cells.length e.size = true) (hle : Nat.ble (off + x.cells.length) c.cells.length = true)
    (h : SGo C all false rest ⟨tm, ob.set i (.var ty (storeC c off x))⟩ K) : SGo C all false (o :: rest) ⟨tm, ob⟩ K :=
  SGo.eff (by simp [GuardIs, hg]) (s_store ho hdst hy (fw_eq hz).symm hh hob he hsz hle) h
theorem qI {t : TypeId} {y z : Operand} {xs : List D} {k : IntKind} {i : Int} {te : TE} (x : D) (ho : o.op = .indexAddr t y z) (hg : GuardIs all ⟨tm, ob⟩ o true) (hdst : o.dst = some d) (hd : Nat.blt d C.N = true)
    (hy : (⟨tm, ob⟩ : St).ev C.E y = .d (.sl xs)) (hz : (⟨tm, ob⟩ : St).ev C.E z = .d (.imm (.int k i))) (hte : elemT C.E t = some te) (hsz : Nat.beq x.cells.length te.size = true) (h0 : 0 ≤ i) (hx : xs[i.toNat]? = some x)
    (h : SGo C all pu rest ⟨(d, .at_ x 0) :: tm, ob⟩ K) : SGo C all pu (o :: rest) ⟨tm, ob⟩ K := by
  refine SGo.vop hg (by simp [dstOK, hdst]; simpa using hd) (v_indexAddr ho hy hz hte h0 hx (Nat.eq_of_beq_eq_true hsz)) ?_
  rw [hdst]
  exact h
end
theorem qL {r : List It} {fn : Func} {q : ResultVar} {d d' : D} (hr : fn.results = #[q]) (h : resX C s q = some d) (he : d = d') : go C (.code .ret :: r) s (EndIs C fn (.d d')) := by
  subst he
  exact go_ret_ (res_1 hr h)
theorem qM {r : List It} {fn : Func} {q q' : ResultVar} {d d' : D} {l : List D} (hr : fn.results = #[q, q']) (h : resX C s q = some d) (h' : resX C s q' = some d') (he : [d, d'] = l) : go C (.code .ret :: r) s (EndIs C fn (.tup l)) := by
  subst he
  exact go_ret_ (res_2 hr h h')
theorem ret3 {r : List It} {fn : Func} {q q' q'' : ResultVar} {d d' d'' : D} {l : List D} (hr : fn.results = #[q, q', q'']) (h : resX C s q = some d) (h' : resX C s q' = some d') (h'' : resX C s q'' = some d'') (he : [d, d', d''] = l) : go C (.code .ret :: r) s (EndIs C fn (.tup l)) := by
  subst he
  exact go_ret_ (res_3 hr h h' h'')
def TmLe (tm : List (Nat × X)) (n : Nat) : List (Nat × X) → Prop
  | [] => True
  | (k, x) :: r => (lk tm k = x ∧ x.below n = true) ∧ TmLe tm n r
def ObLe (n : Nat) : List AObj → Prop
  | [] => True
  | x :: r => x.below n = true ∧ ObLe n r
theorem Le.of' {tm tm' : List (Nat × X)} {ob ob' : List AObj} (n : Nat) (hn : Nat.ble C.base.n0 n = true) (hob : ob' = ob.take n) (ht : TmLe tm n tm') (ho : ObLe n ob') : Le C ⟨tm, ob⟩ ⟨tm', ob'⟩ := by
  refine Le.of n hn hob ?_ ?_
  · intro p hp
    simp only at hp ⊢
    induction tm' with
    | nil => cases hp
    | cons q r ih =>
      obtain ⟨k, x⟩ := q
      rcases List.mem_cons.1 hp with rfl | hp
      · exact ht.1
      · exact ih ht.2 hp
  · intro x hx
    simp only at hx
    clear hob
    induction ob' with
    | nil => cases hx
    | cons q r ih =>
      rcases List.mem_cons.1 hx with rfl | hx
      · exact ho.1
      · exact ih ho.2 hx
/-- Whether a guard lets through. -/
def guardX (all : Array Oper) (tm : List (Nat × X)) (o : Oper) : Option Bool :=
  match o.guard with
  | none => some true
  | some (j, pol) => (match all[j]? with
    | some q => (match q.dst with
      | some t => (match lk tm t with
        | .d (.imm (.bool b)) => some (b == pol)
        | .und => some false
        | _ => none)
      | none => none)
    | none => none)
theorem guardX_ok {all : Array Oper} {tm : List (Nat × X)} {ob : List AObj} {b : Bool} (h : guardX all tm o = some b) : GuardIs all ⟨tm, ob⟩ o b := by
  unfold guardX at h
  unfold GuardIs
  split at h
  · rename_i hg; cases h; rw [hg]
  · rename_i j pol hg
    rw [hg]
    split at h
    · rename_i q hq
      split at h
      · rename_i t ht
        refine ⟨t, by rw [hq]; exact ht, ?_⟩
        split at h
        · rename_i b' hb'; cases h; exact .inl ⟨b', hb', rfl⟩
        · rename_i hu; cases h; exact .inr ⟨hu, rfl⟩
        · cases h
      · cases h
    · cases h
/-- One operation of a region, reckoned. -/
def stepX (C : Cx) (all : Array Oper) (pu : Bool) (o : Oper) (tm : List (Nat × X)) (ob : List AObj) : Option (Prop × List (Nat × X) × List AObj) :=
  match guardX all tm o with
  | some false => (match o.dst with
    | some d => bif Nat.blt d C.N then some (True, (d, .und) :: tm, ob) else none
    | none => none)
  | some true => (match o.op with
    | .box t y => (match o.dst with
      | some d => bif !pu && Nat.blt d C.N then (match fw ((⟨tm, ob⟩ : St).ev C.E y) with
        | some (_, x) => bif x.held then some (True, (d, .ptr ob.length 0) :: tm, ob ++ [.var t (.w x)]) else none
        | none => none) else none
      | none => none)
    | .alloc t => (match o.dst with
      | some d => bif !pu && Nat.blt d C.N then (match findT C.E.T t with
        | some e => bif oneAll e.zero.cells.toList then some (True, (d, .ptr ob.length 0) :: tm, ob ++ [.var t (.cs (e.zero.cells.toList.map ofConst))]) else none
        | none => none) else none
      | none => none)
    | .store t y z => (match o.dst with
      | none => bif !pu then (match (⟨tm, ob⟩ : St).ev C.E y with
        | .ptr i off => (match fw ((⟨tm, ob⟩ : St).ev C.E z) with
          | some (_, x) => (match ob[i]? with
            | some (.var ty c) => (match findT C.E.T t with
              | some e => bif x.held && (Nat.beq x.cells.length e.size && Nat.ble (off + x.cells.length) c.cells.length) then some (True, tm, ob.set i (.var ty (storeC c off x))) else none
              | none => none)
            | _ => none)
          | none => none)
        | _ => none) else none
      | some _ => none)
    | _ => (match o.dst with
      | some d => bif Nat.blt d C.N then (match vop C ⟨tm, ob⟩ o with
        | some (p, x) => some (p, (d, x) :: tm, ob)
        | none => none) else none
      | none => none))
  | none => none

theorem go_step {all : Array Oper} {pu : Bool} {K : St → Prop} {rest : List Oper} {tm tm' : List (Nat × X)} {ob ob' : List AObj} (hv : stepX C all pu o tm ob = some (p, tm', ob')) (hp : p) (h : SGo C all pu rest ⟨tm', ob'⟩ K) :
    SGo C all pu (o :: rest) ⟨tm, ob⟩ K := by
  unfold stepX at hv
  split at hv
  · rename_i hg
    split at hv
    · rename_i d hd
      cases hN : Nat.blt d C.N with
      | false => rw [hN] at hv; cases hv
      | true =>
        rw [hN] at hv
        simp only [cond_true, Option.some.injEq, Prod.mk.injEq] at hv
        obtain ⟨-, rfl, rfl⟩ := hv
        refine SGo.skip (guardX_ok hg) (by simp only [dstOK, hd]; exact hN) ?_
        rw [hd]
        exact h
    · cases hv
  · rename_i hg
    split at hv
    · rename_i t y ho
      split at hv
      · rename_i d hd
        cases hN : (!pu && Nat.blt d C.N) with
        | false => rw [hN] at hv; cases hv
        | true =>
          rw [hN] at hv
          simp only [cond_true] at hv
          rw [Bool.and_eq_true] at hN
          have hpu : pu = false := by simpa using hN.1
          subst hpu
          split at hv
          · rename_i q x hx
            cases hh : x.held with
            | false => rw [hh] at hv; cases hv
            | true =>
              rw [hh] at hv
              simp only [cond_true, Option.some.injEq, Prod.mk.injEq] at hv
              obtain ⟨-, rfl, rfl⟩ := hv
              refine SGo.eff (guardX_ok hg) (s_box ho (fw_eq hx).symm hh (by simp only [dstOK, hd]; exact hN.2)) ?_
              rw [hd]
              exact h
          · cases hv
      · cases hv
    · rename_i t ho
      split at hv
      · rename_i d hd
        cases hN : (!pu && Nat.blt d C.N) with
        | false => rw [hN] at hv; cases hv
        | true =>
          rw [hN] at hv
          simp only [cond_true] at hv
          rw [Bool.and_eq_true] at hN
          have hpu : pu = false := by simpa using hN.1
          subst hpu
          split at hv
          · rename_i e he
            cases hh : oneAll e.zero.cells.toList with
            | false => rw [hh] at hv; cases hv
            | true =>
              rw [hh] at hv
              simp only [cond_true, Option.some.injEq, Prod.mk.injEq] at hv
              obtain ⟨-, rfl, rfl⟩ := hv
              refine SGo.eff (guardX_ok hg) (s_alloc ho he hh (by simp only [dstOK, hd]; exact hN.2)) ?_
              rw [hd]
              exact h
          · cases hv
      · cases hv
    · rename_i t y z ho
      split at hv
      · rename_i hd
        cases hN : (!pu) with
        | false => rw [hN] at hv; cases hv
        | true =>
          rw [hN] at hv
          simp only [cond_true] at hv
          have hpu : pu = false := by simpa using hN
          subst hpu
          split at hv
          · rename_i i off hy
            split at hv
            · rename_i q x hx
              split at hv
              · rename_i ty c hob
                split at hv
                · rename_i e he
                  cases hh : (x.held && (Nat.beq x.cells.length e.size && Nat.ble (off + x.cells.length) c.cells.length)) with
                  | false => rw [hh] at hv; cases hv
                  | true =>
                    rw [hh] at hv
                    simp only [cond_true, Option.some.injEq, Prod.mk.injEq] at hv
                    obtain ⟨-, rfl, rfl⟩ := hv
                    rw [Bool.and_eq_true, Bool.and_eq_true] at hh
                    exact SGo.eff (guardX_ok hg) (s_store ho hd hy (fw_eq hx).symm hh.1 hob he hh.2.1 hh.2.2) h
                · cases hv
              · cases hv
            · cases hv
          · cases hv
      · cases hv
    · split at hv
      · rename_i d hd
        cases hN : Nat.blt d C.N with
        | false => rw [hN] at hv; cases hv
        | true =>
          rw [hN] at hv
          simp only [cond_true] at hv
          split at hv
          · rename_i q x hx
            simp only [Option.some.injEq, Prod.mk.injEq] at hv
            obtain ⟨rfl, rfl, rfl⟩ := hv
            refine SGo.vop (guardX_ok hg) (by simp only [dstOK, hd]; exact hN) (vop_ok hx hp) ?_
            rw [hd]
            exact h
          · cases hv
      · cases hv
  · cases hv
/-- A call, by its contract. -/
theorem qP {all : Array Oper} {pu : Bool} {K : St → Prop} {rest : List Oper} {tm : List (Nat × X)} {ob : List AObj} {d : Nat} {y : Operand} {args : List Operand} {tys : Array TypeId} {f : FuncId} {ds : List D} {rx : X}
    (ho : o.op = .call { callee := .value y, args := args.toArray, argTypes := tys }) (hg : guardX all tm o = some true) (hdst : o.dst = some d) (hd : Nat.blt d C.N = true)
    (hf : (⟨tm, ob⟩ : St).ev C.E y = .d (.imm (.func (.func f) #[] #[]))) (hds : datsX C.E ⟨tm, ob⟩ args = some ds) (hb : HasBody C.E f) (h0 : Ev C.E f ds rx)
    (h : SGo C all pu rest ⟨(d, rx) :: tm, ob⟩ K) : SGo C all pu (o :: rest) ⟨tm, ob⟩ K := by
  refine SGo.vop (guardX_ok hg) (by simp only [dstOK, hdst]; exact hd) (v_call ho hf hb (datsX_ok hds) h0) ?_
  rw [hdst]
  exact h
theorem enter0 {E : Env} {f : FuncId} {fn : Func} {c : Code} {rx : X} {N : Nat} (hf : E.P.funcs[f]? = some fn) (hN : fn.ntmps = N) (hb : fn.body = some c) (hle : Nat.ble 0 N = true)
    (h : ∀ (w0 : World) (F0 O : Nat → Prop), go ⟨E, w0, F0, N, ⟨O, 0, []⟩⟩ [.code c] ⟨[], []⟩ (EndIs ⟨E, w0, F0, N, ⟨O, 0, []⟩⟩ fn rx)) : Ev E f [] rx :=
  Ev.enter hf hb hN (Nat.le_of_ble_eq_true hle) h
theorem enter1 {E : Env} {f : FuncId} {fn : Func} {c : Code} {d0 : D} {rx : X} {N : Nat} (hf : E.P.funcs[f]? = some fn) (hN : fn.ntmps = N) (hb : fn.body = some c) (hle : Nat.ble 1 N = true)
    (h : ∀ (w0 : World) (F0 O : Nat → Prop), go ⟨E, w0, F0, N, ⟨O, 0, []⟩⟩ [.code c] ⟨[(0, .d d0)], []⟩ (EndIs ⟨E, w0, F0, N, ⟨O, 0, []⟩⟩ fn rx)) : Ev E f [d0] rx :=
  Ev.enter hf hb hN (Nat.le_of_ble_eq_true hle) h
theorem enter2 {E : Env} {f : FuncId} {fn : Func} {c : Code} {d0 d1 : D} {rx : X} {N : Nat} (hf : E.P.funcs[f]? = some fn) (hN : fn.ntmps = N) (hb : fn.body = some c) (hle : Nat.ble 2 N = true)
    (h : ∀ (w0 : World) (F0 O : Nat → Prop), go ⟨E, w0, F0, N, ⟨O, 0, []⟩⟩ [.code c] ⟨[(0, .d d0), (1, .d d1)], []⟩ (EndIs ⟨E, w0, F0, N, ⟨O, 0, []⟩⟩ fn rx)) : Ev E f [d0, d1] rx :=
  Ev.enter hf hb hN (Nat.le_of_ble_eq_true hle) h
theorem enter3 {E : Env} {f : FuncId} {fn : Func} {c : Code} {d0 d1 d2 : D} {rx : X} {N : Nat} (hf : E.P.funcs[f]? = some fn) (hN : fn.ntmps = N) (hb : fn.body = some c) (hle : Nat.ble 3 N = true)
    (h : ∀ (w0 : World) (F0 O : Nat → Prop), go ⟨E, w0, F0, N, ⟨O, 0, []⟩⟩ [.code c] ⟨[(0, .d d0), (1, .d d1), (2, .d d2)], []⟩ (EndIs ⟨E, w0, F0, N, ⟨O, 0, []⟩⟩ fn rx)) : Ev E f [d0, d1, d2] rx :=
  Ev.enter hf hb hN (Nat.le_of_ble_eq_true hle) h
theorem enter4 {E : Env} {f : FuncId} {fn : Func} {c : Code} {d0 d1 d2 d3 : D} {rx : X} {N : Nat} (hf : E.P.funcs[f]? = some fn) (hN : fn.ntmps = N) (hb : fn.body = some c) (hle : Nat.ble 4 N = true)
    (h : ∀ (w0 : World) (F0 O : Nat → Prop), go ⟨E, w0, F0, N, ⟨O, 0, []⟩⟩ [.code c] ⟨[(0, .d d0), (1, .d d1), (2, .d d2), (3, .d d3)], []⟩ (EndIs ⟨E, w0, F0, N, ⟨O, 0, []⟩⟩ fn rx)) : Ev E f [d0, d1, d2, d3] rx :=
  Ev.enter hf hb hN (Nat.le_of_ble_eq_true hle) h
theorem enter5 {E : Env} {f : FuncId} {fn : Func} {c : Code} {d0 d1 d2 d3 d4 : D} {rx : X} {N : Nat} (hf : E.P.funcs[f]? = some fn) (hN : fn.ntmps = N) (hb : fn.body = some c) (hle : Nat.ble 5 N = true)
    (h : ∀ (w0 : World) (F0 O : Nat → Prop), go ⟨E, w0, F0, N, ⟨O, 0, []⟩⟩ [.code c] ⟨[(0, .d d0), (1, .d d1), (2, .d d2), (3, .d d3), (4, .d d4)], []⟩ (EndIs ⟨E, w0, F0, N, ⟨O, 0, []⟩⟩ fn rx)) : Ev E f [d0, d1, d2, d3, d4] rx :=
  Ev.enter hf hb hN (Nat.le_of_ble_eq_true hle) h
theorem enter6 {E : Env} {f : FuncId} {fn : Func} {c : Code} {d0 d1 d2 d3 d4 d5 : D} {rx : X} {N : Nat} (hf : E.P.funcs[f]? = some fn) (hN : fn.ntmps = N) (hb : fn.body = some c) (hle : Nat.ble 6 N = true)
    (h : ∀ (w0 : World) (F0 O : Nat → Prop), go ⟨E, w0, F0, N, ⟨O, 0, []⟩⟩ [.code c] ⟨[(0, .d d0), (1, .d d1), (2, .d d2), (3, .d d3), (4, .d d4), (5, .d d5)], []⟩ (EndIs ⟨E, w0, F0, N, ⟨O, 0, []⟩⟩ fn rx)) : Ev E f [d0, d1, d2, d3, d4, d5] rx :=
  Ev.enter hf hb hN (Nat.le_of_ble_eq_true hle) h
theorem enter7 {E : Env} {f : FuncId} {fn : Func} {c : Code} {d0 d1 d2 d3 d4 d5 d6 : D} {rx : X} {N : Nat} (hf : E.P.funcs[f]? = some fn) (hN : fn.ntmps = N) (hb : fn.body = some c) (hle : Nat.ble 7 N = true)
    (h : ∀ (w0 : World) (F0 O : Nat → Prop), go ⟨E, w0, F0, N, ⟨O, 0, []⟩⟩ [.code c] ⟨[(0, .d d0), (1, .d d1), (2, .d d2), (3, .d d3), (4, .d d4), (5, .d d5), (6, .d d6)], []⟩ (EndIs ⟨E, w0, F0, N, ⟨O, 0, []⟩⟩ fn rx)) : Ev E f [d0, d1, d2, d3, d4, d5, d6] rx :=
  Ev.enter hf hb hN (Nat.le_of_ble_eq_true hle) h
theorem enter8 {E : Env} {f : FuncId} {fn : Func} {c : Code} {d0 d1 d2 d3 d4 d5 d6 d7 : D} {rx : X} {N : Nat} (hf : E.P.funcs[f]? = some fn) (hN : fn.ntmps = N) (hb : fn.body = some c) (hle : Nat.ble 8 N = true)
    (h : ∀ (w0 : World) (F0 O : Nat → Prop), go ⟨E, w0, F0, N, ⟨O, 0, []⟩⟩ [.code c] ⟨[(0, .d d0), (1, .d d1), (2, .d d2), (3, .d d3), (4, .d d4), (5, .d d5), (6, .d d6), (7, .d d7)], []⟩ (EndIs ⟨E, w0, F0, N, ⟨O, 0, []⟩⟩ fn rx)) : Ev E f [d0, d1, d2, d3, d4, d5, d6, d7] rx :=
  Ev.enter hf hb hN (Nat.le_of_ble_eq_true hle) h
end
end Go.Abs

/- Rows of the call's own: append, make, loads and stores of elements; and that a row that nobody writes any more counts as data. Conditions: each operation's own. -/
namespace Go.Abs
open Go Go.RowKit

theorem mul_idx {i j n size : Nat} (hi : i < n) (hj : j < size) : i * size + j < n * size := by
  have : (i + 1) * size ≤ n * size := Nat.mul_le_mul_right _ hi
  rw [Nat.add_mul, Nat.one_mul] at this
  omega
theorem div_idx {i j size : Nat} (hj : j < size) : (i * size + j) / size = i ∧ (i * size + j) % size = j := by
  have h0 : 0 < size := by omega
  rw [Nat.add_comm, Nat.mul_comm, Nat.add_mul_div_left _ _ h0, Nat.div_eq_of_lt hj, Nat.add_mul_mod_self_left, Nat.mod_eq_of_lt hj]
  exact ⟨by omega, rfl⟩

/-- A row of one's own, as the kit's laws name it. -/
theorem ObOK.owns {w : World} {F : Nat → Prop} {σ : Sg} {B : Nat → Prop} {e : TypeId} {size : Nat} {xs : List D} {b c n : Nat} (h : ObOK w F σ B (.row e size xs) (b, c, n)) :
    ∃ us : List Value, w.ownsRow 0 e size (.slice (some ⟨b, 0, none⟩) n c) n us ∧ n = xs.length ∧ n ≤ c ∧ c ≤ maxLen ∧ (∀ (i : Nat) (x : D) (j : Nat) (cd : D), xs[i]? = some x → x.cells[j]? = some cd → ∃ v, us[i * size + j]? = some v ∧ Rd w F cd v) := by
  obtain ⟨vs, h1, h2, h3, h4, h5, h6, h7, h8, h9, h10⟩ := h
  refine ⟨vs.take (n * size), ⟨?_, .inr ⟨b, c, vs.toArray, rfl, Nat.zero_le _, h1, h4, h5, by simp [h2], by simp⟩⟩, h3, h4, h5, fun i x j cd hx hc => ?_⟩
  · rw [List.length_take, h2]
    have := Nat.mul_le_mul_right size h4
    omega
  · obtain ⟨v, e1, e2⟩ := h8 i x j cd hx hc
    refine ⟨v, ?_, e2⟩
    have hi : i < xs.length := (List.getElem?_eq_some_iff.1 hx).1
    have hj : j < x.cells.length := (List.getElem?_eq_some_iff.1 hc).1
    rw [h6 x (List.mem_of_getElem? hx)] at hj
    rw [List.getElem?_take, if_pos (mul_idx (by omega) hj)]
    exact e1
theorem owns_row {w : World} {F : Nat → Prop} {σ : Sg} {B : Nat → Prop} {e : TypeId} {size n : Nat} {xs : List D} {v : Value} {us : List Value} (h : w.ownsRow 0 e size v n us) (hB : ∀ b, v.ownBlock = some b → ¬ B b) (hv : v ≠ .slice none 0 0) (hn : n = xs.length)
    (hz : ∀ x ∈ xs, x.cells.length = size) (ho : ∀ x ∈ xs, ∀ c ∈ x.cells, c.one = true)
    (hr : ∀ (i : Nat) (x : D) (j : Nat) (cd : D), xs[i]? = some x → x.cells[j]? = some cd → ∃ v, us[i * size + j]? = some v ∧ Rd w F cd v) (hF : ∀ b, v.ownBlock = some b → ¬ F b) :
    ∃ b c, v = .slice (some ⟨b, 0, none⟩) n c ∧ ObOK w F σ B (.row e size xs) (b, c, n) := by
  obtain ⟨hl, h⟩ := h
  rcases h with ⟨h, -⟩ | ⟨g, cap, cur, rfl, hb, hg, hc, hm, hs, ht⟩
  · exact absurd h hv
  · refine ⟨g, cap, rfl, cur.toList, by simpa using hg, by simpa using hs, hn, hc, hm, hz, ho, fun i x j cd hx hcd => ?_, hB g rfl, hF g rfl⟩
    obtain ⟨u, e1, e2⟩ := hr i x j cd hx hcd
    refine ⟨u, ?_, e2⟩
    rw [← ht, List.getElem?_take] at e1
    split at e1
    · exact e1
    · cases e1

/-- One object gives way to another, in its block or in a new one; all else is as it was. -/
theorem WInv.regrow {E : Env} {B : Base} {F : Nat → Prop} {σ : Sg} {ob ob0 : List AObj} {w w' : World} {row : Option Nat} (h : WInv E B F σ ob w)
    (hk : ∀ (o : Nat) x, ob0[o]? = some x → x.live = true → ob[o]? = some x ∧ ∀ p, σ[o]? = some p → some p.1 ≠ row) (hlen : ob0.length = ob.length)
    (hg : w.grownBy w' row) (hF : ∀ k, row = some k → ¬ F k) (y : AObj) (g c n : Nat) (hgn : row = some g ∨ w.heap.size ≤ g)
    (hy : ObOK w' F (σ ++ [(g, c, n)]) B.O y (g, c, n)) : WInv E B F (σ ++ [(g, c, n)]) (ob0 ++ [y]) w' := by
  have keep : ∀ b, F b → w'.heap[b]? = w.heap[b]? := fun b hb => hg.block b (h.flt b hb) fun e => hF b e.symm hb
  have cases_ : ∀ (k : Nat) z p, (ob0 ++ [y])[k]? = some z → (σ ++ [(g, c, n)])[k]? = some p → (k < ob0.length ∧ ob0[k]? = some z ∧ σ[k]? = some p) ∨ (k = ob0.length ∧ z = y ∧ p = (g, c, n)) := by
    intro k z p hz hp
    rcases Nat.lt_or_ge k ob0.length with hlt | hge
    · rw [List.getElem?_append_left hlt] at hz
      rw [List.getElem?_append_left (by rw [h.len]; omega)] at hp
      exact .inl ⟨hlt, hz, hp⟩
    · rw [List.getElem?_append_right hge] at hz
      rw [List.getElem?_append_right (by rw [h.len]; omega), h.len] at hp
      have hk0 : k - ob0.length = 0 := by
        rcases Nat.eq_zero_or_pos (k - ob0.length) with h0 | h0
        · exact h0
        · rw [List.getElem?_eq_none (by simp; omega)] at hz; cases hz
      have hk1 : k - ob.length = 0 := by omega
      rw [hk0] at hz
      rw [hk1] at hp
      simp at hz hp
      exact .inr ⟨by omega, hz.symm, hp.symm⟩
  refine ⟨fun b hb => Nat.lt_of_lt_of_le (h.flt b hb) hg.size, h.glob.mono (fun _ h => h) keep, by simp [h.len, hlen], fun k z p hz hp => ?_, fun k k' z z' p p' hne hz hl hz' hl' hp hp' => ?_, fun i p hp hq => σ_app _ _ (h.pre i p hp hq)⟩
  · rcases cases_ k z p hz hp with ⟨h1, h2, h3⟩ | ⟨-, rfl, rfl⟩
    · cases hlv : z.live with
      | false => cases z <;> simp [AObj.live] at hlv <;> trivial
      | true =>
        obtain ⟨h4, h5⟩ := hk k z h2 hlv
        have ho := h.obs k z p h4 h3
        exact ho.mono (fun _ h => h) keep σ_app (fun hl => hg.block _ (ho.lt hl) (h5 p h3)) (fun _ h => h)
    · exact hy
  · have far : ∀ (k : Nat) z p, ob0[k]? = some z → z.live = true → σ[k]? = some p → p.1 ≠ g := by
      intro k z p h2 hlv h3 e
      obtain ⟨h4, h5⟩ := hk k z h2 hlv
      have hlt := (h.obs k z p h4 h3).lt hlv
      rcases hgn with h6 | h6
      · exact h5 p h3 (by rw [e, h6])
      · omega
    rcases cases_ k z p hz hp with ⟨h1, h2, h3⟩ | ⟨h1, rfl, rfl⟩ <;> rcases cases_ k' z' p' hz' hp' with ⟨h1', h2', h3'⟩ | ⟨h1', rfl, rfl⟩
    · exact h.inj k k' z z' p p' hne (hk k z h2 hl).1 hl (hk k' z' h2' hl').1 hl' h3 h3'
    · exact far k z p h2 hl h3
    · exact fun e => far k' z' p' h2' hl' h3' e.symm
    · omega

theorem below_grown {O : Nat → Prop} {w0 w w' : World} {row : Option Nat} (h1 : Kept O w0 w) (hg : w.grownBy w' row) (hr : ∀ k, row = some k → ¬ O k) : Kept O w0 w' :=
  ⟨hg.os.trans h1.os, hg.tape.trans h1.tape, hg.output.trans h1.output, Nat.le_trans h1.size hg.size, fun k hk => (hg.block k (by have := h1.old k hk; have := h1.size; omega) fun e => hr k e.symm hk).trans (h1.block k hk), h1.old⟩

section
variable {C : Cx} {s : St} {o : Oper} {x : X}

theorem rel_regrow {C : Cx} {s : St} {a : Act} {w w' : World} {F : Nat → Prop} {σ : Sg} {o : Oper} {y : X} {v : Value} {ob0 : List AObj} {z : AObj} {g c n : Nat} {row : Option Nat}
    (h1 : Kept C.O C.w0 w) (h2 : ∀ b, C.F0 b → F b) (h3 : ∀ b, F b → C.F0 b ∨ ¬ C.O b) (hi : WInv C.E C.base F σ s.ob w)
    (h4 : a.defers = []) (h5 : a.tmps.size = C.N) (hs : ∀ t, RdX w F σ (lk s.tm t) (a.tmps.getD t undef)) (hd : dstOK C o = true)
    (hk : ∀ (o : Nat) x, ob0[o]? = some x → x.live = true → s.ob[o]? = some x ∧ ∀ p, σ[o]? = some p → some p.1 ≠ row) (hlen : ob0.length = s.ob.length)
    (hg : w.grownBy w' row) (hF : ∀ k, row = some k → ¬ F k ∧ ¬ C.O k) (hgn : row = some g ∨ w.heap.size ≤ g)
    (hy : ObOK w' F (σ ++ [(g, c, n)]) C.O z (g, c, n)) (hv : RdX w' F (σ ++ [(g, c, n)]) y v) :
    C.Rel (St.put ⟨s.tm, ob0 ++ [z]⟩ o.dst y) (a.put o.dst v) w' := by
  have keep : ∀ b, F b → w'.heap[b]? = w.heap[b]? := fun b hb => hg.block b (hi.flt b hb) fun e => (hF b e.symm).1 hb
  refine ⟨F, σ ++ [(g, c, n)], below_grown h1 hg (fun k hk => (hF k hk).2), h2, h3, ?_, by rw [Act.put_def]; exact h4, by rw [Act.put_size]; exact h5, ?_⟩
  · rw [St.put_ob]
    exact hi.regrow hk hlen hg (fun k hk => (hF k hk).1) z g c n hgn hy
  · exact lk_put (N := C.N) (s := ⟨s.tm, ob0 ++ [z]⟩) (fun t => (hs t).mono (fun _ h => h) keep σ_app) h5 (dstOK_lt hd) fun _ => hv

/-- The cells of a row of data, in a list. -/
theorem cells_of {w : World} {F : Nat → Prop} {ys : List D} {v : Value} (h : Rd w F (.sl ys) v) (size : Nat) (hz : ∀ y ∈ ys, y.cells.length = size) (hne : ys ≠ []) :
    ∃ ad cap, v = .slice (some ad) ys.length cap ∧ (∀ y ∈ ys, ∀ c ∈ y.cells, c.one = true) ∧ ∃ news : List Value, news.length = ys.length * size ∧ (∀ (j : Nat) u, news[j]? = some u → w.cell? (ad.add j) = some u) ∧ (∀ u ∈ news, u.oneCell' = true) ∧
      ∀ (i : Nat) (x : D) (j : Nat) (cd : D), ys[i]? = some x → x.cells[j]? = some cd → ∃ v, news[i * size + j]? = some v ∧ Rd w F cd v := by
  rcases Rd.sl_inv h with ⟨rfl, -⟩ | ⟨size', ad, cap, hev, h1, h2, h3, h4, h5, h6⟩
  · exact absurd rfl hne
  obtain ⟨y0, hy0⟩ := List.exists_mem_of_ne_nil ys hne
  obtain rfl : size' = size := by rw [← h4 y0 hy0, hz y0 hy0]
  have get : ∀ q, q < ys.length * size' → ∃ u, w.cell? (ad.add q) = some u ∧ u.oneCell' = true := by
    intro q hq
    have hs0 : 0 < size' := by
      rcases Nat.eq_zero_or_pos size' with h0 | h0
      · rw [h0] at hq; omega
      · exact h0
    have hlt : q / size' < ys.length := Nat.div_lt_of_lt_mul (by rw [Nat.mul_comm]; exact hq)
    have hx := List.getElem?_eq_getElem hlt
    have hm : q % size' < (ys[q / size']).cells.length := by rw [h4 _ (List.getElem_mem hlt)]; exact Nat.mod_lt _ hs0
    obtain ⟨u, e1, e2⟩ := h6 _ _ (q % size') _ hx (List.getElem?_eq_getElem hm)
    refine ⟨u, ?_, e2.one (h5 _ (List.getElem_mem hlt) _ (List.getElem_mem hm))⟩
    rw [show q / size' * size' + q % size' = q from by rw [Nat.mul_comm]; exact Nat.div_add_mod q size'] at e1
    exact e1
  have look : ∀ (j : Nat) u, ((List.range (ys.length * size')).map fun q => (w.cell? (ad.add q)).getD undef)[j]? = some u → j < ys.length * size' ∧ w.cell? (ad.add j) = some u ∧ u.oneCell' = true := by
    intro j u hj
    rw [List.getElem?_map, Option.map_eq_some_iff] at hj
    obtain ⟨q, hq, rfl⟩ := hj
    have hlt : j < ys.length * size' := by
      have := (List.getElem?_eq_some_iff.1 hq).1
      simpa using this
    rw [List.getElem?_range hlt] at hq
    cases hq
    obtain ⟨u, e1, e2⟩ := get j hlt
    rw [e1]
    exact ⟨hlt, rfl, e2⟩
  refine ⟨ad, cap, hev, h5, (List.range (ys.length * size')).map fun q => (w.cell? (ad.add q)).getD undef, by simp, fun j u hj => (look j u hj).2.1, fun u hu => ?_, fun i x j cd hx hc => ?_⟩
  · obtain ⟨j, hj⟩ := List.getElem?_of_mem hu
    exact (look j u hj).2.2
  · obtain ⟨u, e1, e2⟩ := h6 i x j cd hx hc
    have hi : i < ys.length := (List.getElem?_eq_some_iff.1 hx).1
    have hj : j < x.cells.length := (List.getElem?_eq_some_iff.1 hc).1
    rw [h4 x (List.mem_of_getElem? hx)] at hj
    refine ⟨u, ?_, e2⟩
    rw [List.getElem?_map, List.getElem?_range (mul_idx hi hj)]
    simp [e1]

/-- What append's first argument holds: nil, or a row of the call's own. -/
def ownX (ob : List AObj) : X → Option (Option Nat × TypeId × Nat × List D)
  | .own i => (match ob[i]? with
    | some (.row e size xs) => some (some i, e, size, xs)
    | _ => none)
  | _ => none

/-- append onto nil or onto a row of the call's own. -/
theorem s_append {t : TypeId} {y z : Operand} {te : TE} {xs ys : List D} {oi : Option Nat} (ho : o.op = .call { callee := .builtin .append, args := #[y, z], argTypes := #[t, t] }) (hte : elemT C.E t = some te)
    (hy : (oi = none ∧ s.ev C.E y = .nilS ∧ xs = []) ∨ ∃ i, oi = some i ∧ s.ev C.E y = .own i ∧ s.ob[i]? = some (.row te.t te.size xs)) (hz : s.ev C.E z = .d (.sl ys)) (hne : ys ≠ []) (hsz : ∀ d ∈ ys, d.cells.length = te.size)
    (hzs : te.zero.cells.size = te.size) (hs0 : 0 < te.size) (hlen : (xs.length + ys.length) * te.bytes ≤ 140737488355328) (hmx : xs.length + ys.length ≤ 9223372036854775807) (hd : dstOK C o = true) :
    SOp C s o (St.put ⟨s.tm, (match oi with | some i => s.ob.set i .dead | none => s.ob) ++ [.row te.t te.size (xs ++ ys)]⟩ o.dst (.own s.ob.length)) := by
  obtain ⟨hu, hok⟩ := elemT_ok hte
  obtain ⟨hdesc, i0, hi0, hsize, hbytes, hzero⟩ := hok
  rintro w a K Q ⟨F, σ, h1, h2, h3, hi, h4, h5, hs⟩ hK
  have hvy := ev_rd (E := C.E) hi hs y
  have hvz := ev_rd (E := C.E) hi hs z
  rw [hz] at hvz
  obtain ⟨ad, cap, hev, hone, news, n1, n2, n3, n4⟩ := cells_of hvz te.size hsz hne
  have hypos : 0 < ys.length := List.length_pos_iff.2 hne
  -- what the first argument is
  have hfirst : ∃ us, w.ownsRow 0 te.t te.size (a.eval y) xs.length us ∧ (∀ (i : Nat) (x : D) (j : Nat) (cd : D), xs[i]? = some x → x.cells[j]? = some cd → ∃ v, us[i * te.size + j]? = some v ∧ Rd w F cd v) ∧
      (∀ b, (a.eval y).ownBlock = some b → ¬ F b ∧ ¬ C.O b) ∧ (∀ d ∈ xs, d.cells.length = te.size) ∧ (∀ d ∈ xs, ∀ c ∈ d.cells, c.one = true) ∧
      (∀ (k : Nat) q, (match oi with | some i => s.ob.set i .dead | none => s.ob)[k]? = some q → q.live = true → s.ob[k]? = some q ∧ ∀ p, σ[k]? = some p → some p.1 ≠ (a.eval y).ownBlock) := by
    rcases hy with ⟨rfl, hy, rfl⟩ | ⟨i, rfl, hy, hob⟩
    · rw [hy] at hvy
      rw [show a.eval y = .slice none 0 0 from hvy]
      exact ⟨[], World.ownsRow_nil _ _ _ _, fun i x j cd hx => by simp at hx, fun b hb => by simp [Value.ownBlock] at hb, by simp, by simp, fun k q hq _ => ⟨hq, fun p _ => by simp [Value.ownBlock]⟩⟩
    · rw [hy] at hvy
      obtain ⟨b, c, n, p1, p2⟩ := hvy
      have hobs := hi.obs i _ _ hob p1
      obtain ⟨us, q1, q2, q3, q4, q5⟩ := hobs.owns
      obtain ⟨vs, -, -, -, -, -, r6, r7, -, r9, r10⟩ := hobs
      rw [p2, ← q2]
      refine ⟨us, q1, q5, fun b' hb' => ?_, r6, r7, fun k q hq hl => ?_⟩
      · simp [Value.ownBlock] at hb'; subst hb'; exact ⟨r10, r9⟩
      · simp only [List.getElem?_set] at hq
        split at hq
        · split at hq
          · cases hq; simp [AObj.live] at hl
          · cases hq
        · rename_i hne'
          refine ⟨hq, fun p hp he => ?_⟩
          simp only [Value.ownBlock, Option.some.injEq] at he
          exact hi.inj k i q _ p (b, c, n) (fun e => hne' e.symm) hq hl hob rfl hp p1 he
  obtain ⟨us, f1, f2, f3, f4, f5, f6⟩ := hfirst
  obtain ⟨v', w', a1, a2, a3, a4, a5⟩ := run_append_own_at (P := C.E.P) w 0 t o.type te.t i0 te.zero te.size te.bytes hu hi0 hzero hsize hbytes hzs hs0 (a.eval y) xs.length us f1 ad ys.length cap news n1 n2 n3
    (by simpa [maxLen] using hmx) hlen (Nat.zero_le _)
  have hrun : (execOp a.eval o).run C.E.P w = .ok (.value v') w' := by
    rw [← hev] at a1
    simp [execOp, ho, resolve, invoke, builtin, a1]
  unfold Oper.wp
  rw [hrun]
  have hnn : v' ≠ .slice none 0 0 := fun e => by
    have := (a4.1 e).2
    omega
  have hFy : ∀ k, (a.eval y).ownBlock = some k → ¬ F k := fun k hk => (f3 k hk).1
  have keep : ∀ b, F b → w'.heap[b]? = w.heap[b]? := fun b hb => a3.block b (hi.flt b hb) fun e => hFy b e.symm hb
  obtain ⟨g, c, rfl, hob'⟩ := owns_row (F := F) (σ := σ ++ [(0, 0, 0)]) (xs := xs ++ ys) a2 (fun b hb => by
      rcases a5 with h | h
      · rw [h] at hb; exact (f3 b hb).2
      · rw [h] at hb; cases hb; exact h1.new (Nat.le_refl _)) hnn (by simp) (fun d hd => by rcases List.mem_append.1 hd with h | h; exact f4 d h; exact hsz d h)
    (fun d hd => by rcases List.mem_append.1 hd with h | h; exact f5 d h; exact hone d h)
    (fun i x j cd hx hc => by
      rcases Nat.lt_or_ge i xs.length with hlt | hge
      · rw [List.getElem?_append_left hlt] at hx
        obtain ⟨v, e1, e2⟩ := f2 i x j cd hx hc
        refine ⟨v, ?_, e2.mono (fun _ h => h) keep⟩
        rw [List.getElem?_append_left (List.getElem?_eq_some_iff.1 e1).1]
        exact e1
      · rw [List.getElem?_append_right hge] at hx
        obtain ⟨v, e1, e2⟩ := n4 (i - xs.length) x j cd hx hc
        refine ⟨v, ?_, e2.mono (fun _ h => h) keep⟩
        have hul : us.length = xs.length * te.size := f1.1
        have hsplit : i * te.size = xs.length * te.size + (i - xs.length) * te.size := by rw [← Nat.add_mul]; congr 1; omega
        rw [List.getElem?_append_right (by omega), hul, show i * te.size + j - xs.length * te.size = (i - xs.length) * te.size + j from by omega]
        exact e1)
    (fun b hb hf => by
      rcases a5 with h | h
      · rw [h] at hb; exact hFy b hb hf
      · rw [h] at hb; cases hb; exact absurd (hi.flt _ hf) (Nat.lt_irrefl _))
  have hob'' : ObOK w' F (σ ++ [(g, c, xs.length + ys.length)]) C.O (.row te.t te.size (xs ++ ys)) (g, c, xs.length + ys.length) := hob'
  refine hK _ _ (rel_regrow (row := (a.eval y).ownBlock) (g := g) (c := c) (n := xs.length + ys.length) h1 h2 h3 hi h4 h5 hs hd f6 ?_ a3 (fun k hk => f3 k hk) ?_ hob'' ⟨g, c, xs.length + ys.length, ?_, rfl⟩)
  · cases oi <;> simp
  · rcases a5 with h | h
    · exact .inl (by rw [← h]; rfl)
    · simp only [Value.ownBlock, Option.some.injEq] at h
      exact .inr (by omega)
  · rw [← hi.len]; simp
end
end Go.Abs

/- Elements of the call's own rows, make, literals of slices, and that a row that nobody writes any more counts as data. Conditions: each operation's own. -/
namespace Go.Abs
open Go Go.RowKit

theorem load_cells {E : Env} {F : Nat → Prop} {σ : Sg} {w : World} {t : TypeId} {z : D} {off : Nat} {x : X} {p : Prop} {ad : Addr} {ob0 : List AObj} (hone : ∀ c ∈ z.cells, c.one = true)
    (hm : ∀ (j : Nat) (c : D), z.cells[j]? = some c → ∃ u, w.cell? (ad.add j) = some u ∧ Rd w F c u) (h : loadX E ob0 t (.at_ z off) = some (p, x)) :
    ∃ v, (Instr.loadAt t (.pointer (some (ad.add off)))).run E.P w = .ok v w ∧ RdX w F σ x v := by
  unfold loadX at h
  split at h
  · cases h
  rename_i e he
  obtain ⟨hok, rfl⟩ := findT_ok he
  simp only at h
  have whole : ((z.cells.drop off).take e.size).length = e.size → e.isAgg = true →
      ∃ v, (Instr.loadAt e.t (.pointer (some (ad.add off)))).run E.P w = .ok v w ∧ RdX w F σ (.d (.agg ((z.cells.drop off).take e.size))) v := by
    intro hl hag
    have hex : ∀ j, ∃ u, ∀ c, z.cells[j]? = some c → w.cell? (ad.add j) = some u ∧ Rd w F c u := by
      intro j
      cases hz : z.cells[j]? with
      | none => exact ⟨undef, fun c h => by cases h⟩
      | some c => obtain ⟨u, h1, h2⟩ := hm j c hz; exact ⟨u, fun c' h => by cases h; exact ⟨h1, h2⟩⟩
    let u : Nat → Value := fun j => Classical.choose (hex j)
    have hu : ∀ j c, z.cells[j]? = some c → w.cell? (ad.add j) = some (u j) ∧ Rd w F c (u j) := fun j => Classical.choose_spec (hex j)
    let vs : List Value := (List.range e.size).map fun j => u (off + j)
    have hvl : vs.length = e.size := by simp [vs]
    have hvj : ∀ (j : Nat) v, vs[j]? = some v → v = u (off + j) ∧ j < e.size := by
      intro j v hj
      have hlt : j < e.size := by rw [← hvl]; exact (List.getElem?_eq_some_iff.1 hj).1
      simp [vs, hlt] at hj
      exact ⟨hj.symm, hlt⟩
    have hzj : ∀ j, j < e.size → ∃ c, z.cells[off + j]? = some c ∧ ((z.cells.drop off).take e.size)[j]? = some c := by
      intro j hj
      have hlt : j < ((z.cells.drop off).take e.size).length := by rw [hl]; exact hj
      have h1 := List.getElem?_eq_getElem hlt
      exact ⟨_, (drop_take_get _ _ _ _ _ h1).1, h1⟩
    refine ⟨.agg vs.toArray, ?_, rd_agg (vs := vs) (by rw [hvl]; exact hl) (fun v hv => ?_) fun i v hv => ?_⟩
    · refine loadAt_agg hok hag hvl fun j v hj => ?_
      obtain ⟨rfl, hlt⟩ := hvj j v hj
      obtain ⟨c, hc, _⟩ := hzj j hlt
      rw [add_add]
      exact (hu _ c hc).1
    · obtain ⟨i, hi'⟩ := List.getElem?_of_mem hv
      obtain ⟨rfl, hlt⟩ := hvj i v hi'
      obtain ⟨c, hc, _⟩ := hzj i hlt
      exact (hu _ c hc).2.one (hone c (List.mem_of_getElem? hc))
    · obtain ⟨rfl, hlt⟩ := hvj i v hv
      obtain ⟨c, hc, hc'⟩ := hzj i hlt
      exact ⟨c, hc', (hu _ c hc).2⟩
  cases hag : e.isAgg with
  | true =>
    rw [hag] at h
    simp only [cond_true] at h
    split at h
    · split at h
      · rename_i cs
        cases hb : Nat.beq cs.length e.size with
        | false => rw [hb] at h; cases h
        | true =>
          rw [hb] at h
          obtain ⟨rfl, rfl⟩ := Prod.mk.inj (Option.some.inj h)
          have hsz : cs.length = e.size := Nat.eq_of_beq_eq_true hb
          have := whole (by simp [D.cells, hsz]) hag
          simp only [D.cells, List.drop_zero] at this
          rw [List.take_of_length_le (by omega)] at this
          exact this
      · cases h
    · rename_i hne
      cases hb : Nat.beq ((z.cells.drop off).take e.size).length e.size with
      | false => rw [hb] at h; cases h
      | true =>
        rw [hb] at h
        obtain ⟨rfl, rfl⟩ := Prod.mk.inj (Option.some.inj h)
        exact whole (Nat.eq_of_beq_eq_true hb) hag
  | false =>
    rw [hag] at h
    simp only [cond_false] at h
    split at h
    · rename_i c hc
      obtain ⟨rfl, rfl⟩ := Prod.mk.inj (Option.some.inj h)
      obtain ⟨u, hu1, hu2⟩ := hm off c hc
      exact ⟨u, loadAt_one hok hag hu1, hu2⟩
    · cases h

section
variable {C : Cx} {s : St} {o : Oper} {x : X} {p : Prop}

theorem v_loadP {t te : TypeId} {y : Operand} {i k off size : Nat} {xs : List D} {d : D} (ho : o.op = .load t y) (hy : s.ev C.E y = .pel k i off size) (hob : s.ob[k]? = some (.row te size xs)) (hd : xs[i]? = some d)
    (h : loadX C.E s.ob t (.at_ d off) = some (p, x)) : VOp C s o x := by
  refine VOp.pure_ fun F σ w a hi hr => ?_
  have hp := hr y (by simp [ho, Op.operands])
  rw [hy] at hp
  obtain ⟨b, c, n, p1, p2⟩ := hp
  obtain ⟨vs, q1, q2, q3, q4, q5, q6, q7, q8, -⟩ := hi.obs k _ _ hob p1
  obtain ⟨v, h1, h2⟩ := load_cells (w := w) (F := F) (σ := σ) (ad := ⟨b, i * size, none⟩) (q7 d (List.mem_of_getElem? hd)) (fun j c hc => by
    obtain ⟨v, e1, e2⟩ := q8 i d j c hd hc
    refine ⟨v, ?_, e2⟩
    rw [add_mk, cell_vs q1]
    exact e1) h
  refine ⟨v, ?_, h2⟩
  rw [add_mk, ← p2] at h1
  simp [execOp, ho, h1]

theorem v_indexOwn {t : TypeId} {y z : Operand} {xs : List D} {kd : IntKind} {i : Int} {te : TE} {k : Nat} (ho : o.op = .indexAddr t y z) (hy' : s.ev C.E y = .own k) (hz' : s.ev C.E z = .d (.imm (.int kd i)))
    (hob : s.ob[k]? = some (.row te.t te.size xs)) (hte : elemT C.E t = some te) (h0 : 0 ≤ i) (hlt : i < xs.length) : VOp C s o (.pel k i.toNat 0 te.size) := by
  obtain ⟨hu, hok⟩ := elemT_ok hte
  refine VOp.pure_ fun F σ w a hi hr => ?_
  have hy := hr y (by simp [ho, Op.operands])
  have hz := hr z (by simp [ho, Op.operands])
  rw [hy'] at hy
  rw [hz'] at hz
  obtain ⟨e2, -⟩ := Rd.imm_inv hz
  obtain ⟨b, c, n, p1, p2⟩ := hy
  obtain ⟨vs, q1, q2, q3, -⟩ := hi.obs k _ _ hob p1
  refine ⟨.pointer (some (⟨b, i.toNat * te.size, none⟩)), ?_, b, c, n, p1, by simp⟩
  have hlt' : 0 ≤ i ∧ i < (n : Int) := ⟨h0, by omega⟩
  simp [execOp, ho, p2, e2, Instr.indexAt, asIntOf, run_underlying hu, hlt', sizeOf_run hok, add_mk]

/-- An element with some of its cells written. -/
def subD (d : D) (off : Nat) (e : D) : D :=
  bif Nat.beq off 0 && Nat.beq e.cells.length d.cells.length then e else .agg (setAll d.cells off e.cells)
theorem subD_cells {d : D} {off : Nat} {e : D} (h : off + e.cells.length ≤ d.cells.length) : (subD d off e).cells = d.cells.take off ++ e.cells ++ d.cells.drop (off + e.cells.length) := by
  unfold subD
  cases hb : Nat.beq off 0 && Nat.beq e.cells.length d.cells.length with
  | true =>
    rw [Bool.and_eq_true] at hb
    have h1 := Nat.eq_of_beq_eq_true hb.1
    have h2 := Nat.eq_of_beq_eq_true hb.2
    subst h1
    simp [h2]
  | false =>
    simp only [cond_false]
    exact setAll_spec _ _ _ h

theorem s_storeP {t te : TypeId} {y z : Operand} {k i off size : Nat} {xs : List D} {d e : D} {tt : TE} (ho : o.op = .store t y z) (hdst : o.dst = none) (hy : s.ev C.E y = .pel k i off size) (hz : toD (s.ev C.E z) = some e)
    (hob : s.ob[k]? = some (.row te size xs)) (hd : xs[i]? = some d) (he : findT C.E.T t = some tt) (hsz : Nat.beq e.cells.length tt.size = true) (hle : Nat.ble (off + e.cells.length) d.cells.length = true) :
    SOp C s o (s.setOb k (.row te size (xs.set i (subD d off e)))) := by
  obtain ⟨hok, rfl⟩ := findT_ok he
  have hsz' := Nat.eq_of_beq_eq_true hsz
  have hle' := Nat.le_of_ble_eq_true hle
  rintro w a K Q ⟨F, σ, h1, h2, h3, hi, h4, h5, hs⟩ hK
  have hv := toD_rd hz (ev_rd (E := C.E) hi hs z)
  have hp := ev_rd (E := C.E) hi hs y
  rw [hy] at hp
  obtain ⟨b, cc, n, p1, p2⟩ := hp
  obtain ⟨vs, q1, q2, q3, q4, q4', q5, q6, q7, q8, q9⟩ := hi.obs k _ _ hob p1
  obtain ⟨c1, c2, c3⟩ := hv.cells
  have hil : i < xs.length := (List.getElem?_eq_some_iff.1 hd).1
  have hdl : d.cells.length = size := q5 d (List.mem_of_getElem? hd)
  have hcl : (a.eval z).cells.toList.length = e.cells.length := by simpa using c1
  have hone : ∀ v ∈ (a.eval z).cells.toList, v.oneCell' = true := by
    intro u hu
    obtain ⟨j, hj⟩ := List.getElem?_of_mem hu
    have hlt : j < e.cells.length := by rw [← hcl]; exact (List.getElem?_eq_some_iff.1 hj).1
    exact (c2 j _ u (List.getElem?_eq_getElem hlt) (by simpa using hj)).one (c3 _ (List.getElem_mem hlt))
  have hroom : (i + 1) * size ≤ cc * size := Nat.mul_le_mul_right _ (by omega)
  rw [Nat.add_mul, Nat.one_mul] at hroom
  have hrow := run_storeCells_at C.E.P b (i * size + off) te (a.eval z).cells.toList 0 vs.toArray w q1 (by simp; omega) hone
  have hrun : (execOp a.eval o).run C.E.P w = .ok .skip (w.setRow b (vs.take (i * size + off) ++ (a.eval z).cells.toList ++ vs.drop (i * size + off + (a.eval z).cells.toList.length)).toArray) := by
    simp only [execOp, ho, Instr.storeAt, p2, Instr.sureAddr, storeVar, Sem.run_bind, Sem.run_pure, Result.andThen_ok, sizeOf_run hok]
    rw [if_neg (by rw [c1, hsz']; simp)]
    simp only [Nat.add_zero] at hrow
    rw [hrow]
    rfl
  unfold Oper.wp
  rw [hrun]
  simp only [Oper.upon]
  rw [hdst]
  refine hK _ _ ⟨F, σ, ?_, h2, h3, ?_, h4, h5, fun t => ?_⟩
  · exact h1.setRow (by assumption) _
  · refine hi.turn hob rfl p1 q9 ?_
    have keep : ∀ k, F k → (w.setRow b (vs.take (i * size + off) ++ (a.eval z).cells.toList ++ vs.drop (i * size + off + (a.eval z).cells.toList.length)).toArray).heap[k]? = w.heap[k]? := fun k hk => setRow_other w b _ k (fun e => q9 (e ▸ hk))
    have hvl : vs.length = cc * size := q2
    have hnew : (subD d off e).cells.length = size := by
      rw [subD_cells hle']
      simp only [List.length_append, List.length_take, List.length_drop]
      omega
    refine ⟨_, setRow_heap w b vs.toArray _ te _ q1, ?_, by simp [q3], q4, q4', fun u hu => ?_, fun u hu c hc => ?_, fun i' u j cd hu hc => ?_, q8, q9⟩
    · simp only [List.length_append, List.length_take, List.length_drop, Array.length_toList, c1, hvl]
      omega
    · rcases List.mem_or_eq_of_mem_set hu with h | h
      · exact q5 u h
      · rw [h]; exact hnew
    · rcases List.mem_or_eq_of_mem_set hu with h | h
      · exact q6 u h c hc
      · subst h
        rw [subD_cells hle', List.mem_append, List.mem_append] at hc
        rcases hc with (hc | hc) | hc
        · exact q6 d (List.mem_of_getElem? hd) c (List.mem_of_mem_take hc)
        · exact c3 c hc
        · exact q6 d (List.mem_of_getElem? hd) c (List.mem_of_mem_drop hc)
    · have e1 : (vs.take (i * size + off)).length = i * size + off := by rw [List.length_take]; omega
      rw [List.getElem?_set] at hu
      split at hu
      · rename_i hii
        subst hii
        cases hu
        have hj : j < size := by rw [← hnew]; exact (List.getElem?_eq_some_iff.1 hc).1
        rw [subD_cells hle'] at hc
        have e2 : (d.cells.take off).length = off := by rw [List.length_take]; omega
        rcases Nat.lt_or_ge j off with hlt | hge
        · rw [List.append_assoc, List.getElem?_append_left (by omega), List.getElem?_take, if_pos hlt] at hc
          obtain ⟨u, r1, r2⟩ := q7 i d j cd hd hc
          refine ⟨u, ?_, r2.mono (fun _ h => h) keep⟩
          rw [List.append_assoc, List.getElem?_append_left (by omega), List.getElem?_take, if_pos (by omega)]
          exact r1
        · rw [List.append_assoc, List.getElem?_append_right (by omega), e2] at hc
          have hsub : i * size + j - (i * size + off) = j - off := by omega
          rcases Nat.lt_or_ge (j - off) e.cells.length with hlt2 | hge2
          · rw [List.getElem?_append_left hlt2] at hc
            have hx : j - off < (a.eval z).cells.toList.length := by omega
            refine ⟨(a.eval z).cells.toList[j - off], ?_, (c2 (j - off) cd _ hc (show (a.eval z).cells[j - off]? = some ((a.eval z).cells.toList[j - off]) by simp)).mono (fun _ h => h) keep⟩
            rw [List.append_assoc, List.getElem?_append_right (by omega), e1, hsub, List.getElem?_append_left (by omega)]
            exact List.getElem?_eq_getElem hx
          · rw [List.getElem?_append_right hge2, List.getElem?_drop] at hc
            obtain ⟨u, r1, r2⟩ := q7 i d _ cd hd hc
            refine ⟨u, ?_, r2.mono (fun _ h => h) keep⟩
            rw [List.append_assoc, List.getElem?_append_right (by omega), e1, hsub, List.getElem?_append_right (by omega), hcl, List.getElem?_drop, ← r1]
            congr 1
            omega
      · rename_i hii
        have hj : j < size := by rw [← q5 u (List.mem_of_getElem? hu)]; exact (List.getElem?_eq_some_iff.1 hc).1
        obtain ⟨v, r1, r2⟩ := q7 i' u j cd hu hc
        refine ⟨v, ?_, r2.mono (fun _ h => h) keep⟩
        rcases Nat.lt_or_ge i' i with hlt | hge
        · have hm : (i' + 1) * size ≤ i * size := Nat.mul_le_mul_right _ hlt
          rw [Nat.add_mul, Nat.one_mul] at hm
          rw [List.append_assoc, List.getElem?_append_left (by omega), List.getElem?_take, if_pos (by omega)]
          exact r1
        · have hm : (i + 1) * size ≤ i' * size := Nat.mul_le_mul_right _ (by omega)
          rw [Nat.add_mul, Nat.one_mul] at hm
          rw [List.append_assoc, List.getElem?_append_right (by omega), e1, List.getElem?_append_right (by omega), hcl, List.getElem?_drop, ← r1]
          congr 1
          omega
  · exact (hs t).mono (fun _ h => h) (fun k hk => setRow_other w b _ k (fun e => q9 (e ▸ hk))) (fun _ _ h => h)

/-! ## make -/
def zeroD (e : TE) : Option D :=
  match zeroDs e.zero.cells.toList with
  | some cs => bif e.isAgg then some (.agg cs) else (match cs with
    | [d] => bif d.one then some d else none
    | _ => none)
  | none => none
theorem zeroD_cells {e : TE} {d : D} (h : zeroD e = some d) : zeroDs e.zero.cells.toList = some d.cells := by
  unfold zeroD at h
  split at h
  · rename_i cs hcs
    rw [hcs]
    cases hag : e.isAgg with
    | true => rw [hag] at h; cases h; rfl
    | false =>
      rw [hag] at h
      simp only [cond_false] at h
      split at h
      · rename_i d'
        cases hb : d'.one with
        | true => rw [hb] at h; cases h; cases d <;> first | rfl | (simp [D.one] at hb)
        | false => rw [hb] at h; cases h
      · cases h
  · cases h

theorem s_make {t : TypeId} {y z : Operand} {te : TE} {ky kz : IntKind} {n : Nat} {d : D} (ho : o.op = .makeSlice t y z) (hte : elemT C.E t = some te) (hy : s.ev C.E y = .d (.imm (.int ky (n : Int)))) (hz : s.ev C.E z = .d (.imm (.int kz (n : Int))))
    (hzd : zeroD te = some d) (h1z : oneAll te.zero.cells.toList = true) (hzs : te.zero.cells.size = te.size) (hb : te.bytes * n ≤ 281474976710656) (hmx : n ≤ 9223372036854775807) (hd : dstOK C o = true) :
    SOp C s o (s.add o.dst (.row te.t te.size (List.replicate n d)) (.own s.ob.length)) := by
  obtain ⟨hu, hok⟩ := elemT_ok hte
  obtain ⟨hdesc, i0, hi0, hsize, hbytes, hzero⟩ := hok
  have hc := zeroD_cells hzd
  rintro w a K Q ⟨F, σ, h1, h2, h3, hi, h4, h5, hs⟩ hK
  have hvy := ev_rd (E := C.E) hi hs y
  have hvz := ev_rd (E := C.E) hi hs z
  rw [hy] at hvy
  rw [hz] at hvz
  have e1 := (Rd.imm_inv hvy).1
  have e2 := (Rd.imm_inv hvz).1
  have hbz : (i0.bytes : Int) * (n : Int) ≤ 281474976710656 := by
    have h : ((i0.bytes * n : Nat) : Int) ≤ 281474976710656 := by rw [hbytes]; omega
    rwa [Int.natCast_mul] at h
  have hrun0 := run_make (P := C.E.P) w t te.t i0 te.zero hu hi0 hzero ky kz n n (Int.natCast_nonneg n) (Int.le_refl _) hbz (by omega)
  have hrun : (execOp a.eval o).run C.E.P w = .ok (.value (.slice (some ⟨w.heap.size, 0, none⟩) n n)) (w.alloc (.cells (madeCells te.zero.cells (n * te.size)) te.t)) := by
    simp only [Int.toNat_natCast, hsize] at hrun0
    simp [execOp, ho, e1, e2, hrun0]
  unfold Oper.wp
  rw [hrun]
  have hz0 : CellsRd (w.alloc (.cells (madeCells te.zero.cells (n * te.size)) te.t)) F te.zero.cells.toList d.cells := zeroDs_ok hc fun v hv => oneAll_ok h1z v hv
  have hdl : d.cells.length = te.size := by rw [hz0.len]; simpa using hzs
  refine hK _ _ (rel_add h1 h2 h3 hi h4 h5 hs hd (x := .row te.t te.size (List.replicate n d)) (c := n) (n := n) ⟨(madeCells te.zero.cells (n * te.size)).toList, by simpa using heap_push, by simp [size_madeCells], by simp, Nat.le_refl _, (show n ≤ maxLen from hmx), fun x hx => ?_, fun x hx c hcx => ?_, fun i x j cd hx hcd => ?_, h1.new (Nat.le_refl _), fun hf => ?_⟩ ⟨w.heap.size, n, n, ?_, rfl⟩)
  · rw [(List.mem_replicate.1 hx).2]; exact hdl
  · rw [(List.mem_replicate.1 hx).2] at hcx
    obtain ⟨j, hj⟩ := List.getElem?_of_mem hcx
    have hlt : j < te.zero.cells.toList.length := by rw [← hz0.len]; exact (List.getElem?_eq_some_iff.1 hj).1
    obtain ⟨d', e1, e2⟩ := hz0.rd j _ (List.getElem?_eq_getElem hlt)
    rw [hj] at e1
    cases e1
    exact e2.one_of (hz0.one _ (List.getElem_mem hlt))
  · have hin : i < n := by
      have := (List.getElem?_eq_some_iff.1 hx).1
      simpa using this
    obtain rfl : x = d := by
      rw [List.getElem?_replicate, if_pos hin] at hx
      cases hx
      rfl
    have hj : j < te.size := by rw [← hdl]; exact (List.getElem?_eq_some_iff.1 hcd).1
    have hlt : j < te.zero.cells.toList.length := by simpa [hzs] using hj
    obtain ⟨d', e1, e2⟩ := hz0.rd j _ (List.getElem?_eq_getElem hlt)
    rw [hcd] at e1
    cases e1
    refine ⟨_, ?_, e2⟩
    have hjj : j < te.zero.cells.size := by simpa using hlt
    have hmod : (i * te.size + j) % te.zero.cells.size = j := by rw [hzs]; exact (div_idx hj).2
    simp only [madeCells, Array.toList_map, Array.toList_range, List.getElem?_map, List.getElem?_range (mul_idx hin hj), Option.map_some, hmod]
    simp [hjj]
  · exact absurd (hi.flt _ hf) (Nat.lt_irrefl _)
  · rw [← hi.len]; simp
end

/-! ## A row that nobody writes any more -/
def frzX (k : Nat) (xs : List D) : X → X
  | .own i => bif Nat.beq i k then .d (.sl xs) else .own i
  | .pel i j off z => bif Nat.beq i k then .top else .pel i j off z
  | x => x
def frzT (k : Nat) (xs : List D) : List (Nat × X) → List (Nat × X)
  | [] => []
  | (n, x) :: r => (n, frzX k xs x) :: frzT k xs r
def frzC (k : Nat) (xs : List D) : VC → VC
  | .w x => .w (frzX k xs x)
  | .cs l => .cs (l.map (frzX k xs))
def frzO (k : Nat) (xs : List D) : AObj → AObj
  | .var t c => .var t (frzC k xs c)
  | x => x
def frz (k : Nat) (s : St) : Option St :=
  match s.ob[k]? with
  | some (.row _ _ xs) => some ⟨frzT k xs s.tm, (s.ob.map (frzO k xs)).set k .dead⟩
  | some (.mrow _ _ xs) => some ⟨frzT k xs s.tm, (s.ob.map (frzO k xs)).set k .dead⟩
  | _ => none
theorem frzC_cells (k : Nat) (xs : List D) (c : VC) : (frzC k xs c).cells = c.cells.map (frzX k xs) := by
  cases c with
  | cs l => rfl
  | w x =>
    have key : ∀ l : List D, l.map X.d = (l.map X.d).map (frzX k xs) := fun l => by
      induction l with
      | nil => rfl
      | cons a r ih =>
        simp only [List.map_cons]
        exact congrArg _ ih
    cases x with
    | d x => exact key _
    | own i =>
      simp only [frzC, VC.cells, frzX, X.cells, List.map_cons, List.map_nil]
      cases Nat.beq i k <;> rfl
    | pel i j off z =>
      simp only [frzC, VC.cells, frzX, X.cells, List.map_cons, List.map_nil]
      cases Nat.beq i k <;> rfl
    | _ => rfl
theorem frzO_live (k : Nat) (xs : List D) (x : AObj) : (frzO k xs x).live = x.live := by cases x <;> rfl
theorem lk_frz (k : Nat) (xs : List D) : ∀ (tm : List (Nat × X)) (t : Nat), lk (frzT k xs tm) t = frzX k xs (lk tm t)
  | [], t => rfl
  | (n, x) :: r, t => by
    simp only [frzT, lk]
    cases Nat.beq n t with
    | true => rfl
    | false => exact lk_frz k xs r t

theorem frz_core {C : Cx} {s : St} (k : Nat) {z0 : AObj} {size : Nat} {xs : List D} (hob : s.ob[k]? = some z0) (hz0 : z0.live = true)
    (hrow : ∀ {w F σ B b c n}, ObOK w F σ B z0 (b, c, n) → ∃ (vs : List Value) (e : TypeId) (m : Nat × Nat), w.heap[b]? = some (.cells vs.toArray e m) ∧ vs.length = c * size ∧ n = xs.length ∧ n ≤ c ∧ c ≤ maxLen ∧
      (∀ x ∈ xs, x.cells.length = size) ∧ (∀ x ∈ xs, ∀ c ∈ x.cells, c.one = true) ∧
      (∀ (i : Nat) (x : D) (j : Nat) (cd : D), xs[i]? = some x → x.cells[j]? = some cd → ∃ v, vs[i * size + j]? = some v ∧ Rd w F cd v) ∧ ¬ B b ∧ ¬ F b) : Le C s ⟨frzT k xs s.tm, (s.ob.map (frzO k xs)).set k .dead⟩ := by
  · rintro a w ⟨F, σ, h1, h2, h3, hi, h4, h5, hs⟩
    have hk : k < s.ob.length := (List.getElem?_eq_some_iff.1 hob).1
    have hkσ : k < σ.length := by rw [hi.len]; exact hk
    obtain ⟨b, c, n, hp⟩ : ∃ b c n, σ[k]? = some (b, c, n) := ⟨_, _, _, List.getElem?_eq_getElem hkσ⟩
    have hobs := hi.obs k _ _ hob hp
    obtain ⟨vs, e, mk, q1, q2, q3, q4, q5, q6, q7, q8, q9, q10⟩ := hrow hobs
    have hlt : b < w.heap.size := (hi.obs k _ _ hob hp).lt hz0
    have hnew : Rd w (fun i => F i ∨ i = b) (.sl xs) (.slice (some ⟨b, 0, none⟩) n c) := by
      have hex : ∀ i j, ∃ u, ∀ x cd, xs[i]? = some x → x.cells[j]? = some cd → vs[i * size + j]? = some u ∧ Rd w F cd u := by
        intro i j
        cases hx : xs[i]? with
        | none => exact ⟨undef, fun x cd h => by cases h⟩
        | some x =>
          cases hc : x.cells[j]? with
          | none => exact ⟨undef, fun x' cd h h' => by cases h; rw [hc] at h'; cases h'⟩
          | some cd =>
            obtain ⟨u, e1, e2⟩ := q8 i x j cd hx hc
            exact ⟨u, fun x' cd' h h' => by cases h; rw [hc] at h'; cases h'; exact ⟨e1, e2⟩⟩
      rw [q3]
      refine .sl size xs ⟨b, 0, none⟩ c (fun i j => Classical.choose (hex i j)) (by omega) q5 (fun _ => .inr rfl) q6 q7 (fun i x j cd hx hc => ?_) (fun i x j cd hx hc => ?_)
      · rw [add_mk, cell_vs q1, Nat.zero_add]
        exact (Classical.choose_spec (hex i j) x cd hx hc).1
      · exact (Classical.choose_spec (hex i j) x cd hx hc).2.mono (fun _ h => .inl h) fun _ _ => rfl
    have hX : ∀ x v, RdX w F σ x v → RdX w (fun i => F i ∨ i = b) σ (frzX k xs x) v := by
      intro x v hx
      have base := hx.mono (F' := fun i => F i ∨ i = b) (fun _ h => .inl h) (fun _ _ => rfl) (fun _ _ h => h)
      cases x with
      | own i =>
        simp only [frzX]
        cases hb : Nat.beq i k with
        | false => exact base
        | true =>
          obtain rfl := Nat.eq_of_beq_eq_true hb
          obtain ⟨b', c', n', e1, e2⟩ := hx
          rw [hp] at e1
          cases e1
          rw [e2]
          exact hnew
      | pel i j off z =>
        simp only [frzX]
        cases hb : Nat.beq i k with
        | false => exact base
        | true => trivial
      | _ => exact base
    refine ⟨fun i => F i ∨ i = b, σ, h1, fun i h => .inl (h2 i h), fun i h => ?_, ⟨fun i h => ?_, hi.glob.mono (fun _ h => .inl h) (fun _ _ => rfl), by simp [hi.len], fun o x p hx hpx => ?_, fun o o' x x' p p' hne hx hl hx' hl' hpx hpx' => ?_, hi.pre⟩, h4, h5, fun t => ?_⟩
    · rcases h with h | h
      · exact h3 i h
      · rw [h]; exact .inr q9
    · rcases h with h | h
      · exact hi.flt i h
      · rw [h]; exact hlt
    · rw [List.getElem?_set] at hx
      split at hx
      · split at hx
        · cases hx; trivial
        · cases hx
      · rename_i hne
        rw [List.getElem?_map, Option.map_eq_some_iff] at hx
        obtain ⟨y, hy, rfl⟩ := hx
        have hob0 := hi.obs o y p hy hpx
        cases hlv : y.live with
        | false => cases y <;> simp [AObj.live] at hlv <;> trivial
        | true =>
          have hnb : p.1 ≠ b := fun e => hi.inj k o _ y (b, c, n) p hne hob hz0 hy hlv hp hpx e.symm
          obtain ⟨b', c', n'⟩ := p
          cases y with
          | var ty cs =>
            obtain ⟨us, r1, r2, r3, r4, r5, r6⟩ := hob0
            refine ⟨us, r1, ?_, r3, fun i x v hx hv => ?_, r5, fun h => h.elim r6 hnb⟩
            · rw [frzC_cells, List.length_map]; exact r2
            · rw [frzC_cells, List.getElem?_map, Option.map_eq_some_iff] at hx
              obtain ⟨x0, hx0, rfl⟩ := hx
              exact hX x0 v (r4 i x0 v hx0 hv)
          | row e' size' xs' =>
            obtain ⟨us, r1, r2, r3, r4, r5, r6, r7, r8, r9, r10⟩ := hob0
            refine ⟨us, r1, r2, r3, r4, r5, r6, r7, fun i x j cd hx hc => ?_, r9, fun h => h.elim r10 hnb⟩
            obtain ⟨v, e1, e2⟩ := r8 i x j cd hx hc
            exact ⟨v, e1, e2.mono (fun _ h => .inl h) fun _ _ => rfl⟩
          | mrow e' size' xs' =>
            obtain ⟨us, r1, r2, r3, r4, r5, r6, r7, r8, r9, r10⟩ := hob0
            refine ⟨us, r1, r2, r3, r4, r5, r6, r7, fun i x j cd hx hc => ?_, r9, fun h => h.elim r10 hnb⟩
            obtain ⟨v, e1, e2⟩ := r8 i x j cd hx hc
            exact ⟨v, e1, e2.mono (fun _ h => .inl h) fun _ _ => rfl⟩
          | dead => trivial
    · have key : ∀ (o : Nat) (z : AObj), ((s.ob.map (frzO k xs)).set k .dead)[o]? = some z → z.live = true → ∃ u : AObj, s.ob[o]? = some u ∧ u.live = true := by
        intro o z hz hzl
        rw [List.getElem?_set] at hz
        split at hz
        · split at hz
          · cases hz; simp [AObj.live] at hzl
          · cases hz
        · rw [List.getElem?_map, Option.map_eq_some_iff] at hz
          obtain ⟨u, hu, rfl⟩ := hz
          exact ⟨u, hu, by rw [frzO_live] at hzl; exact hzl⟩
      obtain ⟨u, u1, u2⟩ := key o x hx hl
      obtain ⟨u', u1', u2'⟩ := key o' x' hx' hl'
      exact hi.inj o o' u u' p p' hne u1 u2 u1' u2' hpx hpx'
    · rw [lk_frz]
      exact hX _ _ (hs t)
theorem frz_le {C : Cx} {s s' : St} (k : Nat) (h : frz k s = some s') : Le C s s' := by
  unfold frz at h
  split at h
  · rename_i e size xs hob
    cases h
    exact frz_core k hob rfl fun h => let ⟨vs, h⟩ := h; ⟨vs, _, _, h⟩
  · rename_i e size xs hob
    cases h
    exact frz_core k hob rfl fun h => let ⟨vs, h⟩ := h; ⟨vs, _, _, h⟩
  · cases h
end Go.Abs

/- Literals of slices, conversions, sub-slices, and one step for these operations beside the elder ones. Conditions: each operation's own. -/
namespace Go.Abs
open Go Go.RowKit

section
variable {C : Cx} {s : St} {o : Oper} {x : X} {p : Prop}

def partsX (E : Env) (s : St) (size : Nat) : Nat → List (Nat × Operand) → Option (List D)
  | _, [] => some []
  | k, (i, y) :: r => bif Nat.beq i k then (match toD (s.ev E y) with
    | some d => bif Nat.beq d.cells.length size then (match partsX E s size (k + 1) r with
      | some ds => some (d :: ds)
      | none => none) else none
    | none => none) else none

theorem fill_parts {E : Env} {size : Nat} {w : World} {F : Nat → Prop} {σ : Sg} {a : Act} : ∀ (parts : List (Nat × Operand)) (k : Nat) (vs : Array Value) (ds : List D), partsX E s size k parts = some ds → (k + ds.length) * size ≤ vs.size →
    (∀ q ∈ parts, RdX w F σ (s.ev E q.2) (a.eval q.2)) →
    ∃ vs', Instr.fill (fun i => some (i * size, size)) vs (parts.map fun q => (q.1, a.eval q.2)) = some vs' ∧ vs'.size = vs.size ∧ (∀ j, j < k * size → vs'.toList[j]? = vs.toList[j]?) ∧
      (∀ d ∈ ds, d.cells.length = size) ∧ (∀ d ∈ ds, ∀ c ∈ d.cells, c.one = true) ∧ ∀ (i : Nat) (x : D) (j : Nat) (cd : D), ds[i]? = some x → x.cells[j]? = some cd → ∃ v, vs'.toList[(k + i) * size + j]? = some v ∧ Rd w F cd v
  | [], k, vs, ds, h, _, _ => by
    simp only [partsX] at h
    cases h
    exact ⟨vs, rfl, rfl, fun _ _ => rfl, by simp, by simp, fun i x j cd h => by simp at h⟩
  | (i, y) :: r, k, vs, ds, h, hsz, hall => by
    simp only [partsX] at h
    cases hb : Nat.beq i k with
    | false => rw [hb] at h; cases h
    | true =>
      obtain rfl := Nat.eq_of_beq_eq_true hb
      rw [hb] at h
      simp only [cond_true] at h
      split at h
      · rename_i d hd
        cases hc : Nat.beq d.cells.length size with
        | false => rw [hc] at h; cases h
        | true =>
          rw [hc] at h
          simp only [cond_true] at h
          have hdl := Nat.eq_of_beq_eq_true hc
          split at h
          · rename_i ds' hds
            cases h
            have hv : Rd w F d (a.eval y) := toD_rd hd (hall (i, y) (by simp))
            obtain ⟨c1, c2, c3⟩ := hv.cells
            simp only [List.length_cons] at hsz
            have hexp : (i + (ds'.length + 1)) * size = i * size + size + ds'.length * size := by
              rw [Nat.add_mul, Nat.add_mul, Nat.one_mul]; omega
            have hset := setV_spec (a.eval y).cells.toList vs (i * size) 0 (by simp; omega)
            simp only [Nat.add_zero, Array.length_toList, c1, hdl] at hset
            have hl1 : (List.take (i * size) vs.toList).length = i * size := by rw [List.length_take, Array.length_toList]; omega
            have hl2 : (a.eval y).cells.toList.length = size := by simp [c1, hdl]
            have hsize' : (((a.eval y).cells.toList.zipIdx 0).foldl (fun cs (c, j) => cs.setIfInBounds (i * size + j) c) vs).size = vs.size := by
              rw [← Array.length_toList, hset]
              simp only [List.length_append, List.length_take, List.length_drop, Array.length_toList, c1, hdl]
              omega
            obtain ⟨vs', e1, e2, e3, e4, e5, e6⟩ := fill_parts r (i + 1) _ ds' hds (by rw [hsize']; rw [Nat.add_mul, Nat.add_mul, Nat.one_mul]; omega) (fun q hq => hall q (by simp [hq]))
            have low : ∀ j, j < i * size + size → vs'.toList[j]? = (vs.toList.take (i * size) ++ (a.eval y).cells.toList ++ vs.toList.drop (i * size + size))[j]? := by
              intro j hj
              rw [e3 j (by rw [Nat.add_mul, Nat.one_mul]; exact hj), hset]
            refine ⟨vs', ?_, e2.trans hsize', fun j hj => ?_, fun d' hd' => ?_, fun d' hd' => ?_, fun i' x j cd hx hcd => ?_⟩
            · simp only [List.map_cons, Instr.fill]
              rw [if_neg (by simp only [Bool.or_eq_true, decide_eq_true_eq]; omega)]
              rw [← e1]
              congr 1
              rw [← Array.foldl_toList]
              congr 1
              simp [Array.toList_zipIdx]
            · rw [low j (by omega), List.append_assoc, List.getElem?_append_left (by omega), List.getElem?_take, if_pos hj]
            · rcases List.mem_cons.1 hd' with h | h
              · rw [h]; exact hdl
              · exact e4 d' h
            · rcases List.mem_cons.1 hd' with h | h
              · rw [h]; exact c3
              · exact e5 d' h
            · cases i' with
              | zero =>
                simp at hx
                subst hx
                have hj : j < size := by rw [← hdl]; exact (List.getElem?_eq_some_iff.1 hcd).1
                rw [Nat.add_zero, low _ (by omega), List.append_assoc, List.getElem?_append_right (by omega), hl1, show i * size + j - i * size = j from by omega, List.getElem?_append_left (by omega)]
                have hlt : j < (a.eval y).cells.toList.length := by omega
                exact ⟨_, List.getElem?_eq_getElem hlt, c2 j cd _ hcd (by simp)⟩
              | succ i' =>
                obtain ⟨v, r1, r2⟩ := e6 i' x j cd (by simpa using hx) hcd
                refine ⟨v, ?_, r2⟩
                rw [← r1]
                congr 2
                rw [show i + (i' + 1) = i + 1 + i' from by omega]
          · cases h
      · cases h

theorem v_buildSlice {t : TypeId} {n : Nat} {parts : List (Nat × Operand)} {te : TE} {ds : List D} (ho : o.op = .buildSlice t n parts.toArray) (hte : elemT C.E t = some te) (hp : partsX C.E s te.size 0 parts = some ds) (hn : n = ds.length)
    (hsm : n * te.size ≤ 16777216) (hn6 : n ≤ 16777216) : VOp C s o (.d (.sl ds)) := by
  obtain ⟨hu, hok⟩ := elemT_ok hte
  intro F σ w a K Q hi hr hK
  have hsz := sizeOf_run (w := w) hok
  have fin : ∀ zs : Array Value, ∃ vs', Instr.fill (fun i => some (i * te.size, te.size)) ((Array.range (n * te.size)).map (zs[· % zs.size]!)) (parts.map fun q => (q.1, a.eval q.2)) = some vs' ∧ (∀ d ∈ ds, d.cells.length = te.size) ∧ (∀ d ∈ ds, ∀ c ∈ d.cells, c.one = true) ∧
      ∀ (i : Nat) (x : D) (j : Nat) (cd : D), ds[i]? = some x → x.cells[j]? = some cd → ∃ v, vs'.toList[(0 + i) * te.size + j]? = some v ∧ Rd w F cd v := fun zs => by
    obtain ⟨vs', e1, -, -, e4, e5, e6⟩ := fill_parts (s := s) (E := C.E) (size := te.size) (w := w) (F := F) (σ := σ) (a := a) parts 0 ((Array.range (n * te.size)).map (zs[· % zs.size]!)) ds hp (by simp [hn]) (fun q hq => hr q.2 (by simp [ho, Op.operands]; exact ⟨q.1, hq⟩))
    exact ⟨vs', e1, e4, e5, e6⟩
  have hparts : (parts.toArray.map fun (i, x) => (i, a.eval x)).toList = parts.map fun q => (q.1, a.eval q.2) := by simp
  obtain ⟨vs', hrun, e4, e5, e6⟩ : ∃ vs', (execOp a.eval o).run C.E.P w = .ok (.value (.slice (some ⟨w.heap.size, 0, none⟩) n n)) (w.alloc (.cells vs' te.t)) ∧ (∀ d ∈ ds, d.cells.length = te.size) ∧ (∀ d ∈ ds, ∀ c ∈ d.cells, c.one = true) ∧
      ∀ (i : Nat) (x : D) (j : Nat) (cd : D), ds[i]? = some x → x.cells[j]? = some cd → ∃ v, vs'.toList[(0 + i) * te.size + j]? = some v ∧ Rd w F cd v := by
    by_cases h0 : n * te.size = 0
    · obtain ⟨vs', e1, e456⟩ := fin #[]
      refine ⟨vs', ?_, e456⟩
      simp only [execOp, ho, Instr.buildSlice, Sem.run_bind, run_underlying hu, Result.andThen_ok, hsz]
      rw [if_neg (by omega), if_pos h0]
      simp only [Sem.run_bind, Sem.run_pure, Result.andThen_ok, hparts, e1, newRow]
      rfl
    · obtain ⟨vs', e1, e456⟩ := fin te.zero.cells
      refine ⟨vs', ?_, e456⟩
      simp only [execOp, ho, Instr.buildSlice, Sem.run_bind, run_underlying hu, Result.andThen_ok, hsz]
      rw [if_neg (by omega), if_neg h0]
      simp only [Sem.run_bind, Sem.run_pure, Result.andThen_ok, zero_run hok, hparts, e1, newRow]
      rfl
  unfold Oper.wp
  rw [hrun]
  have hx := ext_alloc (F := F) (.cells vs' te.t) hi.flt
  have he : Ext w F (w.alloc (.cells vs' te.t)) (fun b => F b ∨ b = w.heap.size) :=
    ⟨hx.below, fun b h => .inl h, fun b h => by rcases h with h | h; exact .inl h; exact .inr (by omega), fun b h => by rcases h with h | h; exact hx.lt b h; rw [h]; simp⟩
  refine hK _ _ _ he ?_
  have hex : ∀ i j, ∃ u, ∀ x cd, ds[i]? = some x → x.cells[j]? = some cd → vs'.toList[i * te.size + j]? = some u ∧ Rd w F cd u := by
    intro i j
    cases hx : ds[i]? with
    | none => exact ⟨undef, fun x cd h => by cases h⟩
    | some x =>
      cases hc : x.cells[j]? with
      | none => exact ⟨undef, fun x' cd h h' => by cases h; rw [hc] at h'; cases h'⟩
      | some cd =>
        obtain ⟨u, e1, e2⟩ := e6 i x j cd hx hc
        rw [Nat.zero_add] at e1
        exact ⟨u, fun x' cd' h h' => by cases h; rw [hc] at h'; cases h'; exact ⟨e1, e2⟩⟩
  have hheap : (w.alloc (.cells vs' te.t)).heap[w.heap.size]? = some (.cells vs'.toList.toArray te.t (0, 0)) := by simpa using heap_push
  have hmx' : n ≤ maxLen := by show n ≤ 9223372036854775807; omega
  subst hn
  exact Rd.sl te.size ds ⟨w.heap.size, 0, none⟩ ds.length (fun i j => Classical.choose (hex i j)) (Nat.le_refl _) hmx' (fun _ => .inr rfl) e4 e5 (fun i x j cd hx hc => by
      rw [add_mk, cell_vs hheap, Nat.zero_add]
      exact (Classical.choose_spec (hex i j) x cd hx hc).1) (fun i x j cd hx hc => (((Classical.choose_spec (hex i j) x cd hx hc).2).ext he hi.flt))
end
end Go.Abs

/- Conversions, given results of arithmetic that wraps, sub-slices; and one step for all operations of the engine. Conditions: each operation's own. -/
namespace Go.Abs
open Go Go.RowKit

section
variable {C : Cx} {s : St} {o : Oper} {x : X} {p : Prop}

def descOf (E : Env) (t : TypeId) : Option TypeDesc := match findT E.T t with | some e => some e.desc | none => none
theorem descOf_ok {E : Env} {t : TypeId} {d : TypeDesc} (h : descOf E t = some d) : E.P.underlying t = some d := by
  unfold descOf at h
  split at h
  · rename_i e he
    cases h
    obtain ⟨hok, rfl⟩ := findT_ok he
    exact hok.1
  · cases h
def u8s : List D → Option (List Int)
  | [] => some []
  | .imm (.int .u8 n) :: r => (match u8s r with
    | some ns => some (n :: ns)
    | none => none)
  | _ => none
theorem u8s_ok : ∀ {xs : List D} {ns : List Int}, u8s xs = some ns → xs = ns.map fun n => .imm (.int .u8 n)
  | [], ns, h => by simp only [u8s] at h; cases h; rfl
  | .imm (.int .u8 n) :: r, ns, h => by
    simp only [u8s] at h
    split at h
    · rename_i ns' h'
      cases h
      rw [u8s_ok h']
      rfl
    · cases h
def strOf (ns : List Int) : ByteArray := ns.foldl (fun r n => r.push (UInt8.ofNat n.toNat)) ByteArray.empty
theorem strOf_size (ns : List Int) : (strOf ns).size = ns.length := by
  have key : ∀ (ns : List Int) (b : ByteArray), (ns.foldl (fun r n => r.push (UInt8.ofNat n.toNat)) b).size = b.size + ns.length := by
    intro ns
    induction ns with
    | nil => intro b; rfl
    | cons n r ih =>
      intro b
      rw [List.foldl_cons, ih]
      simp only [ByteArray.size_push, List.length_cons]
      omega
  unfold strOf
  rw [key]
  simp
def convX (E : Env) (src dst : TypeId) : X → VR
  | .d (.imm (.int _ n)) => (match descOf E src, descOf E dst with
    | some _, some (.int k) => some (inR k n, .d (.imm (.int k n)))
    | _, _ => none)
  | .d (.imm (.string b)) => (match descOf E src, descOf E dst with
    | some .string, some .string => some (True, .d (.imm (.string b)))
    | _, _ => none)
  | .d (.sl xs) => (match descOf E src, descOf E dst with
    | some (.slice e), some .string => (match descOf E e with
      | some (.int .u8) => (match u8s xs with
        | some ns => some (True, .d (.imm (.string (strOf ns))))
        | none => none)
      | _ => none)
    | _, _ => none)
  | _ => none

theorem bytes_run {w : World} {F : Nat → Prop} {P : Program} {ns : List Int} {v : Value} {src dst e : TypeId} (hs : P.underlying src = some (.slice e)) (he : P.underlying e = some (.int .u8)) (hd : P.underlying dst = some .string)
    (h : Rd w F (.sl (ns.map fun n => .imm (.int .u8 n))) v) : (convert src dst v).run P w = .ok (.string (strOf ns)) w ∧ ns.length ≤ maxLen := by
  rcases Rd.sl_inv h with ⟨h0, rfl⟩ | ⟨size, ad, cap, rfl, h1, h2, h3, h4, h5, h6⟩
  · have : ns = [] := by simpa using h0
    subst this
    refine ⟨?_, by simp⟩
    simp only [convert, Sem.run_bind, run_underlying hs, run_underlying hd, Result.andThen_ok, run_underlying he, Conv.bytesToString, Sem.run_pure]
    rfl
  · simp only [List.length_map] at h1
    refine ⟨?_, by omega⟩
    have hl := run_loadCells_list (P := P) (w := w) ad (ns.map (Value.int .u8)) (fun j v hj => by
      rw [List.getElem?_map, Option.map_eq_some_iff] at hj
      obtain ⟨n, hn, rfl⟩ := hj
      have hx : (ns.map fun n => D.imm (.int .u8 n))[j]? = some (.imm (.int .u8 n)) := by rw [List.getElem?_map, hn]; rfl
      have hsz : size = 1 := (h4 _ (List.mem_of_getElem? hx)).symm
      obtain ⟨u, e1, e2⟩ := h6 j _ 0 _ hx rfl
      obtain ⟨rfl, -⟩ := Rd.imm_inv e2
      rw [hsz, Nat.mul_one, Nat.add_zero] at e1
      exact e1)
    simp only [List.length_map] at hl
    simp only [convert, Sem.run_bind, run_underlying hs, run_underlying hd, Result.andThen_ok, run_underlying he, List.length_map]
    exact run_bytesToString w ad ns.length cap ns hl

theorem v_conv {src dst : TypeId} {y : Operand} (ho : o.op = .convert src dst y) (h : convX C.E src dst (s.ev C.E y) = some (p, x)) (hp : p) : VOp C s o x := by
  refine VOp.pure_ fun F σ w a hi hr => ?_
  have hy := hr y (by simp [ho, Op.operands])
  have key : ∀ v, (convert src dst (a.eval y)).run C.E.P w = .ok v w → (execOp a.eval o).run C.E.P w = .ok (.value v) w := by
    intro v hv
    simp [execOp, ho, hv]
  generalize s.ev C.E y = xy at *
  unfold convX at h
  split at h
  · rename_i k n
    obtain ⟨e1, -⟩ := Rd.imm_inv hy
    split at h
    · rename_i d k' hs hd
      obtain ⟨rfl, rfl⟩ := Prod.mk.inj (Option.some.inj h)
      refine ⟨_, key (.int k' n) ?_, Rd.imm _ (inR_ok hp)⟩
      rw [e1]
      simp only [convert, Sem.run_bind, run_underlying (descOf_ok hs), run_underlying (descOf_ok hd), Result.andThen_ok, Conv.intToInt, inR_wrap hp]
      rfl
    · cases h
  · rename_i b
    obtain ⟨e1, e2⟩ := Rd.imm_inv hy
    split at h
    · rename_i hs hd
      obtain ⟨rfl, rfl⟩ := Prod.mk.inj (Option.some.inj h)
      refine ⟨_, key (.string b) ?_, Rd.imm _ e2⟩
      rw [e1]
      simp only [convert, Sem.run_bind, run_underlying (descOf_ok hs), run_underlying (descOf_ok hd), Result.andThen_ok]
      rfl
    · cases h
  · rename_i xs
    split at h
    · rename_i e hs hd
      split at h
      · rename_i he
        split at h
        · rename_i ns hns
          obtain ⟨rfl, rfl⟩ := Prod.mk.inj (Option.some.inj h)
          rw [u8s_ok hns] at hy
          obtain ⟨r1, r2⟩ := bytes_run (descOf_ok hs) (descOf_ok he) (descOf_ok hd) hy
          exact ⟨_, key _ r1, Rd.imm _ (by simp only [okV, decide_eq_true_eq, strOf_size]; exact r2)⟩
        · cases h
      · cases h
    · cases h
  · cases h

/-- Results that are told: operations whose arithmetic wraps. -/
theorem v_convR {src dst : TypeId} {y : Operand} {v r : Value} (ho : o.op = .convert src dst y) (hy' : s.ev C.E y = .d (.imm v)) (h : ∀ w, (convert src dst v).run C.E.P w = .ok r w) (hok : okV r = true) : VOp C s o (.d (.imm r)) := by
  refine VOp.pure_ fun F σ w a hi hr => ?_
  have hy := hr y (by simp [ho, Op.operands])
  rw [hy'] at hy
  obtain ⟨e1, -⟩ := Rd.imm_inv hy
  exact ⟨r, by simp [execOp, ho, e1, h w], Rd.imm _ hok⟩
theorem v_unR {op : UnOp} {t : TypeId} {y : Operand} {v r : Value} (ho : o.op = .unOp op t y) (hy' : s.ev C.E y = .d (.imm v)) (h : ∀ w, (Op.unary op v).run C.E.P w = .ok r w) (hok : okV r = true) : VOp C s o (.d (.imm r)) := by
  refine VOp.pure_ fun F σ w a hi hr => ?_
  have hy := hr y (by simp [ho, Op.operands])
  rw [hy'] at hy
  obtain ⟨e1, -⟩ := Rd.imm_inv hy
  exact ⟨r, by simp [execOp, ho, e1, h w], Rd.imm _ hok⟩
theorem v_binR {op : BinOp} {t u : TypeId} {y z : Operand} {v v' r : Value} (ho : o.op = .binOp op t y z u) (hy' : s.ev C.E y = .d (.imm v)) (hz' : s.ev C.E z = .d (.imm v')) (hn : v ≠ .nilIface) (hc : ∀ cs, v ≠ .agg cs)
    (h : ∀ w, (binOp op t v v').run C.E.P w = .ok r w) (hok : okV r = true) : VOp C s o (.d (.imm r)) := by
  refine VOp.pure_ fun F σ w a hi hr => ?_
  have hy := hr y (by simp [ho, Op.operands])
  have hz := hr z (by simp [ho, Op.operands])
  rw [hy'] at hy
  rw [hz'] at hz
  obtain ⟨e1, -⟩ := Rd.imm_inv hy
  obtain ⟨e2, -⟩ := Rd.imm_inv hz
  exact ⟨r, by simp [execOp, ho, e1, e2, eqGuard_run hn hc, h w], Rd.imm _ hok⟩
def nnil : X → Bool
  | .ptr _ _ | .at_ _ _ | .pel _ _ _ _ | .d (.imm (.func _ _ _)) => true
  | _ => false
theorem v_nilCheck {y : Operand} (ho : o.op = .nilCheck y) (h : nnil (s.ev C.E y) = true) : VOp C s o (s.ev C.E y) := by
  refine VOp.pure_ fun F σ w a hi hr => ?_
  have hy := hr y (by simp [ho, Op.operands])
  have key : (∃ ad, a.eval y = .pointer (some ad)) → ∃ v, (execOp a.eval o).run C.E.P w = .ok (.value v) w ∧ RdX w F σ (s.ev C.E y) v := by
    rintro ⟨ad, e⟩
    exact ⟨a.eval y, by simp [execOp, ho, e], hy⟩
  revert key hy
  unfold nnil at h
  split at h
  · rename_i e; rw [e]; intro hy key; obtain ⟨b, c, n, -, e⟩ := hy; exact key ⟨_, e⟩
  · rename_i e; rw [e]; intro hy key; obtain ⟨ad, -, e⟩ := hy; exact key ⟨_, e⟩
  · rename_i e; rw [e]; intro hy key; obtain ⟨b, c, n, -, e⟩ := hy; exact key ⟨_, e⟩
  · rename_i fn f b e
    rw [e]
    intro hy _
    obtain ⟨e1, hk⟩ := Rd.imm_inv hy
    cases fn with
    | func g => exact ⟨_, by simp [execOp, ho, e1], Rd.imm _ hk⟩
    | _ => simp [okV] at hk
  · cases h

def elemOK (E : Env) (t : TypeId) (x : X) : Prop :=
  match x with
  | .d (.sl xs) => ∃ te, elemT E t = some te ∧ ∀ d ∈ xs, d.cells.length = te.size
  | _ => True

/-- More operations that yield a value. -/
def vop2 (C : Cx) (s : St) (o : Oper) : VR :=
  match o.op with
  | .slice t y lo hi none => (match sliceX C.E t (s.ev C.E y) (lo.map (s.ev C.E)) (hi.map (s.ev C.E)) with
    | some (p, x) => some (p ∧ elemOK C.E t (s.ev C.E y), x)
    | none => none)
  | .convert src dst y => convX C.E src dst (s.ev C.E y)
  | .buildSlice t n parts => (match elemT C.E t with
    | some te => (match partsX C.E s te.size 0 parts.toList with
      | some ds => bif Nat.beq n ds.length && (Nat.ble (n * te.size) 16777216 && Nat.ble n 16777216) then some (True, .d (.sl ds)) else none
      | none => none)
    | none => none)
  | .indexAddr t y z => (match s.ev C.E y, s.ev C.E z, elemT C.E t with
    | .own k, .d (.imm (.int _ i)), some te => (match s.ob[k]? with
      | some (.row e size xs) => bif Nat.beq e te.t && Nat.beq size te.size then some (0 ≤ i ∧ i < xs.length, .pel k i.toNat 0 te.size) else none
      | _ => none)
    | _, _, _ => none)
  | .nilCheck y => bif nnil (s.ev C.E y) then some (True, s.ev C.E y) else none
  | _ => none
theorem vop2_ok (h : vop2 C s o = some (p, x)) (hp : p) : VOp C s o x := by
  unfold vop2 at h
  split at h
  · rename_i t y lo hi ho
    split at h
    · rename_i q x' hq
      obtain ⟨rfl, rfl⟩ := Prod.mk.inj (Option.some.inj h)
      refine v_slice ho (fun xs hx => ?_) hq hp.1
      have := hp.2
      rw [hx] at this
      exact this
    · cases h
  · exact v_conv ‹_› h hp
  · rename_i t n parts ho
    obtain ⟨parts⟩ := parts
    split at h
    · rename_i te hte
      split at h
      · rename_i ds hds
        cases hb : Nat.beq n ds.length && (Nat.ble (n * te.size) 16777216 && Nat.ble n 16777216) with
        | false => rw [hb] at h; cases h
        | true =>
          rw [hb] at h
          obtain ⟨rfl, rfl⟩ := Prod.mk.inj (Option.some.inj h)
          rw [Bool.and_eq_true, Bool.and_eq_true] at hb
          exact v_buildSlice ho hte hds (Nat.eq_of_beq_eq_true hb.1) (Nat.le_of_ble_eq_true hb.2.1) (Nat.le_of_ble_eq_true hb.2.2)
      · cases h
    · cases h
  · rename_i t y z ho
    split at h
    · rename_i k kd i te hy hz hte
      split at h
      · rename_i e size xs hob
        cases hb : Nat.beq e te.t && Nat.beq size te.size with
        | false => rw [hb] at h; cases h
        | true =>
          rw [hb] at h
          obtain ⟨rfl, rfl⟩ := Prod.mk.inj (Option.some.inj h)
          rw [Bool.and_eq_true] at hb
          obtain rfl := Nat.eq_of_beq_eq_true hb.1
          obtain rfl := Nat.eq_of_beq_eq_true hb.2
          exact v_indexOwn ho hy hz hob hte hp.1 hp.2
      · cases h
    · cases h
  · rename_i y ho
    cases hb : nnil (s.ev C.E y) with
    | false => rw [hb] at h; cases h
    | true =>
      rw [hb] at h
      obtain ⟨rfl, rfl⟩ := Prod.mk.inj (Option.some.inj h)
      exact v_nilCheck ho hb
  · cases h

def ownOf (ob : List AObj) (te : TE) : X → Option (Option Nat × List D)
  | .nilS => some (none, [])
  | .own i => (match ob[i]? with
    | some (.row e size xs) => bif Nat.beq e te.t && Nat.beq size te.size then some (some i, xs) else none
    | _ => none)
  | _ => none
/-- More operations that turn the state. -/
def sop2 (C : Cx) (o : Oper) (tm : List (Nat × X)) (ob : List AObj) : Option (Prop × List (Nat × X) × List AObj) :=
  match o.op with
  | .makeSlice t y z => (match o.dst, elemT C.E t, (⟨tm, ob⟩ : St).ev C.E y, (⟨tm, ob⟩ : St).ev C.E z with
    | some d, some te, .d (.imm (.int _ (.ofNat n))), .d (.imm (.int _ (.ofNat m))) => (match zeroD te with
      | some z => bif Nat.blt d C.N && (oneAll te.zero.cells.toList && Nat.beq te.zero.cells.size te.size) then
          some (n = m ∧ te.bytes * n ≤ 281474976710656 ∧ n ≤ 9223372036854775807, (d, .own ob.length) :: tm, ob ++ [.row te.t te.size (List.replicate n z)]) else none
      | none => none)
    | _, _, _, _ => none)
  | .call c => (match c.callee with
    | .builtin .append => (match o.dst, c.args.toList, c.argTypes.toList with
      | some d, [y, z], [t, t'] => (match elemT C.E t, (⟨tm, ob⟩ : St).ev C.E z with
        | some te, .d (.sl ys) => (match ownOf ob te ((⟨tm, ob⟩ : St).ev C.E y) with
          | some (oi, xs) => bif Nat.blt d C.N && (Nat.beq t t' && (Nat.beq te.zero.cells.size te.size && Nat.blt 0 te.size)) then
              some (ys ≠ [] ∧ (∀ d ∈ ys, d.cells.length = te.size) ∧ (xs.length + ys.length) * te.bytes ≤ 140737488355328 ∧ xs.length + ys.length ≤ 9223372036854775807,
                (d, .own ob.length) :: tm, (match oi with | some i => ob.set i .dead | none => ob) ++ [.row te.t te.size (xs ++ ys)]) else none
          | none => none)
        | _, _ => none)
      | _, _, _ => none)
    | _ => none)
  | _ => none
theorem sop2_ok {tm tm' : List (Nat × X)} {ob ob' : List AObj} (h : sop2 C o tm ob = some (p, tm', ob')) (hp : p) : SOp C ⟨tm, ob⟩ o ⟨tm', ob'⟩ := by
  unfold sop2 at h
  split at h
  · rename_i t y z ho
    split at h
    · rename_i d te ky n kz m hdst hte hy hz
      split at h
      · rename_i zd hzd
        cases hb : Nat.blt d C.N && (oneAll te.zero.cells.toList && Nat.beq te.zero.cells.size te.size) with
        | false => rw [hb] at h; cases h
        | true =>
          rw [hb] at h
          simp only [cond_true, Option.some.injEq, Prod.mk.injEq] at h
          obtain ⟨rfl, rfl, rfl⟩ := h
          rw [Bool.and_eq_true, Bool.and_eq_true] at hb
          obtain ⟨rfl, h1, h2⟩ := hp
          have := s_make (s := ⟨tm, ob⟩) (n := n) ho hte hy hz hzd hb.2.1 (Nat.eq_of_beq_eq_true hb.2.2) h1 h2 (by simp only [dstOK, hdst]; exact hb.1)
          rw [hdst] at this
          exact this
      · cases h
    · cases h
  · rename_i c ho
    obtain ⟨ce, args, tys⟩ := c
    obtain ⟨args⟩ := args
    obtain ⟨tys⟩ := tys
    simp only at h
    split at h
    · split at h
      · rename_i d y z t t' hdst
        split at h
        · rename_i te ys hte hz
          split at h
          · rename_i oi xs hown
            cases hb : Nat.blt d C.N && (Nat.beq t t' && (Nat.beq te.zero.cells.size te.size && Nat.blt 0 te.size)) with
            | false => rw [hb] at h; cases h
            | true =>
              rw [hb] at h
              simp only [cond_true, Option.some.injEq, Prod.mk.injEq] at h
              obtain ⟨rfl, rfl, rfl⟩ := h
              rw [Bool.and_eq_true, Bool.and_eq_true, Bool.and_eq_true] at hb
              obtain ⟨h1, h2, h3, h4⟩ := hp
              obtain rfl := Nat.eq_of_beq_eq_true hb.2.1
              have hs0 : 0 < te.size := by simpa using hb.2.2.2
              have hy : (oi = none ∧ (⟨tm, ob⟩ : St).ev C.E y = .nilS ∧ xs = []) ∨ ∃ i, oi = some i ∧ (⟨tm, ob⟩ : St).ev C.E y = .own i ∧ ob[i]? = some (.row te.t te.size xs) := by
                unfold ownOf at hown
                split at hown
                · rename_i e; cases hown; exact .inl ⟨rfl, e, rfl⟩
                · rename_i i e
                  split at hown
                  · rename_i e' size' xs' hob
                    cases hb' : Nat.beq e' te.t && Nat.beq size' te.size with
                    | false => rw [hb'] at hown; cases hown
                    | true =>
                      rw [hb'] at hown
                      simp only [cond_true, Option.some.injEq, Prod.mk.injEq] at hown
                      obtain ⟨rfl, rfl⟩ := hown
                      rw [Bool.and_eq_true] at hb'
                      obtain rfl := Nat.eq_of_beq_eq_true hb'.1
                      obtain rfl := Nat.eq_of_beq_eq_true hb'.2
                      exact .inr ⟨i, rfl, e, hob⟩
                  · cases hown
                · cases hown
              have := s_append (s := ⟨tm, ob⟩) ho hte hy hz h1 h2 (Nat.eq_of_beq_eq_true hb.2.2.1) hs0 h3 h4 (by simp only [dstOK, hdst]; exact hb.1)
              rw [hdst] at this
              exact this
          · cases h
        · cases h
      · cases h
    · cases h
  · cases h

/-- One operation of a region, reckoned. -/
def stepY (C : Cx) (all : Array Oper) (pu : Bool) (o : Oper) (tm : List (Nat × X)) (ob : List AObj) : Option (Prop × List (Nat × X) × List AObj) :=
  match guardX all tm o with
  | some true => (match vop2 C ⟨tm, ob⟩ o with
    | some (p, x) => (match o.dst with
      | some d => bif Nat.blt d C.N then some (p, (d, x) :: tm, ob) else none
      | none => none)
    | none => (match pu with
      | true => stepX C all pu o tm ob
      | false => (match sop2 C o tm ob with
        | some r => some r
        | none => stepX C all pu o tm ob)))
  | _ => stepX C all pu o tm ob
theorem qS {all : Array Oper} {pu : Bool} {K : St → Prop} {rest : List Oper} {tm tm' : List (Nat × X)} {ob ob' : List AObj} (hv : stepY C all pu o tm ob = some (p, tm', ob')) (hp : p) (h : SGo C all pu rest ⟨tm', ob'⟩ K) :
    SGo C all pu (o :: rest) ⟨tm, ob⟩ K := by
  unfold stepY at hv
  split at hv
  · rename_i hg
    split at hv
    · rename_i q x hx
      split at hv
      · rename_i d hd
        cases hN : Nat.blt d C.N with
        | false => rw [hN] at hv; cases hv
        | true =>
          rw [hN] at hv
          simp only [cond_true, Option.some.injEq, Prod.mk.injEq] at hv
          obtain ⟨rfl, rfl, rfl⟩ := hv
          refine SGo.vop (guardX_ok hg) (by simp only [dstOK, hd]; exact hN) (vop2_ok hx hp) ?_
          rw [hd]
          exact h
      · cases hv
    · split at hv
      · exact go_step hv hp h
      · split at hv
        · rename_i r hr
          cases hv
          exact SGo.eff (guardX_ok hg) (sop2_ok hr hp) h
        · exact go_step hv hp h
  · exact go_step hv hp h

section
variable {all : Array Oper} {pu : Bool} {K : St → Prop} {rest : List Oper} {tm : List (Nat × X)} {ob : List AObj} {d : Nat}
theorem go_vopG {y : X} (hg : guardX all tm o = some true) (hdst : o.dst = some d) (hd : Nat.blt d C.N = true) (hv : VOp C ⟨tm, ob⟩ o y) (h : SGo C all pu rest ⟨(d, y) :: tm, ob⟩ K) : SGo C all pu (o :: rest) ⟨tm, ob⟩ K := by
  refine SGo.vop (guardX_ok hg) (by simp only [dstOK, hdst]; exact hd) hv ?_
  rw [hdst]
  exact h
/-- A guard that is known by a fact at hand. -/
theorem qX {j t : Nat} {pol b b' : Bool} {q : Oper} (_hg : o.guard = some (j, pol)) (_hj : all[j]? = some q) (_hq : q.dst = some t) (hb : lk tm t = .d (.imm (.bool b))) (he : b = b')
    (h : SGo C all pu (o :: rest) ⟨(t, .d (.imm (.bool b'))) :: tm, ob⟩ K) : SGo C all pu (o :: rest) ⟨tm, ob⟩ K := by
  subst he
  refine SGo.same (s1 := ⟨(t, .d (.imm (.bool b))) :: tm, ob⟩) ⟨fun u => ?_, rfl⟩ h
  simp only [lk]
  cases hbq : Nat.beq t u with
  | true => obtain rfl := Nat.eq_of_beq_eq_true hbq; exact hb.symm
  | false => rfl
/-- A load of an element of a row of the call's own; the element is told. -/
theorem qW {t te : TypeId} {y : Operand} {i k off size : Nat} {xs : List D} (e : D) (ho : o.op = .load t y) (hg : guardX all tm o = some true) (hdst : o.dst = some d) (hd : Nat.blt d C.N = true)
    (hy : (⟨tm, ob⟩ : St).ev C.E y = .pel k i off size) (hob : ob[k]? = some (.row te size xs)) (he : xs[i]? = some e) (hl : loadX C.E ob t (.at_ e off) = some (p, x)) (h : SGo C all pu rest ⟨(d, x) :: tm, ob⟩ K) : SGo C all pu (o :: rest) ⟨tm, ob⟩ K :=
  go_vopG hg hdst hd (v_loadP ho hy hob he hl) h
/-- A store into an element of a row of the call's own; what the element was is told. -/
theorem qZ {t te : TypeId} {y z : Operand} {k i off size : Nat} {xs : List D} {v : D} {tt : TE} (e : D) (ho : o.op = .store t y z) (hg : guardX all tm o = some true) (hdst : o.dst = none) (hy : (⟨tm, ob⟩ : St).ev C.E y = .pel k i off size) (hz : toD ((⟨tm, ob⟩ : St).ev C.E z) = some v)
    (hob : ob[k]? = some (.row te size xs)) (he : xs[i]? = some e) (ht : findT C.E.T t = some tt) (hsz : Nat.beq v.cells.length tt.size = true) (hle : Nat.ble (off + v.cells.length) e.cells.length = true)
    (h : SGo C all false rest ⟨tm, ob.set k (.row te size (xs.set i (subD e off v)))⟩ K) : SGo C all false (o :: rest) ⟨tm, ob⟩ K :=
  SGo.eff (guardX_ok hg) (s_storeP ho hdst hy hz hob he ht hsz hle) h
end
/-- A row that nobody writes any more. -/
theorem go_frz {c : Code} {r : List It} {Q : Exit → St → Prop} {tm : List (Nat × X)} {ob : List AObj} {s' : St} (k : Nat) (h : frz k ⟨tm, ob⟩ = some s') (hg : go C (.code c :: r) s' Q) : go C (.code c :: r) ⟨tm, ob⟩ Q := go_weaken (frz_le k h) hg
end

/-! ## What every readable datum keeps to -/
inductive Fit : D → Prop
  | imm (v : Value) (h : okV v = true) : Fit (.imm v)
  | agg (cs : List D) (h : ∀ c ∈ cs, Fit c) : Fit (.agg cs)
  | sl (xs : List D) (hl : xs.length ≤ maxLen) (h : ∀ x ∈ xs, Fit x) : Fit (.sl xs)
theorem fit_cells {x : D} (h : ∀ c ∈ x.cells, Fit c) : Fit x := by
  cases x with
  | agg cs => exact .agg cs h
  | imm v => exact h _ (by simp [D.cells])
  | sl xs => exact h _ (by simp [D.cells])
theorem Rd.fit {w : World} {F : Nat → Prop} {d : D} {v : Value} (h : Rd w F d v) : Fit d := by
  induction h with
  | imm v h => exact .imm v h
  | agg cs vs hl hc h ih =>
    refine .agg cs fun c hc' => ?_
    obtain ⟨i, hi⟩ := List.getElem?_of_mem hc'
    have hlt : i < vs.length := by rw [← hl]; exact (List.getElem?_eq_some_iff.1 hi).1
    exact ih i c _ hi (List.getElem?_eq_getElem hlt)
  | slnil => exact .sl [] (by simp) (by simp)
  | sl size xs ad cap u hc hm hF hz ho hcell hrd ih =>
    refine .sl xs (Nat.le_trans hc hm) fun x hx => fit_cells fun c hc => ?_
    obtain ⟨i, hi⟩ := List.getElem?_of_mem hx
    obtain ⟨j, hj⟩ := List.getElem?_of_mem hc
    exact ih i x j c hi hj
/-- A contract may take it that its arguments can be read. -/
theorem Ev.fit {E : Env} {f : FuncId} {ds : List D} {r : X} (h : (∀ d ∈ ds, Fit d) → Ev E f ds r) : Ev E f ds r := by
  intro w F vs hF hG hl hr
  refine h (fun d hd => ?_) w F vs hF hG hl hr
  obtain ⟨i, hi⟩ := List.getElem?_of_mem hd
  have hlt : i < vs.length := by rw [hl]; exact (List.getElem?_eq_some_iff.1 hi).1
  exact (hr i d _ hi (List.getElem?_eq_getElem hlt)).fit
theorem Fit.int {k : IntKind} {n : Int} (h : Fit (.imm (.int k n))) : inR k n := by cases h with | imm _ h => exact ok_inR h
theorem Fit.str {s : ByteArray} (h : Fit (.imm (.string s))) : s.size ≤ 9223372036854775807 := by
  cases h with
  | imm _ h =>
    simp only [okV, decide_eq_true_eq] at h
    exact h
theorem Fit.aggs {cs : List D} (h : Fit (.agg cs)) : ∀ c ∈ cs, Fit c := by cases h with | agg _ h => exact h
theorem Fit.sls {xs : List D} (h : Fit (.sl xs)) : xs.length ≤ 9223372036854775807 ∧ ∀ x ∈ xs, Fit x := by cases h with | sl _ h1 h2 => exact ⟨h1, h2⟩

theorem tmod_bnd {a b : Int} (hb : 1 ≤ b) : (0 ≤ a → 0 ≤ a.tmod b ∧ a.tmod b ≤ a ∧ a.tmod b < b) ∧ (a < 0 → a ≤ a.tmod b ∧ a.tmod b ≤ 0 ∧ -b < a.tmod b) := by
  have key : ∀ a : Int, 0 ≤ a → 0 ≤ a.tmod b ∧ a.tmod b ≤ a ∧ a.tmod b < b := by
    intro a h
    rw [Int.tmod_eq_emod_of_nonneg h]
    refine ⟨Int.emod_nonneg a (by omega), ?_, Int.emod_lt_of_pos a (by omega)⟩
    have h1 := Int.emod_add_mul_ediv a b
    have h2 := Int.mul_nonneg (show 0 ≤ b by omega) (Int.ediv_nonneg h (show 0 ≤ b by omega))
    omega
  refine ⟨key a, fun h => ?_⟩
  have := key (-a) (by omega)
  rw [Int.neg_tmod] at this
  omega
theorem tdiv_bnd {a b : Int} (hb : 1 ≤ b) : (0 ≤ a → 0 ≤ a.tdiv b ∧ a.tdiv b ≤ a) ∧ (a < 0 → a ≤ a.tdiv b ∧ a.tdiv b ≤ 0) := by
  have key : ∀ a : Int, 0 ≤ a → 0 ≤ a.tdiv b ∧ a.tdiv b ≤ a := by
    intro a h
    rw [Int.tdiv_eq_ediv_of_nonneg h]
    exact ⟨Int.ediv_nonneg h (by omega), Int.ediv_le_self b h⟩
  refine ⟨key a, fun h => ?_⟩
  have := key (-a) (by omega)
  rw [Int.neg_tdiv] at this
  omega
theorem tmod_ok {a b : Int} (hb : 1 ≤ b) (ha : -9223372036854775808 ≤ a ∧ a ≤ 9223372036854775807) : b ≠ 0 ∧ inR .i64 (a.tmod b) := by
  obtain ⟨h1, h2⟩ := tmod_bnd (a := a) hb
  refine ⟨by omega, ?_⟩
  simp only [inR]
  rcases (show a < 0 ∨ 0 ≤ a by omega) with h | h
  · have := h2 h; omega
  · have := h1 h; omega
theorem tdiv_ok {a b : Int} (hb : 1 ≤ b) (ha : -9223372036854775808 ≤ a ∧ a ≤ 9223372036854775807) : b ≠ 0 ∧ inR .i64 (a.tdiv b) := by
  obtain ⟨h1, h2⟩ := tdiv_bnd (a := a) hb
  refine ⟨by omega, ?_⟩
  simp only [inR]
  rcases (show a < 0 ∨ 0 ≤ a by omega) with h | h
  · have := h2 h; omega
  · have := h1 h; omega

end Go.Abs

/- Slices that are made and never written: they count as data at once. Conditions: each operation's own. -/
namespace Go.Abs
open Go Go.RowKit

section
variable {C : Cx} {s : St} {o : Oper} {x : X} {p : Prop}

theorem v_makeD {t : TypeId} {y z : Operand} {te : TE} {ky kz : IntKind} {n : Nat} {d : D} (ho : o.op = .makeSlice t y z) (hte : elemT C.E t = some te) (hy : s.ev C.E y = .d (.imm (.int ky (n : Int)))) (hz : s.ev C.E z = .d (.imm (.int kz (n : Int))))
    (hzd : zeroD te = some d) (h1z : oneAll te.zero.cells.toList = true) (hzs : te.zero.cells.size = te.size) (hb : te.bytes * n ≤ 281474976710656) (hmx : n ≤ 9223372036854775807) : VOp C s o (.d (.sl (List.replicate n d))) := by
  obtain ⟨hu, hok⟩ := elemT_ok hte
  obtain ⟨hdesc, i0, hi0, hsize, hbytes, hzero⟩ := hok
  have hc := zeroD_cells hzd
  intro F σ w a K Q hi hr hK
  have hvy := hr y (by simp [ho, Op.operands])
  have hvz := hr z (by simp [ho, Op.operands])
  rw [hy] at hvy
  rw [hz] at hvz
  have e1 := (Rd.imm_inv hvy).1
  have e2 := (Rd.imm_inv hvz).1
  have hbz : (i0.bytes : Int) * (n : Int) ≤ 281474976710656 := by
    have h : ((i0.bytes * n : Nat) : Int) ≤ 281474976710656 := by rw [hbytes]; omega
    rwa [Int.natCast_mul] at h
  have hrun0 := run_make (P := C.E.P) w t te.t i0 te.zero hu hi0 hzero ky kz n n (Int.natCast_nonneg n) (Int.le_refl _) hbz (by omega)
  have hrun : (execOp a.eval o).run C.E.P w = .ok (.value (.slice (some ⟨w.heap.size, 0, none⟩) n n)) (w.alloc (.cells (madeCells te.zero.cells (n * te.size)) te.t)) := by
    simp only [Int.toNat_natCast, hsize] at hrun0
    simp [execOp, ho, e1, e2, hrun0]
  unfold Oper.wp
  rw [hrun]
  have hx := ext_alloc (F := F) (.cells (madeCells te.zero.cells (n * te.size)) te.t) hi.flt
  have he : Ext w F (w.alloc (.cells (madeCells te.zero.cells (n * te.size)) te.t)) (fun b => F b ∨ b = w.heap.size) :=
    ⟨hx.below, fun b h => .inl h, fun b h => by rcases h with h | h; exact .inl h; exact .inr (by omega), fun b h => by rcases h with h | h; exact hx.lt b h; rw [h]; simp⟩
  have hz0 : CellsRd (w.alloc (.cells (madeCells te.zero.cells (n * te.size)) te.t)) (fun b => F b ∨ b = w.heap.size) te.zero.cells.toList d.cells := zeroDs_ok hc fun v hv => oneAll_ok h1z v hv
  have hdl : d.cells.length = te.size := by rw [hz0.len]; simpa using hzs
  refine hK _ _ _ he ?_
  have hheap : (w.alloc (.cells (madeCells te.zero.cells (n * te.size)) te.t)).heap[w.heap.size]? = some (.cells (madeCells te.zero.cells (n * te.size)).toList.toArray te.t (0, 0)) := by simpa using heap_push
  have hlen : (List.replicate n d).length = n := by simp
  have hget : ∀ (i : Nat) x, (List.replicate n d)[i]? = some x → i < n ∧ x = d := by
    intro i x hx
    have hin : i < n := by
      have := (List.getElem?_eq_some_iff.1 hx).1
      simpa using this
    rw [List.getElem?_replicate, if_pos hin] at hx
    cases hx
    exact ⟨hin, rfl⟩
  have key : Rd (w.alloc (.cells (madeCells te.zero.cells (n * te.size)) te.t)) (fun b => F b ∨ b = w.heap.size) (.sl (List.replicate n d)) (.slice (some ⟨w.heap.size, 0, none⟩) (List.replicate n d).length n) := by
    refine Rd.sl te.size _ ⟨w.heap.size, 0, none⟩ n (fun _ j => te.zero.cells.toList.getD j undef) (by rw [hlen]; exact Nat.le_refl _) hmx (fun _ => .inr rfl) (fun x hx => ?_) (fun x hx c hcx => ?_) (fun i x j cd hx hcd => ?_) (fun i x j cd hx hcd => ?_)
    · rw [(List.mem_replicate.1 hx).2]; exact hdl
    · rw [(List.mem_replicate.1 hx).2] at hcx
      obtain ⟨j, hj⟩ := List.getElem?_of_mem hcx
      have hlt : j < te.zero.cells.toList.length := by rw [← hz0.len]; exact (List.getElem?_eq_some_iff.1 hj).1
      obtain ⟨d', e1, e2⟩ := hz0.rd j _ (List.getElem?_eq_getElem hlt)
      rw [hj] at e1
      cases e1
      exact e2.one_of (hz0.one _ (List.getElem_mem hlt))
    · obtain ⟨hin, rfl⟩ := hget i x hx
      have hj : j < te.size := by rw [← hdl]; exact (List.getElem?_eq_some_iff.1 hcd).1
      have hjj : j < te.zero.cells.size := by rw [hzs]; exact hj
      have hmod : (i * te.size + j) % te.zero.cells.size = j := by rw [hzs]; exact (div_idx hj).2
      rw [add_mk, cell_vs hheap, Nat.zero_add]
      simp only [madeCells, Array.toList_map, Array.toList_range, List.getElem?_map, List.getElem?_range (mul_idx hin hj), Option.map_some, hmod]
      simp [hjj]
    · obtain ⟨hin, rfl⟩ := hget i x hx
      have hj : j < te.size := by rw [← hdl]; exact (List.getElem?_eq_some_iff.1 hcd).1
      have hlt : j < te.zero.cells.toList.length := by simpa [hzs] using hj
      obtain ⟨d', e1, e2⟩ := hz0.rd j _ (List.getElem?_eq_getElem hlt)
      rw [hcd] at e1
      cases e1
      rw [List.getD_eq_getElem?_getD, List.getElem?_eq_getElem hlt]
      exact e2
  rw [hlen] at key
  exact key
section
variable {all : Array Oper} {pu : Bool} {K : St → Prop} {rest : List Oper} {tm : List (Nat × X)} {ob : List AObj} {k : Nat}
theorem go_makeD {t : TypeId} {y z : Operand} {te : TE} {ky kz : IntKind} (n : Nat) {d : D} (ho : o.op = .makeSlice t y z) (hg : guardX all tm o = some true) (hdst : o.dst = some k) (hd : Nat.blt k C.N = true) (hte : elemT C.E t = some te) (hy : (⟨tm, ob⟩ : St).ev C.E y = .d (.imm (.int ky (n : Int)))) (hz : (⟨tm, ob⟩ : St).ev C.E z = .d (.imm (.int kz (n : Int))))
    (hzd : zeroD te = some d) (h1z : oneAll te.zero.cells.toList = true) (hzs : te.zero.cells.size = te.size) (hb : te.bytes * n ≤ 281474976710656) (hmx : n ≤ 9223372036854775807) (h : SGo C all pu rest ⟨(k, .d (.sl (List.replicate n d))) :: tm, ob⟩ K) :
    SGo C all pu (o :: rest) ⟨tm, ob⟩ K :=
  go_vopG hg hdst hd (v_makeD ho hte hy hz hzd h1z hzs hb hmx) h
end
end
end Go.Abs

/- Arithmetic that wraps, with its result told; '==' on structs of plain fields; calls of functions that the model answers itself. Conditions: each operation's own. -/
namespace Go.Abs
open Go Go.RowKit

section
variable {C : Cx} {s : St} {o : Oper} {x : X} {p : Prop}

theorem Ev.mk {E : Env} {f : FuncId} {ds : List D} {r : X} (h : ∀ (w : World) (F : Nat → Prop) (vs : List Value), (∀ b, F b → b < w.heap.size) → E.GI w F → vs.length = ds.length → (∀ (i : Nat) d v, ds[i]? = some d → vs[i]? = some v → Rd w F d v) →
    Calls E.P f vs.toArray w fun e w' => ∃ v F', e = .returned v ∧ Ext w F w' F' ∧ RdX w' F' [] r v) : Ev E f ds r := h
theorem inR_wrapped (k : IntKind) (n : Int) : inR k (k.wrap n) := by
  cases k <;> simp only [inR, IntKind.wrap, IntKind.signed, IntKind.bits] <;> simp <;> omega
theorem conv_int_run {E : Env} {src dst : TypeId} {k k' : IntKind} {n : Int} {ds : TypeDesc} (hs : descOf E src = some ds) (hd : descOf E dst = some (.int k)) (w : World) : (convert src dst (.int k' n)).run E.P w = .ok (.int k (k.wrap n)) w := by
  simp only [convert, Sem.run_bind, run_underlying (descOf_ok hs), run_underlying (descOf_ok hd), Result.andThen_ok, Conv.intToInt]
  rfl

/-- Cells of two structs, compared field by field. -/
def flatEq (E : Env) : List Field → List D → List D → Option Bool
  | [], _, _ => some true
  | f :: r, cs, cs' => bif f.name == "_" then none else (match descOf E f.type, cs[f.offset]?, cs'[f.offset]? with
    | some (.int _), some (.imm (.int k a)), some (.imm (.int k' b)) => bif decide (k = k') then (flatEq E r cs cs').map ((a == b) && ·) else none
    | some .bool, some (.imm (.bool a)), some (.imm (.bool b)) => (flatEq E r cs cs').map ((a == b) && ·)
    | some .string, some (.imm (.string a)), some (.imm (.string b)) => (flatEq E r cs cs').map ((a.toList == b.toList) && ·)
    | _, _, _ => none)
theorem isAgg_desc {P : Program} {t : TypeId} {d : TypeDesc} {w : World} (h : P.underlying t = some d) (hd : (∃ k, d = .int k) ∨ d = .bool ∨ d = .string) : (isAgg t).run P w = .ok false w := by
  unfold isAgg
  simp only [Sem.run_bind, run_underlying h, Result.andThen_ok]
  rcases hd with ⟨k, rfl⟩ | rfl | rfl <;> rfl
theorem part_run {P : Program} {t : TypeId} {d : TypeDesc} {w : World} {cs : Array Value} {off : Nat} {v : Value} (h : P.underlying t = some d) (hd : (∃ k, d = .int k) ∨ d = .bool ∨ d = .string) (hv : cs[off]? = some v) : (part t cs off).run P w = .ok v w := by
  unfold part
  simp only [Sem.run_bind, isAgg_desc h hd, Result.andThen_ok, Bool.false_eq_true, if_false, hv]
  rfl
theorem eqFields_run {E : Env} {w : World} {F : Nat → Prop} {d : Nat} {vs vs' : List Value} {cs cs' : List D} (hl : cs.length = vs.length) (hl' : cs'.length = vs'.length)
    (h : ∀ (i : Nat) (c : D) (v : Value), cs[i]? = some c → vs[i]? = some v → Rd w F c v) (h' : ∀ (i : Nat) (c : D) (v : Value), cs'[i]? = some c → vs'[i]? = some v → Rd w F c v) :
    ∀ (fs : List Field) (b : Bool), flatEq E fs cs cs' = some b → (Op.eqFields (d + 1) vs.toArray vs'.toArray fs).run E.P w = .ok b w
  | [], b, hb => by
    simp only [flatEq] at hb
    cases hb
    rfl
  | f :: r, b, hb => by
    have look : ∀ {cs : List D} {vs : List Value} {u : Value}, cs.length = vs.length → (∀ (i : Nat) (c : D) (v : Value), cs[i]? = some c → vs[i]? = some v → Rd w F c v) → cs[f.offset]? = some (.imm u) → vs.toArray[f.offset]? = some u := by
      intro cs vs u hl h hc
      have hlt : f.offset < vs.length := by rw [← hl]; exact (List.getElem?_eq_some_iff.1 hc).1
      have hv := List.getElem?_eq_getElem hlt
      have := (h _ _ _ hc hv).imm_inv.1
      rw [List.getElem?_toArray, hv, this]
    simp only [flatEq] at hb
    cases hn : f.name == "_" with
    | true => rw [hn] at hb; cases hb
    | false =>
      rw [hn] at hb
      simp only [cond_false] at hb
      have hne : f.name ≠ "_" := by simpa using hn
      simp only [Op.eqFields, if_pos hne]
      split at hb
      · rename_i k0 k a k' a' hd h1 h2
        cases hk : decide (k = k') with
        | false => rw [hk] at hb; cases hb
        | true =>
          rw [hk] at hb
          obtain rfl := of_decide_eq_true hk
          simp only [cond_true, Option.map_eq_some_iff] at hb
          obtain ⟨q, hq, rfl⟩ := hb
          have ih := eqFields_run hl hl' h h' r q hq (d := d)
          simp only [Sem.run_bind, part_run (descOf_ok hd) (.inl ⟨_, rfl⟩) (look hl h h1), part_run (descOf_ok hd) (.inl ⟨_, rfl⟩) (look hl' h' h2), Result.andThen_ok, run_equalIn_int w d _ _ _ a a' (descOf_ok hd)]
          cases a == a' with
          | true => simp [ih]
          | false => simp
      · rename_i a a' hd h1 h2
        simp only [Option.map_eq_some_iff] at hb
        obtain ⟨q, hq, rfl⟩ := hb
        have ih := eqFields_run hl hl' h h' r q hq (d := d)
        simp only [Sem.run_bind, part_run (descOf_ok hd) (.inr (.inl rfl)) (look hl h h1), part_run (descOf_ok hd) (.inr (.inl rfl)) (look hl' h' h2), Result.andThen_ok, run_equalIn_bool' w d _ a a' (descOf_ok hd)]
        cases a == a' with
        | true => simp [ih]
        | false => simp
      · rename_i a a' hd h1 h2
        simp only [Option.map_eq_some_iff] at hb
        obtain ⟨q, hq, rfl⟩ := hb
        have ih := eqFields_run hl hl' h h' r q hq (d := d)
        simp only [Sem.run_bind, part_run (descOf_ok hd) (.inr (.inr rfl)) (look hl h h1), part_run (descOf_ok hd) (.inr (.inr rfl)) (look hl' h' h2), Result.andThen_ok, run_equalIn_string w d _ a a' (descOf_ok hd)]
        cases a.toList == a'.toList with
        | true => simp [ih]
        | false => simp
      · cases hb
theorem v_eqS {op : BinOp} {t u : TypeId} {y z : Operand} {cs cs' : List D} {fs : Array Field} {b r : Bool} (ho : o.op = .binOp op t y z u) (hy' : s.ev C.E y = .d (.agg cs)) (hz' : s.ev C.E z = .d (.agg cs')) (hd : descOf C.E t = some (.struct fs))
    (h1 : C.E.P.stoodInHeld t = false) (h2 : C.E.P.eqGuardType C.E.P.depth t = false) (hb : flatEq C.E fs.toList cs cs' = some b) (hop : (op = .eql ∧ r = b) ∨ (op = .neq ∧ r = !b)) : VOp C s o (.d (.imm (.bool r))) := by
  refine VOp.pure_ fun F σ w a hi hr => ?_
  have hy := hr y (by simp [ho, Op.operands])
  have hz := hr z (by simp [ho, Op.operands])
  rw [hy'] at hy
  rw [hz'] at hz
  obtain ⟨vs, e1, l1, -, r1⟩ := Rd.agg_inv hy
  obtain ⟨vs', e2, l2, -, r2⟩ := Rd.agg_inv hz
  have hu := descOf_ok hd
  have hf : C.E.P.fieldsOf t = fs := by unfold Program.fieldsOf; rw [hu]
  have hrun := eqFields_run (d := 9998) l1 l2 r1 r2 fs.toList b hb
  refine ⟨.bool r, ?_, Rd.imm _ rfl⟩
  have hin : (Op.equalIn 10000 t (.agg vs.toArray) (.agg vs'.toArray)).run C.E.P w = .ok b w := by
    rw [run_equalIn_struct w 9999 t _ _ (by rw [hf]; exact hu) h1, hf]
    exact hrun
  rcases hop with ⟨rfl, rfl⟩ | ⟨rfl, rfl⟩
  · simp only [execOp, ho, e1, e2, Sem.run_bind, run_eqGuard_agg w _ _ _ _ _ _ h2, Result.andThen_ok, run_eql_struct, hin, Sem.run_pure]
  · simp only [execOp, ho, e1, e2, Sem.run_bind, run_eqGuard_agg w _ _ _ _ _ _ h2, Result.andThen_ok, run_neq_struct, hin, Sem.run_pure]

/-- What the model itself answers at a call on immediate values. -/
def ExtEv (E : Env) (f : FuncId) (vals : List Value) (rx : X) : Prop := ∃ v, (∀ w, (callFunc f vals.toArray).run E.P w = .ok (.value v) w) ∧ ∀ w F, RdX w F [] rx v
theorem ExtEv.mk {E : Env} {f : FuncId} {vals : List Value} {rx : X} {v : Value} (h : ∀ w, (callFunc f vals.toArray).run E.P w = .ok (.value v) w) (hx : ∀ w F, RdX w F [] rx v) : ExtEv E f vals rx := ⟨v, h, hx⟩
/-- A call that the model answers itself, on immediate values. -/
theorem v_callV {y : Operand} {args : List Operand} {tys : Array TypeId} {f : FuncId} {vals : List Value} {v : Value} (ho : o.op = .call { callee := .value y, args := args.toArray, argTypes := tys }) (hf : s.ev C.E y = .d (.imm (.func (.func f) #[] #[])))
    (hd : datsX C.E s args = some (vals.map .imm)) (h : ∀ w, (callFunc f vals.toArray).run C.E.P w = .ok (.value v) w) (hx : ∀ w F, RdX w F [] x v) : VOp C s o x := by
  refine VOp.pure_ fun F σ w a hi hr => ?_
  have hy := hr y (by simp [ho, Op.operands, Call.operands])
  rw [hf] at hy
  obtain ⟨e1, -⟩ := Rd.imm_inv hy
  obtain ⟨h1, h2⟩ := (datsX_ok hd).rd (w := w) (F := F) (σ := σ) (a := a) fun z hz => hr z (by simp [ho, Op.operands, Call.operands, hz])
  have hvals : args.map a.eval = vals := by
    refine List.ext_getElem? fun i => ?_
    by_cases hlt : i < vals.length
    · have hlt' : i < (args.map a.eval).length := by rw [h1]; simpa using hlt
      have := h2 i _ _ (by rw [List.getElem?_map, List.getElem?_eq_getElem hlt]; rfl) (List.getElem?_eq_getElem hlt')
      rw [List.getElem?_eq_getElem hlt, List.getElem?_eq_getElem hlt', this.imm_inv.1]
    · rw [List.length_map (f := D.imm)] at h1
      rw [List.getElem?_eq_none (by omega), List.getElem?_eq_none (by omega)]
  refine ⟨v, ?_, (hx w F).lift⟩
  simp only [execOp, ho]
  rw [resolve_func e1]
  have : args.toArray.map a.eval = vals.toArray := by simp [hvals]
  rw [this]
  exact h w

section
variable {all : Array Oper} {pu : Bool} {K : St → Prop} {rest : List Oper} {tm : List (Nat × X)} {ob : List AObj} {d : Nat}
theorem go_convW {src dst : TypeId} {y : Operand} {k k' : IntKind} {n : Int} {ds : TypeDesc} (m : Int) (ho : o.op = .convert src dst y) (hg : guardX all tm o = some true) (hdst : o.dst = some d) (hd : Nat.blt d C.N = true) (hy : (⟨tm, ob⟩ : St).ev C.E y = .d (.imm (.int k' n)))
    (hs : descOf C.E src = some ds) (hd' : descOf C.E dst = some (.int k)) (hm : k.wrap n = m) (h : SGo C all pu rest ⟨(d, .d (.imm (.int k m))) :: tm, ob⟩ K) : SGo C all pu (o :: rest) ⟨tm, ob⟩ K :=
  go_vopG hg hdst hd (v_convR ho hy (fun w => by rw [conv_int_run hs hd', hm]) (inR_ok (by rw [← hm]; exact inR_wrapped k n))) h
theorem go_negW {t : TypeId} {y : Operand} {k : IntKind} {n : Int} (m : Int) (ho : o.op = .unOp .neg t y) (hg : guardX all tm o = some true) (hdst : o.dst = some d) (hd : Nat.blt d C.N = true) (hy : (⟨tm, ob⟩ : St).ev C.E y = .d (.imm (.int k n)))
    (hm : k.wrap (0 - n) = m) (h : SGo C all pu rest ⟨(d, .d (.imm (.int k m))) :: tm, ob⟩ K) : SGo C all pu (o :: rest) ⟨tm, ob⟩ K :=
  go_vopG hg hdst hd (v_unR ho hy (fun w => by simp only [Op.unary, Op.intArith, hm]; rfl) (inR_ok (by rw [← hm]; exact inR_wrapped k _))) h
theorem go_binW {op : BinOp} {t u : TypeId} {y z : Operand} {k k' : IntKind} {a b : Int} (r : Value) (ho : o.op = .binOp op t y z u) (hg : guardX all tm o = some true) (hdst : o.dst = some d) (hd : Nat.blt d C.N = true) (hy : (⟨tm, ob⟩ : St).ev C.E y = .d (.imm (.int k a)))
    (hz : (⟨tm, ob⟩ : St).ev C.E z = .d (.imm (.int k' b))) (hm : ∀ w, (binOp op t (.int k a) (.int k' b)).run C.E.P w = .ok r w) (hok : okV r = true) (h : SGo C all pu rest ⟨(d, .d (.imm r)) :: tm, ob⟩ K) : SGo C all pu (o :: rest) ⟨tm, ob⟩ K :=
  go_vopG hg hdst hd (v_binR ho hy hz (by simp) (by simp) hm hok) h
theorem go_eqS {op : BinOp} {t u : TypeId} {y z : Operand} {cs cs' : List D} {fs : Array Field} {b r : Bool} (h1 : C.E.P.stoodInHeld t = false) (h2 : C.E.P.eqGuardType C.E.P.depth t = false) (ho : o.op = .binOp op t y z u) (hg : guardX all tm o = some true) (hdst : o.dst = some d) (hd : Nat.blt d C.N = true)
    (hy : (⟨tm, ob⟩ : St).ev C.E y = .d (.agg cs)) (hz : (⟨tm, ob⟩ : St).ev C.E z = .d (.agg cs')) (hds : descOf C.E t = some (.struct fs)) (hb : flatEq C.E fs.toList cs cs' = some b) (hop : (op = .eql ∧ r = b) ∨ (op = .neq ∧ r = !b))
    (h : SGo C all pu rest ⟨(d, .d (.imm (.bool r))) :: tm, ob⟩ K) : SGo C all pu (o :: rest) ⟨tm, ob⟩ K :=
  go_vopG hg hdst hd (v_eqS ho hy hz hds h1 h2 hb hop) h
theorem go_callV {y : Operand} {args : List Operand} {tys : Array TypeId} {f : FuncId} {vals : List Value} {rx : X} (ho : o.op = .call { callee := .value y, args := args.toArray, argTypes := tys })
    (hg : guardX all tm o = some true) (hdst : o.dst = some d) (hd : Nat.blt d C.N = true) (hf : (⟨tm, ob⟩ : St).ev C.E y = .d (.imm (.func (.func f) #[] #[]))) (h0 : ExtEv C.E f vals rx) (hds : datsX C.E ⟨tm, ob⟩ args = some (vals.map .imm)) (h : SGo C all pu rest ⟨(d, rx) :: tm, ob⟩ K) :
    SGo C all pu (o :: rest) ⟨tm, ob⟩ K := by
  obtain ⟨v, h1, h2⟩ := h0
  exact go_vopG hg hdst hd (v_callV ho hf hds h1 h2) h
end
end
end Go.Abs
