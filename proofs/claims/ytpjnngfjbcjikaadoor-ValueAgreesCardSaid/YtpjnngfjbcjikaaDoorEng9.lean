/- Structs that are built; and the steps of a walk, each in the form in which it is applied. Conditions: each operation's own. -/
import Derived.Test.YtpjnngfjbcjikaaDoorEng8
namespace Go.Abs
open Go Go.RowKit

section
variable {C : Cx} {s : St} {o : Oper} {x : X} {p : Prop}

/-- A row of cells that reads as a row of data. -/
structure CellsRd (w : World) (F : Nat → Prop) (vs : List Value) (cs : List D) : Prop where
  len : cs.length = vs.length
  one : ∀ v ∈ vs, v.oneCell' = true
  rd : ∀ (i : Nat) v, vs[i]? = some v → ∃ d, cs[i]? = some d ∧ Rd w F d v

theorem setAll_spec : ∀ (r cs : List D) (k : Nat), k + r.length ≤ cs.length → setAll cs k r = cs.take k ++ r ++ cs.drop (k + r.length)
  | [], cs, k, _ => by simp [setAll]
  | d :: r, cs, k, h => by
    simp only [setAll]
    simp only [List.length_cons] at h
    rw [setAll_spec r (cs.set k d) (k + 1) (by simp; omega)]
    have e1 : (cs.set k d).take (k + 1) = cs.take k ++ [d] := by
      rw [List.take_succ_eq_append_getElem (by simp; omega), List.take_set_of_le (Nat.le_refl _)]
      simp
    have e2 : (cs.set k d).drop (k + 1 + r.length) = cs.drop (k + (d :: r).length) := by
      rw [List.drop_set_of_lt (by omega)]
      simp only [List.length_cons]
      congr 1
      omega
    rw [e1, e2]
    simp
theorem setV_spec : ∀ (r : List Value) (cs : Array Value) (off j : Nat), off + j + r.length ≤ cs.size →
    ((r.zipIdx j).foldl (fun cs (c, j) => cs.setIfInBounds (off + j) c) cs).toList = cs.toList.take (off + j) ++ r ++ cs.toList.drop (off + j + r.length)
  | [], cs, off, j, _ => by simp
  | d :: r, cs, off, j, h => by
    simp only [List.length_cons] at h
    rw [List.zipIdx_cons, List.foldl_cons, setV_spec r _ off (j + 1) (by simp; omega)]
    simp only [Array.toList_setIfInBounds]
    have e1 : (cs.toList.set (off + j) d).take (off + (j + 1)) = cs.toList.take (off + j) ++ [d] := by
      rw [show off + (j + 1) = (off + j) + 1 from by omega, List.take_succ_eq_append_getElem (by simp; omega), List.take_set_of_le (Nat.le_refl _)]
      simp
    have e2 : (cs.toList.set (off + j) d).drop (off + (j + 1) + r.length) = cs.toList.drop (off + j + (d :: r).length) := by
      rw [List.drop_set_of_lt (by omega)]
      simp only [List.length_cons]
      congr 1
      omega
    rw [e1, e2]
    simp

theorem CellsRd.set_ {w : World} {F : Nat → Prop} {vs : List Value} {cs : List D} {v : Value} {d : D} {off : Nat} (h : CellsRd w F vs cs) (hv : Rd w F d v) (hle : off + d.cells.length ≤ cs.length) :
    CellsRd w F (vs.take off ++ v.cells.toList ++ vs.drop (off + v.cells.toList.length)) (setAll cs off d.cells) := by
  obtain ⟨a1, a2, a3⟩ := hv.cells
  have hl : v.cells.toList.length = d.cells.length := by simpa using a1
  rw [setAll_spec _ _ _ hle]
  have hlen := h.len
  refine ⟨?_, fun u hu => ?_, fun i u hu => ?_⟩
  · simp only [List.length_append, List.length_take, List.length_drop, hl, hlen]
  · rw [List.mem_append, List.mem_append] at hu
    rcases hu with (hu | hu) | hu
    · exact h.one u (List.mem_of_mem_take hu)
    · obtain ⟨i, hi⟩ := List.getElem?_of_mem hu
      have hlt : i < d.cells.length := by rw [← hl]; exact (List.getElem?_eq_some_iff.1 hi).1
      exact (a2 i _ u (List.getElem?_eq_getElem hlt) (by simpa using hi)).one (a3 _ (List.getElem_mem hlt))
    · exact h.one u (List.mem_of_mem_drop hu)
  · have h1 : (cs.take off).length = off := by rw [List.length_take]; omega
    have h2 : (vs.take off).length = off := by rw [List.length_take]; omega
    rcases Nat.lt_or_ge i off with hlt | hge
    · rw [List.append_assoc, List.getElem?_append_left (by omega), List.getElem?_take, if_pos hlt] at hu
      rw [List.append_assoc, List.getElem?_append_left (by omega), List.getElem?_take, if_pos hlt]
      exact h.rd i u hu
    · rw [List.append_assoc, List.getElem?_append_right (by omega), h2] at hu
      rw [List.append_assoc, List.getElem?_append_right (by omega), h1]
      rcases Nat.lt_or_ge (i - off) d.cells.length with hlt | hge2
      · rw [List.getElem?_append_left (by omega)] at hu
        rw [List.getElem?_append_left hlt]
        exact ⟨_, List.getElem?_eq_getElem hlt, a2 _ _ u (List.getElem?_eq_getElem hlt) (by simpa using hu)⟩
      · rw [List.getElem?_append_right (by omega), hl, List.getElem?_drop] at hu
        rw [List.getElem?_append_right hge2, List.getElem?_drop]
        exact h.rd _ u hu

theorem placeOf_ok {E : Env} {fs : Array Field} {i off size : Nat} (h : placeOf E fs i = some (off, size)) : ∃ fd i', fs[i]? = some fd ∧ fd.offset = off ∧ E.P.info? fd.type = some i' ∧ i'.size = size := by
  unfold placeOf at h
  split at h
  · rename_i fd hfd
    split at h
    · rename_i e he
      obtain ⟨⟨-, i', hi, hs, -⟩, ht⟩ := findT_ok he
      obtain ⟨rfl, rfl⟩ := Prod.mk.inj (Option.some.inj h)
      exact ⟨fd, i', hfd, rfl, by rw [← ht]; exact hi, hs⟩
    · cases h
  · cases h

theorem fill_ok {E : Env} {fs : Array Field} {w : World} {F : Nat → Prop} {σ : Sg} {a : Act} {places : Array (Nat × Nat)} (hpl : ∀ (i off size : Nat), placeOf E fs i = some (off, size) → places[i]? = some (off, size)) :
    ∀ (parts : List (Nat × Operand)) (vs : Array Value) (cs cs' : List D), (∀ q ∈ parts, RdX w F σ (s.ev E q.2) (a.eval q.2)) → CellsRd w F vs.toList cs → fillX E fs s parts cs = some cs' →
      ∃ vs', Instr.fill (places[·]?) vs (parts.map fun q => (q.1, a.eval q.2)) = some vs' ∧ CellsRd w F vs'.toList cs'
  | [], vs, cs, cs', _, h, hf => by
    simp only [fillX] at hf
    cases hf
    exact ⟨vs, rfl, h⟩
  | (i, y) :: r, vs, cs, cs', ha, h, hf => by
    simp only [fillX] at hf
    split at hf
    · cases hf
    · rename_i off size hp
      split at hf
      · cases hf
      · rename_i d hd
        cases hb : (Nat.beq d.cells.length size && Nat.ble (off + d.cells.length) cs.length) with
        | false => rw [hb] at hf; cases hf
        | true =>
          rw [hb] at hf
          rw [Bool.and_eq_true] at hb
          have h1 := Nat.eq_of_beq_eq_true hb.1
          have h2 := Nat.le_of_ble_eq_true hb.2
          have hv : Rd w F d (a.eval y) := toD_rd hd (ha (i, y) (by simp))
          obtain ⟨a1, -, -⟩ := hv.cells
          have hlen := h.len
          have hsz : vs.size = cs.length := by rw [hlen]; simp
          have hs := setV_spec (a.eval y).cells.toList vs off 0 (by simp; omega)
          obtain ⟨vs', e1, e2⟩ := fill_ok hpl r (((a.eval y).cells.toList.zipIdx 0).foldl (fun cs (c, j) => cs.setIfInBounds (off + j) c) vs) _ cs' (fun q hq => ha q (by simp [hq]))
            (by rw [hs]; exact h.set_ hv h2) (by simpa using hf)
          refine ⟨vs', ?_, e2⟩
          simp only [List.map_cons, Instr.fill, hpl i off size hp]
          rw [if_neg (by simp; omega)]
          rw [← e1]
          congr 1
          rw [← Array.foldl_toList]
          congr 1
          simp [Array.toList_zipIdx]

theorem zeroDs_ok {w : World} {F : Nat → Prop} : ∀ {vs : List Value} {cs : List D}, zeroDs vs = some cs → (∀ v ∈ vs, v.oneCell' = true) → CellsRd w F vs cs
  | [], cs, h, _ => by
    simp only [zeroDs] at h
    cases h
    exact ⟨rfl, fun v h => (by simp at h), fun i v h => (by simp at h)⟩
  | v :: r, cs, h, h1 => by
    simp only [zeroDs] at h
    split at h
    · rename_i d hd
      rw [Option.map_eq_some_iff] at h
      obtain ⟨cs', hc, rfl⟩ := h
      have ih := zeroDs_ok (w := w) (F := F) hc fun v hv => h1 v (by simp [hv])
      refine ⟨by simp [ih.len], h1, fun i u hu => ?_⟩
      cases i with
      | zero => simp at hu; subst hu; exact ⟨d, by simp, toD_rd hd (ofConst_rd (σ := []) v)⟩
      | succ i => simpa using ih.rd i u (by simpa using hu)
    · cases h

theorem mapM_places {E : Env} {w : World} : ∀ (fs : List Field), allPlaces E fs = true → ∃ ps : List (Nat × Nat), (fs.mapM fun f => (do pure (f.offset, ← sizeOf f.type) : Sem (Nat × Nat))).run E.P w = .ok ps w ∧
    ∀ (i off size : Nat), placeOf E fs.toArray i = some (off, size) → ps[i]? = some (off, size)
  | [], _ => ⟨[], rfl, fun i off size h => by simp [placeOf] at h⟩
  | f :: r, h => by
    simp only [allPlaces, List.all_cons, Bool.and_eq_true] at h
    obtain ⟨ps, h1, h2⟩ := mapM_places (w := w) r h.2
    obtain ⟨e, he⟩ := Option.isSome_iff_exists.1 h.1
    obtain ⟨hok, ht⟩ := findT_ok he
    have hs := sizeOf_run (w := w) hok
    rw [ht] at hs
    refine ⟨(f.offset, e.size) :: ps, ?_, fun i off size hp => ?_⟩
    · simp only [List.mapM_cons, Sem.run_bind, hs, Result.andThen_ok, Sem.run_pure, h1]
    · cases i with
      | zero =>
        simp only [placeOf, List.getElem?_toArray, List.getElem?_cons_zero, he] at hp
        simpa using hp
      | succ i =>
        have hp' : placeOf E r.toArray i = some (off, size) := by simpa [placeOf] using hp
        simpa using h2 i off size hp'

theorem v_build {t : TypeId} {parts : Array (Nat × Operand)} (ho : o.op = .build t parts) (h : buildX C.E s t parts.toList = some (p, x)) (hz1 : ∀ e, findT C.E.T t = some e → oneAll e.zero.cells.toList = true) : VOp C s o x := by
  refine VOp.pure_ fun F σ w a hi hr => ?_
  unfold buildX at h
  split at h
  · rename_i e he
    obtain ⟨hok, rfl⟩ := findT_ok he
    have hz := hz1 e he
    split at h
    · rename_i fs hd
      have hu := hok.1
      rw [hd] at hu
      cases hb : allPlaces C.E fs.toList with
      | false => rw [hb] at h; cases h
      | true =>
        rw [hb] at h
        simp only [cond_true] at h
        split at h
        · rename_i zs hzs
          split at h
          · rename_i cs hcs
            obtain ⟨rfl, rfl⟩ := Prod.mk.inj (Option.some.inj h)
            obtain ⟨ps, m1, m2⟩ := mapM_places (E := C.E) (w := w) fs.toList hb
            have hz0 := zeroDs_ok (w := w) (F := F) hzs fun v hv => oneAll_ok hz v hv
            obtain ⟨vs', f1, f2⟩ := fill_ok (s := s) (a := a) (σ := σ) (places := ps.toArray) (fun i off size hp => by simpa using m2 i off size (by simpa using hp)) parts.toList e.zero.cells zs cs
              (fun q hq => hr q.2 (by simp [ho, Op.operands]; exact ⟨q.1, by simpa using hq⟩)) hz0 hcs
            refine ⟨.agg vs', ?_, ?_⟩
            · have m1' : (fs.mapM fun f => (do pure (f.offset, ← sizeOf f.type) : Sem (Nat × Nat))).run C.E.P w = .ok ps.toArray w := by
                rw [← Array.toArray_toList (xs := fs), List.mapM_toArray]
                simp only [map_eq_pure_bind, Sem.run_bind, m1, Result.andThen_ok, Sem.run_pure]
              have hparts : (parts.map fun (i, x) => (i, a.eval x)).toList = parts.toList.map fun q => (q.1, a.eval q.2) := by simp
              simp only [execOp, ho, Instr.build, Sem.run_bind, zero_run hok, Result.andThen_ok, run_underlying hu, m1', hparts, f1, Sem.run_pure]
            · have := rd_agg (ds := cs) (vs := vs'.toList) f2.len f2.one f2.rd
              show Rd w F (.agg cs) (.agg vs')
              simpa using this
          · cases h
        · cases h
    · cases h
  · cases h

/-- Two operands of one type are the same exactly where the model says so. -/
def vop (C : Cx) (s : St) (o : Oper) : VR :=
  match o.op with
  | .move y => fw (s.ev C.E y)
  | .assign y => fw (s.ev C.E y)
  | .pick c a b => pickX (s.ev C.E c) (s.ev C.E a) (s.ev C.E b)
  | .binOp op t y z _ => binX C.E op t (s.ev C.E y) (s.ev C.E z)
  | .unOp op _ y => unX op (s.ev C.E y)
  | .fieldAddr t y f => (match fieldOff C.E t f with
    | some k => addX k (s.ev C.E y)
    | none => none)
  | .load t y => loadX C.E s.ob t (s.ev C.E y)
  | .index t y z => indexX C.E t (s.ev C.E y) (s.ev C.E z)
  | .build t parts => (match findT C.E.T t with
    | some e => bif oneAll e.zero.cells.toList then buildX C.E s t parts.toList else none
    | none => none)
  | .extract y k => (match s.ev C.E y with
    | .tup xs => (match xs[k]? with
      | some d => some (True, .d d)
      | none => none)
    | _ => none)
  | .call c => (match c.callee with
    | .builtin b => (match b, c.args.toList, c.argTypes.toList with
      | .len, [y], [t] => lenX C.E s.ob t (s.ev C.E y)
      | .min, [y, z], [_, _] => minX false (s.ev C.E y) (s.ev C.E z)
      | .max, [y, z], [_, _] => minX true (s.ev C.E y) (s.ev C.E z)
      | _, _, _ => none)
    | _ => none)
  | _ => none

theorem vop_ok (h : vop C s o = some (p, x)) (hp : p) : VOp C s o x := by
  unfold vop at h
  split at h
  · exact v_move (.inl ‹_›) h
  · exact v_move (.inr ‹_›) h
  · exact v_pick ‹_› h hp
  · exact v_bin ‹_› h hp
  · exact v_un ‹_› h hp
  · rename_i ho
    split at h
    · exact v_fieldAddr ho ‹_› h
    · cases h
  · exact v_load ‹_› h
  · exact v_index ‹_› h hp
  · rename_i t parts ho
    split at h
    · rename_i e he
      cases hb : oneAll e.zero.cells.toList with
      | false => rw [hb] at h; cases h
      | true => rw [hb] at h; exact v_build ho h fun e' he' => by rw [he] at he'; cases he'; exact hb
    · cases h
  · rename_i y k ho
    split at h
    · rename_i xs hy
      split at h
      · rename_i d hd
        obtain ⟨rfl, rfl⟩ := Prod.mk.inj (Option.some.inj h)
        exact v_extract ho hy hd
      · cases h
    · cases h
  · rename_i c ho
    split at h
    · rename_i b hb
      obtain ⟨ce, args, tys⟩ := c
      obtain ⟨args⟩ := args
      obtain ⟨tys⟩ := tys
      simp only at hb h
      subst hb
      split at h
      · subst_vars; exact v_len ho h
      · subst_vars; exact v_min false ho h hp
      · subst_vars; exact v_min true ho h hp
      · cases h
    · cases h
  · cases h

section
variable {all : Array Oper} {pu : Bool} {K : St → Prop} {rest : List Oper} {tm : List (Nat × X)} {ob : List AObj} {d : Nat}
theorem go_v (hg : o.guard = none) (hdst : o.dst = some d) (hd : Nat.blt d C.N = true) (hv : vop C ⟨tm, ob⟩ o = some (p, x)) (hp : p) (h : SGo C all pu rest ⟨(d, x) :: tm, ob⟩ K) : SGo C all pu (o :: rest) ⟨tm, ob⟩ K := by
  refine SGo.vop (by simp [GuardIs, hg]) (by simp [dstOK, hdst]; simpa using hd) (vop_ok hv hp) ?_
  rw [hdst]
  exact h
/-- The same behind a guard that is known to let through. -/
theorem go_vg {j t : Nat} {pol b : Bool} {q : Oper} (hg : o.guard = some (j, pol)) (hj : all[j]? = some q) (hq : q.dst = some t) (hb : lk tm t = .d (.imm (.bool b))) (hbp : b = pol)
    (hdst : o.dst = some d) (hd : Nat.blt d C.N = true) (hv : vop C ⟨tm, ob⟩ o = some (p, x)) (hp : p) (h : SGo C all pu rest ⟨(d, x) :: tm, ob⟩ K) : SGo C all pu (o :: rest) ⟨tm, ob⟩ K := by
  refine SGo.vop ?_ (by simp [dstOK, hdst]; simpa using hd) (vop_ok hv hp) ?_
  · simp only [GuardIs, hg]
    exact ⟨t, by simp [hj, hq], .inl ⟨b, hb, by simp [hbp]⟩⟩
  · rw [hdst]
    exact h
theorem go_skt {j t : Nat} {b : Bool} {q : Oper} (hg : o.guard = some (j, true)) (hj : all[j]? = some q) (hq : q.dst = some t) (hb : lk tm t = .d (.imm (.bool b))) (hbp : b = false)
    (hdst : o.dst = some d) (hd : Nat.blt d C.N = true) (h : SGo C all pu rest ⟨(d, .und) :: tm, ob⟩ K) : SGo C all pu (o :: rest) ⟨tm, ob⟩ K := by
  refine SGo.skip ?_ (by simp [dstOK, hdst]; simpa using hd) ?_
  · simp only [GuardIs, hg]
    exact ⟨t, by simp [hj, hq], .inl ⟨b, hb, by rw [hbp]; rfl⟩⟩
  · rw [hdst]
    exact h
theorem go_skf {j t : Nat} {b : Bool} {q : Oper} (hg : o.guard = some (j, false)) (hj : all[j]? = some q) (hq : q.dst = some t) (hb : lk tm t = .d (.imm (.bool b))) (hbp : b = true)
    (hdst : o.dst = some d) (hd : Nat.blt d C.N = true) (h : SGo C all pu rest ⟨(d, .und) :: tm, ob⟩ K) : SGo C all pu (o :: rest) ⟨tm, ob⟩ K := by
  refine SGo.skip ?_ (by simp [dstOK, hdst]; simpa using hd) ?_
  · simp only [GuardIs, hg]
    exact ⟨t, by simp [hj, hq], .inl ⟨b, hb, by rw [hbp]; rfl⟩⟩
  · rw [hdst]
    exact h
theorem go_sku {j t : Nat} {pol : Bool} {q : Oper} (hg : o.guard = some (j, pol)) (hj : all[j]? = some q) (hq : q.dst = some t) (hb : lk tm t = .und)
    (hdst : o.dst = some d) (hd : Nat.blt d C.N = true) (h : SGo C all pu rest ⟨(d, .und) :: tm, ob⟩ K) : SGo C all pu (o :: rest) ⟨tm, ob⟩ K := by
  refine SGo.skip ?_ (by simp [dstOK, hdst]; simpa using hd) ?_
  · simp only [GuardIs, hg]
    exact ⟨t, by simp [hj, hq], .inr ⟨hb, by trivial⟩⟩
  · rw [hdst]
    exact h
/-- At a guard that is not known: both cases. -/
theorem qY {j t : Nat} {pol b : Bool} {q : Oper} (_hg : o.guard = some (j, pol)) (_hj : all[j]? = some q) (_hq : q.dst = some t) (hb : lk tm t = .d (.imm (.bool b)))
    (ht : b = true → SGo C all pu (o :: rest) ⟨(t, .d (.imm (.bool true))) :: tm, ob⟩ K) (hf : b = false → SGo C all pu (o :: rest) ⟨(t, .d (.imm (.bool false))) :: tm, ob⟩ K) : SGo C all pu (o :: rest) ⟨tm, ob⟩ K := by
  have key : ∀ c : Bool, b = c → StEq ⟨tm, ob⟩ ⟨(t, .d (.imm (.bool c))) :: tm, ob⟩ := by
    rintro c rfl
    refine ⟨fun u => ?_, rfl⟩
    simp only [lk]
    cases hbq : Nat.beq t u with
    | true => obtain rfl := Nat.eq_of_beq_eq_true hbq; exact hb.symm
    | false => rfl
  cases b
  · exact SGo.same (key false rfl) (hf rfl)
  · exact SGo.same (key true rfl) (ht rfl)
theorem go_box_ {t : TypeId} {y : Operand} (hg : o.guard = none) (hdst : o.dst = some d) (hd : Nat.blt d C.N = true) (ho : o.op = .box t y) (hx : fw ((⟨tm, ob⟩ : St).ev C.E y) = some (p, x)) (hh : x.held = true)
    (h : SGo C all false rest ⟨(d, .ptr ob.length 0) :: tm, ob ++ [.var t (.w x)]⟩ K) : SGo C all false (o :: rest) ⟨tm, ob⟩ K := by
  refine SGo.eff (by simp [GuardIs, hg]) (s_box ho (fw_eq hx).symm hh (by simp [dstOK, hdst]; simpa using hd)) ?_
  rw [hdst]
  exact h
theorem go_alloc_ {t : TypeId} {e : TE} (hg : o.guard = none) (hdst : o.dst = some d) (hd : Nat.blt d C.N = true) (ho : o.op = .alloc t) (he : findT C.E.T t = some e) (h1z : oneAll e.zero.cells.toList = true)
    (h : SGo C all false rest ⟨(d, .ptr ob.length 0) :: tm, ob ++ [.var t (.cs (e.zero.cells.toList.map ofConst))]⟩ K) : SGo C all false (o :: rest) ⟨tm, ob⟩ K := by
  refine SGo.eff (by simp [GuardIs, hg]) (s_alloc ho he h1z (by simp [dstOK, hdst]; simpa using hd)) ?_
  rw [hdst]
  exact h
theorem go_store_ {t ty : TypeId} {y z : Operand} {i off : Nat} {c : VC} {e : TE} (hg : o.guard = none) (hdst : o.dst = none) (ho : o.op = .store t y z) (hy : (⟨tm, ob⟩ : St).ev C.E y = .ptr i off) (hz : fw ((⟨tm, ob⟩ : St).ev C.E z) = some (p, x)) (hh : x.held = true)
    (hob : ob[i]? = some (.var ty c)) (he : findT C.E.T t = some e) (hsz : Nat.beq x.cells.length e.size = true) (hle : Nat.ble (off + x.cells.length) c.cells.length = true)
    (h : SGo C all false rest ⟨tm, ob.set i (.var ty (storeC c off x))⟩ K) : SGo C all false (o :: rest) ⟨tm, ob⟩ K :=
  SGo.eff (by simp [GuardIs, hg]) (s_store ho hdst hy (fw_eq hz).symm hh hob he hsz hle) h
theorem qI {t : TypeId} {y z : Operand} {xs : List D} {k : IntKind} {i : Int} {te : TE} (x : D) (ho : o.op = .indexAddr t y z) (hg : GuardIs all ⟨tm, ob⟩ o true) (hdst : o.dst = some d) (hd : Nat.blt d C.N = true)
    (hy : (⟨tm, ob⟩ : St).ev C.E y = .d (.sl xs)) (hz : (⟨tm, ob⟩ : St).ev C.E z = .d (.imm (.int k i))) (hte : elemT C.E t = some te) (hsz : Nat.beq x.cells.length te.size = true) (h0 : 0 ≤ i) (hx : xs[i.toNat]? = some x)
    (h : SGo C all pu rest ⟨(d, .at_ x 0) :: tm, ob⟩ K) : SGo C all pu (o :: rest) ⟨tm, ob⟩ K := by
  refine SGo.vop hg (by simp [dstOK, hdst]; simpa using hd) (v_indexAddr ho hy hz hte h0 hx (Nat.eq_of_beq_eq_true hsz)) ?_
  rw [hdst]
  exact h
end
theorem qL {r : List It} {fn : Func} {q : ResultVar} {d d' : D} (hr : fn.results = #[q]) (h : resX C s q = some d) (he : d = d') : go C (.code .ret :: r) s (EndIs C fn (.d d')) := by
  subst he
  exact go_ret_ (res_1 hr h)
theorem qM {r : List It} {fn : Func} {q q' : ResultVar} {d d' : D} {l : List D} (hr : fn.results = #[q, q']) (h : resX C s q = some d) (h' : resX C s q' = some d') (he : [d, d'] = l) : go C (.code .ret :: r) s (EndIs C fn (.tup l)) := by
  subst he
  exact go_ret_ (res_2 hr h h')
theorem ret3 {r : List It} {fn : Func} {q q' q'' : ResultVar} {d d' d'' : D} {l : List D} (hr : fn.results = #[q, q', q'']) (h : resX C s q = some d) (h' : resX C s q' = some d') (h'' : resX C s q'' = some d'') (he : [d, d', d''] = l) : go C (.code .ret :: r) s (EndIs C fn (.tup l)) := by
  subst he
  exact go_ret_ (res_3 hr h h' h'')
def TmLe (tm : List (Nat × X)) (n : Nat) : List (Nat × X) → Prop
  | [] => True
  | (k, x) :: r => (lk tm k = x ∧ x.below n = true) ∧ TmLe tm n r
def ObLe (n : Nat) : List AObj → Prop
  | [] => True
  | x :: r => x.below n = true ∧ ObLe n r
theorem Le.of' {tm tm' : List (Nat × X)} {ob ob' : List AObj} (n : Nat) (hob : ob' = ob.take n) (ht : TmLe tm n tm') (ho : ObLe n ob') : Le C ⟨tm, ob⟩ ⟨tm', ob'⟩ := by
  refine Le.of n hob ?_ ?_
  · intro p hp
    simp only at hp ⊢
    induction tm' with
    | nil => cases hp
    | cons q r ih =>
      obtain ⟨k, x⟩ := q
      rcases List.mem_cons.1 hp with rfl | hp
      · exact ht.1
      · exact ih ht.2 hp
  · intro x hx
    simp only at hx
    clear hob
    induction ob' with
    | nil => cases hx
    | cons q r ih =>
      rcases List.mem_cons.1 hx with rfl | hx
      · exact ho.1
      · exact ih ho.2 hx
/-- Whether a guard lets through. -/
def guardX (all : Array Oper) (tm : List (Nat × X)) (o : Oper) : Option Bool :=
  match o.guard with
  | none => some true
  | some (j, pol) => (match all[j]? with
    | some q => (match q.dst with
      | some t => (match lk tm t with
        | .d (.imm (.bool b)) => some (b == pol)
        | .und => some false
        | _ => none)
      | none => none)
    | none => none)
theorem guardX_ok {all : Array Oper} {tm : List (Nat × X)} {ob : List AObj} {b : Bool} (h : guardX all tm o = some b) : GuardIs all ⟨tm, ob⟩ o b := by
  unfold guardX at h
  unfold GuardIs
  split at h
  · rename_i hg; cases h; rw [hg]
  · rename_i j pol hg
    rw [hg]
    split at h
    · rename_i q hq
      split at h
      · rename_i t ht
        refine ⟨t, by rw [hq]; exact ht, ?_⟩
        split at h
        · rename_i b' hb'; cases h; exact .inl ⟨b', hb', rfl⟩
        · rename_i hu; cases h; exact .inr ⟨hu, rfl⟩
        · cases h
      · cases h
    · cases h
/-- One operation of a region, reckoned. -/
def stepX (C : Cx) (all : Array Oper) (pu : Bool) (o : Oper) (tm : List (Nat × X)) (ob : List AObj) : Option (Prop × List (Nat × X) × List AObj) :=
  match guardX all tm o with
  | some false => (match o.dst with
    | some d => bif Nat.blt d C.N then some (True, (d, .und) :: tm, ob) else none
    | none => none)
  | some true => (match o.op with
    | .box t y => (match o.dst with
      | some d => bif !pu && Nat.blt d C.N then (match fw ((⟨tm, ob⟩ : St).ev C.E y) with
        | some (_, x) => bif x.held then some (True, (d, .ptr ob.length 0) :: tm, ob ++ [.var t (.w x)]) else none
        | none => none) else none
      | none => none)
    | .alloc t => (match o.dst with
      | some d => bif !pu && Nat.blt d C.N then (match findT C.E.T t with
        | some e => bif oneAll e.zero.cells.toList then some (True, (d, .ptr ob.length 0) :: tm, ob ++ [.var t (.cs (e.zero.cells.toList.map ofConst))]) else none
        | none => none) else none
      | none => none)
    | .store t y z => (match o.dst with
      | none => bif !pu then (match (⟨tm, ob⟩ : St).ev C.E y with
        | .ptr i off => (match fw ((⟨tm, ob⟩ : St).ev C.E z) with
          | some (_, x) => (match ob[i]? with
            | some (.var ty c) => (match findT C.E.T t with
              | some e => bif x.held && (Nat.beq x.cells.length e.size && Nat.ble (off + x.cells.length) c.cells.length) then some (True, tm, ob.set i (.var ty (storeC c off x))) else none
              | none => none)
            | _ => none)
          | none => none)
        | _ => none) else none
      | some _ => none)
    | _ => (match o.dst with
      | some d => bif Nat.blt d C.N then (match vop C ⟨tm, ob⟩ o with
        | some (p, x) => some (p, (d, x) :: tm, ob)
        | none => none) else none
      | none => none))
  | none => none

theorem go_step {all : Array Oper} {pu : Bool} {K : St → Prop} {rest : List Oper} {tm tm' : List (Nat × X)} {ob ob' : List AObj} (hv : stepX C all pu o tm ob = some (p, tm', ob')) (hp : p) (h : SGo C all pu rest ⟨tm', ob'⟩ K) :
    SGo C all pu (o :: rest) ⟨tm, ob⟩ K := by
  unfold stepX at hv
  split at hv
  · rename_i hg
    split at hv
    · rename_i d hd
      cases hN : Nat.blt d C.N with
      | false => rw [hN] at hv; cases hv
      | true =>
        rw [hN] at hv
        simp only [cond_true, Option.some.injEq, Prod.mk.injEq] at hv
        obtain ⟨-, rfl, rfl⟩ := hv
        refine SGo.skip (guardX_ok hg) (by simp only [dstOK, hd]; exact hN) ?_
        rw [hd]
        exact h
    · cases hv
  · rename_i hg
    split at hv
    · rename_i t y ho
      split at hv
      · rename_i d hd
        cases hN : (!pu && Nat.blt d C.N) with
        | false => rw [hN] at hv; cases hv
        | true =>
          rw [hN] at hv
          simp only [cond_true] at hv
          rw [Bool.and_eq_true] at hN
          have hpu : pu = false := by simpa using hN.1
          subst hpu
          split at hv
          · rename_i q x hx
            cases hh : x.held with
            | false => rw [hh] at hv; cases hv
            | true =>
              rw [hh] at hv
              simp only [cond_true, Option.some.injEq, Prod.mk.injEq] at hv
              obtain ⟨-, rfl, rfl⟩ := hv
              refine SGo.eff (guardX_ok hg) (s_box ho (fw_eq hx).symm hh (by simp only [dstOK, hd]; exact hN.2)) ?_
              rw [hd]
              exact h
          · cases hv
      · cases hv
    · rename_i t ho
      split at hv
      · rename_i d hd
        cases hN : (!pu && Nat.blt d C.N) with
        | false => rw [hN] at hv; cases hv
        | true =>
          rw [hN] at hv
          simp only [cond_true] at hv
          rw [Bool.and_eq_true] at hN
          have hpu : pu = false := by simpa using hN.1
          subst hpu
          split at hv
          · rename_i e he
            cases hh : oneAll e.zero.cells.toList with
            | false => rw [hh] at hv; cases hv
            | true =>
              rw [hh] at hv
              simp only [cond_true, Option.some.injEq, Prod.mk.injEq] at hv
              obtain ⟨-, rfl, rfl⟩ := hv
              refine SGo.eff (guardX_ok hg) (s_alloc ho he hh (by simp only [dstOK, hd]; exact hN.2)) ?_
              rw [hd]
              exact h
          · cases hv
      · cases hv
    · rename_i t y z ho
      split at hv
      · rename_i hd
        cases hN : (!pu) with
        | false => rw [hN] at hv; cases hv
        | true =>
          rw [hN] at hv
          simp only [cond_true] at hv
          have hpu : pu = false := by simpa using hN
          subst hpu
          split at hv
          · rename_i i off hy
            split at hv
            · rename_i q x hx
              split at hv
              · rename_i ty c hob
                split at hv
                · rename_i e he
                  cases hh : (x.held && (Nat.beq x.cells.length e.size && Nat.ble (off + x.cells.length) c.cells.length)) with
                  | false => rw [hh] at hv; cases hv
                  | true =>
                    rw [hh] at hv
                    simp only [cond_true, Option.some.injEq, Prod.mk.injEq] at hv
                    obtain ⟨-, rfl, rfl⟩ := hv
                    rw [Bool.and_eq_true, Bool.and_eq_true] at hh
                    exact SGo.eff (guardX_ok hg) (s_store ho hd hy (fw_eq hx).symm hh.1 hob he hh.2.1 hh.2.2) h
                · cases hv
              · cases hv
            · cases hv
          · cases hv
      · cases hv
    · split at hv
      · rename_i d hd
        cases hN : Nat.blt d C.N with
        | false => rw [hN] at hv; cases hv
        | true =>
          rw [hN] at hv
          simp only [cond_true] at hv
          split at hv
          · rename_i q x hx
            simp only [Option.some.injEq, Prod.mk.injEq] at hv
            obtain ⟨rfl, rfl, rfl⟩ := hv
            refine SGo.vop (guardX_ok hg) (by simp only [dstOK, hd]; exact hN) (vop_ok hx hp) ?_
            rw [hd]
            exact h
          · cases hv
      · cases hv
  · cases hv
/-- A call, by its contract. -/
theorem qP {all : Array Oper} {pu : Bool} {K : St → Prop} {rest : List Oper} {tm : List (Nat × X)} {ob : List AObj} {d : Nat} {y : Operand} {args : List Operand} {tys : Array TypeId} {f : FuncId} {ds : List D} {rx : X}
    (ho : o.op = .call { callee := .value y, args := args.toArray, argTypes := tys }) (hg : guardX all tm o = some true) (hdst : o.dst = some d) (hd : Nat.blt d C.N = true)
    (hf : (⟨tm, ob⟩ : St).ev C.E y = .d (.imm (.func (.func f) #[] #[]))) (hds : datsX C.E ⟨tm, ob⟩ args = some ds) (hb : HasBody C.E f) (h0 : Ev C.E f ds rx)
    (h : SGo C all pu rest ⟨(d, rx) :: tm, ob⟩ K) : SGo C all pu (o :: rest) ⟨tm, ob⟩ K := by
  refine SGo.vop (guardX_ok hg) (by simp only [dstOK, hdst]; exact hd) (v_call ho hf hb (datsX_ok hds) h0) ?_
  rw [hdst]
  exact h
theorem enter0 {E : Env} {f : FuncId} {fn : Func} {c : Code} {rx : X} {N : Nat} (hf : E.P.funcs[f]? = some fn) (hN : fn.ntmps = N) (hb : fn.body = some c) (hle : Nat.ble 0 N = true)
    (h : ∀ (w0 : World) (F0 : Nat → Prop), go ⟨E, w0, F0, N⟩ [.code c] ⟨[], []⟩ (EndIs ⟨E, w0, F0, N⟩ fn rx)) : Ev E f [] rx :=
  Ev.enter hf hb hN (Nat.le_of_ble_eq_true hle) h
theorem enter1 {E : Env} {f : FuncId} {fn : Func} {c : Code} {d0 : D} {rx : X} {N : Nat} (hf : E.P.funcs[f]? = some fn) (hN : fn.ntmps = N) (hb : fn.body = some c) (hle : Nat.ble 1 N = true)
    (h : ∀ (w0 : World) (F0 : Nat → Prop), go ⟨E, w0, F0, N⟩ [.code c] ⟨[(0, .d d0)], []⟩ (EndIs ⟨E, w0, F0, N⟩ fn rx)) : Ev E f [d0] rx :=
  Ev.enter hf hb hN (Nat.le_of_ble_eq_true hle) h
theorem enter2 {E : Env} {f : FuncId} {fn : Func} {c : Code} {d0 d1 : D} {rx : X} {N : Nat} (hf : E.P.funcs[f]? = some fn) (hN : fn.ntmps = N) (hb : fn.body = some c) (hle : Nat.ble 2 N = true)
    (h : ∀ (w0 : World) (F0 : Nat → Prop), go ⟨E, w0, F0, N⟩ [.code c] ⟨[(0, .d d0), (1, .d d1)], []⟩ (EndIs ⟨E, w0, F0, N⟩ fn rx)) : Ev E f [d0, d1] rx :=
  Ev.enter hf hb hN (Nat.le_of_ble_eq_true hle) h
theorem enter3 {E : Env} {f : FuncId} {fn : Func} {c : Code} {d0 d1 d2 : D} {rx : X} {N : Nat} (hf : E.P.funcs[f]? = some fn) (hN : fn.ntmps = N) (hb : fn.body = some c) (hle : Nat.ble 3 N = true)
    (h : ∀ (w0 : World) (F0 : Nat → Prop), go ⟨E, w0, F0, N⟩ [.code c] ⟨[(0, .d d0), (1, .d d1), (2, .d d2)], []⟩ (EndIs ⟨E, w0, F0, N⟩ fn rx)) : Ev E f [d0, d1, d2] rx :=
  Ev.enter hf hb hN (Nat.le_of_ble_eq_true hle) h
theorem enter4 {E : Env} {f : FuncId} {fn : Func} {c : Code} {d0 d1 d2 d3 : D} {rx : X} {N : Nat} (hf : E.P.funcs[f]? = some fn) (hN : fn.ntmps = N) (hb : fn.body = some c) (hle : Nat.ble 4 N = true)
    (h : ∀ (w0 : World) (F0 : Nat → Prop), go ⟨E, w0, F0, N⟩ [.code c] ⟨[(0, .d d0), (1, .d d1), (2, .d d2), (3, .d d3)], []⟩ (EndIs ⟨E, w0, F0, N⟩ fn rx)) : Ev E f [d0, d1, d2, d3] rx :=
  Ev.enter hf hb hN (Nat.le_of_ble_eq_true hle) h
theorem enter5 {E : Env} {f : FuncId} {fn : Func} {c : Code} {d0 d1 d2 d3 d4 : D} {rx : X} {N : Nat} (hf : E.P.funcs[f]? = some fn) (hN : fn.ntmps = N) (hb : fn.body = some c) (hle : Nat.ble 5 N = true)
    (h : ∀ (w0 : World) (F0 : Nat → Prop), go ⟨E, w0, F0, N⟩ [.code c] ⟨[(0, .d d0), (1, .d d1), (2, .d d2), (3, .d d3), (4, .d d4)], []⟩ (EndIs ⟨E, w0, F0, N⟩ fn rx)) : Ev E f [d0, d1, d2, d3, d4] rx :=
  Ev.enter hf hb hN (Nat.le_of_ble_eq_true hle) h
theorem enter6 {E : Env} {f : FuncId} {fn : Func} {c : Code} {d0 d1 d2 d3 d4 d5 : D} {rx : X} {N : Nat} (hf : E.P.funcs[f]? = some fn) (hN : fn.ntmps = N) (hb : fn.body = some c) (hle : Nat.ble 6 N = true)
    (h : ∀ (w0 : World) (F0 : Nat → Prop), go ⟨E, w0, F0, N⟩ [.code c] ⟨[(0, .d d0), (1, .d d1), (2, .d d2), (3, .d d3), (4, .d d4), (5, .d d5)], []⟩ (EndIs ⟨E, w0, F0, N⟩ fn rx)) : Ev E f [d0, d1, d2, d3, d4, d5] rx :=
  Ev.enter hf hb hN (Nat.le_of_ble_eq_true hle) h
theorem enter7 {E : Env} {f : FuncId} {fn : Func} {c : Code} {d0 d1 d2 d3 d4 d5 d6 : D} {rx : X} {N : Nat} (hf : E.P.funcs[f]? = some fn) (hN : fn.ntmps = N) (hb : fn.body = some c) (hle : Nat.ble 7 N = true)
    (h : ∀ (w0 : World) (F0 : Nat → Prop), go ⟨E, w0, F0, N⟩ [.code c] ⟨[(0, .d d0), (1, .d d1), (2, .d d2), (3, .d d3), (4, .d d4), (5, .d d5), (6, .d d6)], []⟩ (EndIs ⟨E, w0, F0, N⟩ fn rx)) : Ev E f [d0, d1, d2, d3, d4, d5, d6] rx :=
  Ev.enter hf hb hN (Nat.le_of_ble_eq_true hle) h
theorem enter8 {E : Env} {f : FuncId} {fn : Func} {c : Code} {d0 d1 d2 d3 d4 d5 d6 d7 : D} {rx : X} {N : Nat} (hf : E.P.funcs[f]? = some fn) (hN : fn.ntmps = N) (hb : fn.body = some c) (hle : Nat.ble 8 N = true)
    (h : ∀ (w0 : World) (F0 : Nat → Prop), go ⟨E, w0, F0, N⟩ [.code c] ⟨[(0, .d d0), (1, .d d1), (2, .d d2), (3, .d d3), (4, .d d4), (5, .d d5), (6, .d d6), (7, .d d7)], []⟩ (EndIs ⟨E, w0, F0, N⟩ fn rx)) : Ev E f [d0, d1, d2, d3, d4, d5, d6, d7] rx :=
  Ev.enter hf hb hN (Nat.le_of_ble_eq_true hle) h
end
end Go.Abs
