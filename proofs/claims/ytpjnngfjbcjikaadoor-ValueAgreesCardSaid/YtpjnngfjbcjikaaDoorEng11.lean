/- Elements of the call's own rows, make, literals of slices, and that a row that nobody writes any more counts as data. Conditions: each operation's own. -/
import Derived.Test.YtpjnngfjbcjikaaDoorEng10
namespace Go.Abs
open Go Go.RowKit

theorem load_cells {E : Env} {F : Nat → Prop} {σ : Sg} {w : World} {t : TypeId} {z : D} {off : Nat} {x : X} {p : Prop} {ad : Addr} {ob0 : List AObj} (hone : ∀ c ∈ z.cells, c.one = true)
    (hm : ∀ (j : Nat) (c : D), z.cells[j]? = some c → ∃ u, w.cell? (ad.add j) = some u ∧ Rd w F c u) (h : loadX E ob0 t (.at_ z off) = some (p, x)) :
    ∃ v, (Instr.loadAt t (.pointer (some (ad.add off)))).run E.P w = .ok v w ∧ RdX w F σ x v := by
  unfold loadX at h
  split at h
  · cases h
  rename_i e he
  obtain ⟨hok, rfl⟩ := findT_ok he
  simp only at h
  have whole : ((z.cells.drop off).take e.size).length = e.size → e.isAgg = true →
      ∃ v, (Instr.loadAt e.t (.pointer (some (ad.add off)))).run E.P w = .ok v w ∧ RdX w F σ (.d (.agg ((z.cells.drop off).take e.size))) v := by
    intro hl hag
    have hex : ∀ j, ∃ u, ∀ c, z.cells[j]? = some c → w.cell? (ad.add j) = some u ∧ Rd w F c u := by
      intro j
      cases hz : z.cells[j]? with
      | none => exact ⟨undef, fun c h => by cases h⟩
      | some c => obtain ⟨u, h1, h2⟩ := hm j c hz; exact ⟨u, fun c' h => by cases h; exact ⟨h1, h2⟩⟩
    let u : Nat → Value := fun j => Classical.choose (hex j)
    have hu : ∀ j c, z.cells[j]? = some c → w.cell? (ad.add j) = some (u j) ∧ Rd w F c (u j) := fun j => Classical.choose_spec (hex j)
    let vs : List Value := (List.range e.size).map fun j => u (off + j)
    have hvl : vs.length = e.size := by simp [vs]
    have hvj : ∀ (j : Nat) v, vs[j]? = some v → v = u (off + j) ∧ j < e.size := by
      intro j v hj
      have hlt : j < e.size := by rw [← hvl]; exact (List.getElem?_eq_some_iff.1 hj).1
      simp [vs, hlt] at hj
      exact ⟨hj.symm, hlt⟩
    have hzj : ∀ j, j < e.size → ∃ c, z.cells[off + j]? = some c ∧ ((z.cells.drop off).take e.size)[j]? = some c := by
      intro j hj
      have hlt : j < ((z.cells.drop off).take e.size).length := by rw [hl]; exact hj
      have h1 := List.getElem?_eq_getElem hlt
      exact ⟨_, (drop_take_get _ _ _ _ _ h1).1, h1⟩
    refine ⟨.agg vs.toArray, ?_, rd_agg (vs := vs) (by rw [hvl]; exact hl) (fun v hv => ?_) fun i v hv => ?_⟩
    · refine loadAt_agg hok hag hvl fun j v hj => ?_
      obtain ⟨rfl, hlt⟩ := hvj j v hj
      obtain ⟨c, hc, _⟩ := hzj j hlt
      rw [add_add]
      exact (hu _ c hc).1
    · obtain ⟨i, hi'⟩ := List.getElem?_of_mem hv
      obtain ⟨rfl, hlt⟩ := hvj i v hi'
      obtain ⟨c, hc, _⟩ := hzj i hlt
      exact (hu _ c hc).2.one (hone c (List.mem_of_getElem? hc))
    · obtain ⟨rfl, hlt⟩ := hvj i v hv
      obtain ⟨c, hc, hc'⟩ := hzj i hlt
      exact ⟨c, hc', (hu _ c hc).2⟩
  cases hag : e.isAgg with
  | true =>
    rw [hag] at h
    simp only [cond_true] at h
    split at h
    · split at h
      · rename_i cs
        cases hb : Nat.beq cs.length e.size with
        | false => rw [hb] at h; cases h
        | true =>
          rw [hb] at h
          obtain ⟨rfl, rfl⟩ := Prod.mk.inj (Option.some.inj h)
          have hsz : cs.length = e.size := Nat.eq_of_beq_eq_true hb
          have := whole (by simp [D.cells, hsz]) hag
          simp only [D.cells, List.drop_zero] at this
          rw [List.take_of_length_le (by omega)] at this
          exact this
      · cases h
    · rename_i hne
      cases hb : Nat.beq ((z.cells.drop off).take e.size).length e.size with
      | false => rw [hb] at h; cases h
      | true =>
        rw [hb] at h
        obtain ⟨rfl, rfl⟩ := Prod.mk.inj (Option.some.inj h)
        exact whole (Nat.eq_of_beq_eq_true hb) hag
  | false =>
    rw [hag] at h
    simp only [cond_false] at h
    split at h
    · rename_i c hc
      obtain ⟨rfl, rfl⟩ := Prod.mk.inj (Option.some.inj h)
      obtain ⟨u, hu1, hu2⟩ := hm off c hc
      exact ⟨u, loadAt_one hok hag hu1, hu2⟩
    · cases h

section
variable {C : Cx} {s : St} {o : Oper} {x : X} {p : Prop}

theorem v_loadP {t te : TypeId} {y : Operand} {i k off size : Nat} {xs : List D} {d : D} (ho : o.op = .load t y) (hy : s.ev C.E y = .pel k i off size) (hob : s.ob[k]? = some (.row te size xs)) (hd : xs[i]? = some d)
    (h : loadX C.E s.ob t (.at_ d off) = some (p, x)) : VOp C s o x := by
  refine VOp.pure_ fun F σ w a hi hr => ?_
  have hp := hr y (by simp [ho, Op.operands])
  rw [hy] at hp
  obtain ⟨b, c, n, p1, p2⟩ := hp
  obtain ⟨vs, q1, q2, q3, q4, q5, q6, q7, q8, -⟩ := hi.obs k _ _ hob p1
  obtain ⟨v, h1, h2⟩ := load_cells (w := w) (F := F) (σ := σ) (ad := ⟨b, i * size, none⟩) (q7 d (List.mem_of_getElem? hd)) (fun j c hc => by
    obtain ⟨v, e1, e2⟩ := q8 i d j c hd hc
    refine ⟨v, ?_, e2⟩
    rw [add_mk, cell_vs q1]
    exact e1) h
  refine ⟨v, ?_, h2⟩
  rw [add_mk, ← p2] at h1
  simp [execOp, ho, h1]

theorem v_indexOwn {t : TypeId} {y z : Operand} {xs : List D} {kd : IntKind} {i : Int} {te : TE} {k : Nat} (ho : o.op = .indexAddr t y z) (hy' : s.ev C.E y = .own k) (hz' : s.ev C.E z = .d (.imm (.int kd i)))
    (hob : s.ob[k]? = some (.row te.t te.size xs)) (hte : elemT C.E t = some te) (h0 : 0 ≤ i) (hlt : i < xs.length) : VOp C s o (.pel k i.toNat 0 te.size) := by
  obtain ⟨hu, hok⟩ := elemT_ok hte
  refine VOp.pure_ fun F σ w a hi hr => ?_
  have hy := hr y (by simp [ho, Op.operands])
  have hz := hr z (by simp [ho, Op.operands])
  rw [hy'] at hy
  rw [hz'] at hz
  obtain ⟨e2, -⟩ := Rd.imm_inv hz
  obtain ⟨b, c, n, p1, p2⟩ := hy
  obtain ⟨vs, q1, q2, q3, -⟩ := hi.obs k _ _ hob p1
  refine ⟨.pointer (some (⟨b, i.toNat * te.size, none⟩)), ?_, b, c, n, p1, by simp⟩
  have hlt' : 0 ≤ i ∧ i < (n : Int) := ⟨h0, by omega⟩
  simp [execOp, ho, p2, e2, Instr.indexAt, asIntOf, run_underlying hu, hlt', sizeOf_run hok, add_mk]

/-- An element with some of its cells written. -/
def subD (d : D) (off : Nat) (e : D) : D :=
  bif Nat.beq off 0 && Nat.beq e.cells.length d.cells.length then e else .agg (setAll d.cells off e.cells)
theorem subD_cells {d : D} {off : Nat} {e : D} (h : off + e.cells.length ≤ d.cells.length) : (subD d off e).cells = d.cells.take off ++ e.cells ++ d.cells.drop (off + e.cells.length) := by
  unfold subD
  cases hb : Nat.beq off 0 && Nat.beq e.cells.length d.cells.length with
  | true =>
    rw [Bool.and_eq_true] at hb
    have h1 := Nat.eq_of_beq_eq_true hb.1
    have h2 := Nat.eq_of_beq_eq_true hb.2
    subst h1
    simp [h2]
  | false =>
    simp only [cond_false]
    exact setAll_spec _ _ _ h

theorem s_storeP {t te : TypeId} {y z : Operand} {k i off size : Nat} {xs : List D} {d e : D} {tt : TE} (ho : o.op = .store t y z) (hdst : o.dst = none) (hy : s.ev C.E y = .pel k i off size) (hz : toD (s.ev C.E z) = some e)
    (hob : s.ob[k]? = some (.row te size xs)) (hd : xs[i]? = some d) (he : findT C.E.T t = some tt) (hsz : Nat.beq e.cells.length tt.size = true) (hle : Nat.ble (off + e.cells.length) d.cells.length = true) :
    SOp C s o (s.setOb k (.row te size (xs.set i (subD d off e)))) := by
  obtain ⟨hok, rfl⟩ := findT_ok he
  have hsz' := Nat.eq_of_beq_eq_true hsz
  have hle' := Nat.le_of_ble_eq_true hle
  rintro w a K Q ⟨F, σ, h1, h2, h3, hi, h4, h5, hs⟩ hK
  have hv := toD_rd hz (ev_rd (E := C.E) hi hs z)
  have hp := ev_rd (E := C.E) hi hs y
  rw [hy] at hp
  obtain ⟨b, cc, n, p1, p2⟩ := hp
  obtain ⟨vs, q1, q2, q3, q4, q4', q5, q6, q7, q8, q9⟩ := hi.obs k _ _ hob p1
  obtain ⟨c1, c2, c3⟩ := hv.cells
  have hil : i < xs.length := (List.getElem?_eq_some_iff.1 hd).1
  have hdl : d.cells.length = size := q5 d (List.mem_of_getElem? hd)
  have hcl : (a.eval z).cells.toList.length = e.cells.length := by simpa using c1
  have hone : ∀ v ∈ (a.eval z).cells.toList, v.oneCell' = true := by
    intro u hu
    obtain ⟨j, hj⟩ := List.getElem?_of_mem hu
    have hlt : j < e.cells.length := by rw [← hcl]; exact (List.getElem?_eq_some_iff.1 hj).1
    exact (c2 j _ u (List.getElem?_eq_getElem hlt) (by simpa using hj)).one (c3 _ (List.getElem_mem hlt))
  have hroom : (i + 1) * size ≤ cc * size := Nat.mul_le_mul_right _ (by omega)
  rw [Nat.add_mul, Nat.one_mul] at hroom
  have hrow := run_storeCells_at C.E.P b (i * size + off) te (a.eval z).cells.toList 0 vs.toArray w q1 (by simp; omega) hone
  have hrun : (execOp a.eval o).run C.E.P w = .ok .skip (w.setRow b (vs.take (i * size + off) ++ (a.eval z).cells.toList ++ vs.drop (i * size + off + (a.eval z).cells.toList.length)).toArray) := by
    simp only [execOp, ho, Instr.storeAt, p2, Instr.sureAddr, storeVar, Sem.run_bind, Sem.run_pure, Result.andThen_ok, sizeOf_run hok]
    rw [if_neg (by rw [c1, hsz']; simp)]
    simp only [Nat.add_zero] at hrow
    rw [hrow]
    rfl
  unfold Oper.wp
  rw [hrun]
  simp only [Oper.upon]
  rw [hdst]
  refine hK _ _ ⟨F, σ, ?_, h2, h3, ?_, h4, h5, fun t => ?_⟩
  · refine h1.trans ⟨rfl, rfl, rfl, Nat.le_of_eq (setRow_size _ _ _).symm, fun k hk => setRow_other _ _ _ _ (by omega)⟩
  · refine hi.turn hob rfl p1 q9 ?_
    have keep : ∀ k, F k → (w.setRow b (vs.take (i * size + off) ++ (a.eval z).cells.toList ++ vs.drop (i * size + off + (a.eval z).cells.toList.length)).toArray).heap[k]? = w.heap[k]? := fun k hk => setRow_other w b _ k (fun e => q9 (e ▸ hk))
    have hvl : vs.length = cc * size := q2
    have hnew : (subD d off e).cells.length = size := by
      rw [subD_cells hle']
      simp only [List.length_append, List.length_take, List.length_drop]
      omega
    refine ⟨_, setRow_heap w b vs.toArray _ te _ q1, ?_, by simp [q3], q4, q4', fun u hu => ?_, fun u hu c hc => ?_, fun i' u j cd hu hc => ?_, q8, q9⟩
    · simp only [List.length_append, List.length_take, List.length_drop, Array.length_toList, c1, hvl]
      omega
    · rcases List.mem_or_eq_of_mem_set hu with h | h
      · exact q5 u h
      · rw [h]; exact hnew
    · rcases List.mem_or_eq_of_mem_set hu with h | h
      · exact q6 u h c hc
      · subst h
        rw [subD_cells hle', List.mem_append, List.mem_append] at hc
        rcases hc with (hc | hc) | hc
        · exact q6 d (List.mem_of_getElem? hd) c (List.mem_of_mem_take hc)
        · exact c3 c hc
        · exact q6 d (List.mem_of_getElem? hd) c (List.mem_of_mem_drop hc)
    · have e1 : (vs.take (i * size + off)).length = i * size + off := by rw [List.length_take]; omega
      rw [List.getElem?_set] at hu
      split at hu
      · rename_i hii
        subst hii
        cases hu
        have hj : j < size := by rw [← hnew]; exact (List.getElem?_eq_some_iff.1 hc).1
        rw [subD_cells hle'] at hc
        have e2 : (d.cells.take off).length = off := by rw [List.length_take]; omega
        rcases Nat.lt_or_ge j off with hlt | hge
        · rw [List.append_assoc, List.getElem?_append_left (by omega), List.getElem?_take, if_pos hlt] at hc
          obtain ⟨u, r1, r2⟩ := q7 i d j cd hd hc
          refine ⟨u, ?_, r2.mono (fun _ h => h) keep⟩
          rw [List.append_assoc, List.getElem?_append_left (by omega), List.getElem?_take, if_pos (by omega)]
          exact r1
        · rw [List.append_assoc, List.getElem?_append_right (by omega), e2] at hc
          have hsub : i * size + j - (i * size + off) = j - off := by omega
          rcases Nat.lt_or_ge (j - off) e.cells.length with hlt2 | hge2
          · rw [List.getElem?_append_left hlt2] at hc
            have hx : j - off < (a.eval z).cells.toList.length := by omega
            refine ⟨(a.eval z).cells.toList[j - off], ?_, (c2 (j - off) cd _ hc (show (a.eval z).cells[j - off]? = some ((a.eval z).cells.toList[j - off]) by simp)).mono (fun _ h => h) keep⟩
            rw [List.append_assoc, List.getElem?_append_right (by omega), e1, hsub, List.getElem?_append_left (by omega)]
            exact List.getElem?_eq_getElem hx
          · rw [List.getElem?_append_right hge2, List.getElem?_drop] at hc
            obtain ⟨u, r1, r2⟩ := q7 i d _ cd hd hc
            refine ⟨u, ?_, r2.mono (fun _ h => h) keep⟩
            rw [List.append_assoc, List.getElem?_append_right (by omega), e1, hsub, List.getElem?_append_right (by omega), hcl, List.getElem?_drop, ← r1]
            congr 1
            omega
      · rename_i hii
        have hj : j < size := by rw [← q5 u (List.mem_of_getElem? hu)]; exact (List.getElem?_eq_some_iff.1 hc).1
        obtain ⟨v, r1, r2⟩ := q7 i' u j cd hu hc
        refine ⟨v, ?_, r2.mono (fun _ h => h) keep⟩
        rcases Nat.lt_or_ge i' i with hlt | hge
        · have hm : (i' + 1) * size ≤ i * size := Nat.mul_le_mul_right _ hlt
          rw [Nat.add_mul, Nat.one_mul] at hm
          rw [List.append_assoc, List.getElem?_append_left (by omega), List.getElem?_take, if_pos (by omega)]
          exact r1
        · have hm : (i + 1) * size ≤ i' * size := Nat.mul_le_mul_right _ (by omega)
          rw [Nat.add_mul, Nat.one_mul] at hm
          rw [List.append_assoc, List.getElem?_append_right (by omega), e1, List.getElem?_append_right (by omega), hcl, List.getElem?_drop, ← r1]
          congr 1
          omega
  · exact (hs t).mono (fun _ h => h) (fun k hk => setRow_other w b _ k (fun e => q9 (e ▸ hk))) (fun _ _ h => h)

/-! ## make -/
def zeroD (e : TE) : Option D :=
  match zeroDs e.zero.cells.toList with
  | some cs => bif e.isAgg then some (.agg cs) else (match cs with
    | [d] => bif d.one then some d else none
    | _ => none)
  | none => none
theorem zeroD_cells {e : TE} {d : D} (h : zeroD e = some d) : zeroDs e.zero.cells.toList = some d.cells := by
  unfold zeroD at h
  split at h
  · rename_i cs hcs
    rw [hcs]
    cases hag : e.isAgg with
    | true => rw [hag] at h; cases h; rfl
    | false =>
      rw [hag] at h
      simp only [cond_false] at h
      split at h
      · rename_i d'
        cases hb : d'.one with
        | true => rw [hb] at h; cases h; cases d <;> first | rfl | (simp [D.one] at hb)
        | false => rw [hb] at h; cases h
      · cases h
  · cases h

theorem s_make {t : TypeId} {y z : Operand} {te : TE} {ky kz : IntKind} {n : Nat} {d : D} (ho : o.op = .makeSlice t y z) (hte : elemT C.E t = some te) (hy : s.ev C.E y = .d (.imm (.int ky (n : Int)))) (hz : s.ev C.E z = .d (.imm (.int kz (n : Int))))
    (hzd : zeroD te = some d) (h1z : oneAll te.zero.cells.toList = true) (hzs : te.zero.cells.size = te.size) (hb : te.bytes * n ≤ 281474976710656) (hmx : n ≤ 9223372036854775807) (hd : dstOK C o = true) :
    SOp C s o (s.add o.dst (.row te.t te.size (List.replicate n d)) (.own s.ob.length)) := by
  obtain ⟨hu, hok⟩ := elemT_ok hte
  obtain ⟨hdesc, i0, hi0, hsize, hbytes, hzero⟩ := hok
  have hc := zeroD_cells hzd
  rintro w a K Q ⟨F, σ, h1, h2, h3, hi, h4, h5, hs⟩ hK
  have hvy := ev_rd (E := C.E) hi hs y
  have hvz := ev_rd (E := C.E) hi hs z
  rw [hy] at hvy
  rw [hz] at hvz
  have e1 := (Rd.imm_inv hvy).1
  have e2 := (Rd.imm_inv hvz).1
  have hbz : (i0.bytes : Int) * (n : Int) ≤ 281474976710656 := by
    have h : ((i0.bytes * n : Nat) : Int) ≤ 281474976710656 := by rw [hbytes]; omega
    rwa [Int.natCast_mul] at h
  have hrun0 := run_make (P := C.E.P) w t te.t i0 te.zero hu hi0 hzero ky kz n n (Int.natCast_nonneg n) (Int.le_refl _) hbz (by omega)
  have hrun : (execOp a.eval o).run C.E.P w = .ok (.value (.slice (some ⟨w.heap.size, 0, none⟩) n n)) (w.alloc (.cells (madeCells te.zero.cells (n * te.size)) te.t)) := by
    simp only [Int.toNat_natCast, hsize] at hrun0
    simp [execOp, ho, e1, e2, hrun0]
  unfold Oper.wp
  rw [hrun]
  have hz0 : CellsRd (w.alloc (.cells (madeCells te.zero.cells (n * te.size)) te.t)) F te.zero.cells.toList d.cells := zeroDs_ok hc fun v hv => oneAll_ok h1z v hv
  have hdl : d.cells.length = te.size := by rw [hz0.len]; simpa using hzs
  refine hK _ _ (rel_add h1 h2 h3 hi h4 h5 hs hd (x := .row te.t te.size (List.replicate n d)) (c := n) (n := n) ⟨(madeCells te.zero.cells (n * te.size)).toList, by simpa using heap_push, by simp [size_madeCells], by simp, Nat.le_refl _, (show n ≤ maxLen from hmx), fun x hx => ?_, fun x hx c hcx => ?_, fun i x j cd hx hcd => ?_, h1.size, fun hf => ?_⟩ ⟨w.heap.size, n, n, ?_, rfl⟩)
  · rw [(List.mem_replicate.1 hx).2]; exact hdl
  · rw [(List.mem_replicate.1 hx).2] at hcx
    obtain ⟨j, hj⟩ := List.getElem?_of_mem hcx
    have hlt : j < te.zero.cells.toList.length := by rw [← hz0.len]; exact (List.getElem?_eq_some_iff.1 hj).1
    obtain ⟨d', e1, e2⟩ := hz0.rd j _ (List.getElem?_eq_getElem hlt)
    rw [hj] at e1
    cases e1
    exact e2.one_of (hz0.one _ (List.getElem_mem hlt))
  · have hin : i < n := by
      have := (List.getElem?_eq_some_iff.1 hx).1
      simpa using this
    obtain rfl : x = d := by
      rw [List.getElem?_replicate, if_pos hin] at hx
      cases hx
      rfl
    have hj : j < te.size := by rw [← hdl]; exact (List.getElem?_eq_some_iff.1 hcd).1
    have hlt : j < te.zero.cells.toList.length := by simpa [hzs] using hj
    obtain ⟨d', e1, e2⟩ := hz0.rd j _ (List.getElem?_eq_getElem hlt)
    rw [hcd] at e1
    cases e1
    refine ⟨_, ?_, e2⟩
    have hjj : j < te.zero.cells.size := by simpa using hlt
    have hmod : (i * te.size + j) % te.zero.cells.size = j := by rw [hzs]; exact (div_idx hj).2
    simp only [madeCells, Array.toList_map, Array.toList_range, List.getElem?_map, List.getElem?_range (mul_idx hin hj), Option.map_some, hmod]
    simp [hjj]
  · exact absurd (hi.flt _ hf) (Nat.lt_irrefl _)
  · rw [← hi.len]; simp
end

/-! ## A row that nobody writes any more -/
def frzX (k : Nat) (xs : List D) : X → X
  | .own i => bif Nat.beq i k then .d (.sl xs) else .own i
  | .pel i j off z => bif Nat.beq i k then .top else .pel i j off z
  | x => x
def frzT (k : Nat) (xs : List D) : List (Nat × X) → List (Nat × X)
  | [] => []
  | (n, x) :: r => (n, frzX k xs x) :: frzT k xs r
def frzC (k : Nat) (xs : List D) : VC → VC
  | .w x => .w (frzX k xs x)
  | .cs l => .cs (l.map (frzX k xs))
def frzO (k : Nat) (xs : List D) : AObj → AObj
  | .var t c => .var t (frzC k xs c)
  | x => x
def frz (k : Nat) (s : St) : Option St :=
  match s.ob[k]? with
  | some (.row _ _ xs) => some ⟨frzT k xs s.tm, (s.ob.map (frzO k xs)).set k .dead⟩
  | _ => none
theorem frzC_cells (k : Nat) (xs : List D) (c : VC) : (frzC k xs c).cells = c.cells.map (frzX k xs) := by
  cases c with
  | cs l => rfl
  | w x =>
    have key : ∀ l : List D, l.map X.d = (l.map X.d).map (frzX k xs) := fun l => by
      induction l with
      | nil => rfl
      | cons a r ih =>
        simp only [List.map_cons]
        exact congrArg _ ih
    cases x with
    | d x => exact key _
    | own i =>
      simp only [frzC, VC.cells, frzX, X.cells, List.map_cons, List.map_nil]
      cases Nat.beq i k <;> rfl
    | pel i j off z =>
      simp only [frzC, VC.cells, frzX, X.cells, List.map_cons, List.map_nil]
      cases Nat.beq i k <;> rfl
    | _ => rfl
theorem frzO_live (k : Nat) (xs : List D) (x : AObj) : (frzO k xs x).live = x.live := by cases x <;> rfl
theorem lk_frz (k : Nat) (xs : List D) : ∀ (tm : List (Nat × X)) (t : Nat), lk (frzT k xs tm) t = frzX k xs (lk tm t)
  | [], t => rfl
  | (n, x) :: r, t => by
    simp only [frzT, lk]
    cases Nat.beq n t with
    | true => rfl
    | false => exact lk_frz k xs r t

theorem frz_le {C : Cx} {s s' : St} (k : Nat) (h : frz k s = some s') : Le C s s' := by
  unfold frz at h
  split at h
  · rename_i e size xs hob
    cases h
    rintro a w ⟨F, σ, h1, h2, h3, hi, h4, h5, hs⟩
    have hk : k < s.ob.length := (List.getElem?_eq_some_iff.1 hob).1
    have hkσ : k < σ.length := by rw [hi.len]; exact hk
    obtain ⟨b, c, n, hp⟩ : ∃ b c n, σ[k]? = some (b, c, n) := ⟨_, _, _, List.getElem?_eq_getElem hkσ⟩
    have hobs := hi.obs k _ _ hob hp
    obtain ⟨vs, q1, q2, q3, q4, q5, q6, q7, q8, q9, q10⟩ := hobs
    have hlt : b < w.heap.size := (hi.obs k _ _ hob hp).lt rfl
    have hnew : Rd w (fun i => F i ∨ i = b) (.sl xs) (.slice (some ⟨b, 0, none⟩) n c) := by
      have hex : ∀ i j, ∃ u, ∀ x cd, xs[i]? = some x → x.cells[j]? = some cd → vs[i * size + j]? = some u ∧ Rd w F cd u := by
        intro i j
        cases hx : xs[i]? with
        | none => exact ⟨undef, fun x cd h => by cases h⟩
        | some x =>
          cases hc : x.cells[j]? with
          | none => exact ⟨undef, fun x' cd h h' => by cases h; rw [hc] at h'; cases h'⟩
          | some cd =>
            obtain ⟨u, e1, e2⟩ := q8 i x j cd hx hc
            exact ⟨u, fun x' cd' h h' => by cases h; rw [hc] at h'; cases h'; exact ⟨e1, e2⟩⟩
      rw [q3]
      refine .sl size xs ⟨b, 0, none⟩ c (fun i j => Classical.choose (hex i j)) (by omega) q5 (fun _ => .inr rfl) q6 q7 (fun i x j cd hx hc => ?_) (fun i x j cd hx hc => ?_)
      · rw [add_mk, cell_vs q1, Nat.zero_add]
        exact (Classical.choose_spec (hex i j) x cd hx hc).1
      · exact (Classical.choose_spec (hex i j) x cd hx hc).2.mono (fun _ h => .inl h) fun _ _ => rfl
    have hX : ∀ x v, RdX w F σ x v → RdX w (fun i => F i ∨ i = b) σ (frzX k xs x) v := by
      intro x v hx
      have base := hx.mono (F' := fun i => F i ∨ i = b) (fun _ h => .inl h) (fun _ _ => rfl) (fun _ _ h => h)
      cases x with
      | own i =>
        simp only [frzX]
        cases hb : Nat.beq i k with
        | false => exact base
        | true =>
          obtain rfl := Nat.eq_of_beq_eq_true hb
          obtain ⟨b', c', n', e1, e2⟩ := hx
          rw [hp] at e1
          cases e1
          rw [e2]
          exact hnew
      | pel i j off z =>
        simp only [frzX]
        cases hb : Nat.beq i k with
        | false => exact base
        | true => trivial
      | _ => exact base
    refine ⟨fun i => F i ∨ i = b, σ, h1, fun i h => .inl (h2 i h), fun i h => ?_, ⟨fun i h => ?_, hi.glob.mono (fun _ h => .inl h) (fun _ _ => rfl), by simp [hi.len], fun o x p hx hpx => ?_, fun o o' x x' p p' hne hx hl hx' hl' hpx hpx' => ?_⟩, h4, h5, fun t => ?_⟩
    · rcases h with h | h
      · exact h3 i h
      · rw [h]; exact .inr q9
    · rcases h with h | h
      · exact hi.flt i h
      · rw [h]; exact hlt
    · rw [List.getElem?_set] at hx
      split at hx
      · split at hx
        · cases hx; trivial
        · cases hx
      · rename_i hne
        rw [List.getElem?_map, Option.map_eq_some_iff] at hx
        obtain ⟨y, hy, rfl⟩ := hx
        have hob0 := hi.obs o y p hy hpx
        cases hlv : y.live with
        | false => cases y <;> simp [AObj.live] at hlv <;> trivial
        | true =>
          have hnb : p.1 ≠ b := fun e => hi.inj k o _ y (b, c, n) p hne hob rfl hy hlv hp hpx e.symm
          obtain ⟨b', c', n'⟩ := p
          cases y with
          | var ty cs =>
            obtain ⟨us, r1, r2, r3, r4, r5, r6⟩ := hob0
            refine ⟨us, r1, ?_, r3, fun i x v hx hv => ?_, r5, fun h => h.elim r6 hnb⟩
            · rw [frzC_cells, List.length_map]; exact r2
            · rw [frzC_cells, List.getElem?_map, Option.map_eq_some_iff] at hx
              obtain ⟨x0, hx0, rfl⟩ := hx
              exact hX x0 v (r4 i x0 v hx0 hv)
          | row e' size' xs' =>
            obtain ⟨us, r1, r2, r3, r4, r5, r6, r7, r8, r9, r10⟩ := hob0
            refine ⟨us, r1, r2, r3, r4, r5, r6, r7, fun i x j cd hx hc => ?_, r9, fun h => h.elim r10 hnb⟩
            obtain ⟨v, e1, e2⟩ := r8 i x j cd hx hc
            exact ⟨v, e1, e2.mono (fun _ h => .inl h) fun _ _ => rfl⟩
          | dead => trivial
    · have key : ∀ (o : Nat) (z : AObj), ((s.ob.map (frzO k xs)).set k .dead)[o]? = some z → z.live = true → ∃ u : AObj, s.ob[o]? = some u ∧ u.live = true := by
        intro o z hz hzl
        rw [List.getElem?_set] at hz
        split at hz
        · split at hz
          · cases hz; simp [AObj.live] at hzl
          · cases hz
        · rw [List.getElem?_map, Option.map_eq_some_iff] at hz
          obtain ⟨u, hu, rfl⟩ := hz
          exact ⟨u, hu, by rw [frzO_live] at hzl; exact hzl⟩
      obtain ⟨u, u1, u2⟩ := key o x hx hl
      obtain ⟨u', u1', u2'⟩ := key o' x' hx' hl'
      exact hi.inj o o' u u' p p' hne u1 u2 u1' u2' hpx hpx'
    · rw [lk_frz]
      exact hX _ _ (hs t)
  · cases h
end Go.Abs
