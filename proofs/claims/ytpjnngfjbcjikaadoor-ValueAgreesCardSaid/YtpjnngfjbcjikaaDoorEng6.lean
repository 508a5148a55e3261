/- Further operations that yield a value: strings, lengths, cuts, structs that are built; and the one function that reckons them all. Conditions: each operation's own. -/
import Derived.Test.YtpjnngfjbcjikaaDoorEng5
namespace Go.Abs
open Go Go.RowKit

section
variable {C : Cx} {s : St} {o : Oper} {x : X} {p : Prop}

theorem byteAt_range (b : ByteArray) (i : Nat) : 0 ≤ byteAt b i ∧ byteAt b i ≤ 255 := by
  unfold byteAt
  have := (b.data.toList.getD i 0).toNat_lt
  omega
theorem byteAt_get {b : ByteArray} {i : Nat} (h : i < b.size) : byteAt b i = ((b[i]).toNat : Int) := by
  unfold byteAt
  have h' : i < b.data.toList.length := by simpa using h
  rw [List.getD_eq_getElem?_getD, List.getElem?_eq_getElem h']
  rfl

theorem v_index {t : TypeId} {y z : Operand} (ho : o.op = .index t y z) (h : indexX C.E t (s.ev C.E y) (s.ev C.E z) = some (p, x)) (hp : p) : VOp C s o x := by
  refine VOp.pure_ fun F σ w a hi hr => ?_
  have hy := hr y (by simp [ho, Op.operands])
  have hz := hr z (by simp [ho, Op.operands])
  have key : ∀ v, (Instr.index t (a.eval y) (a.eval z)).run C.E.P w = .ok v w → (execOp a.eval o).run C.E.P w = .ok (.value v) w := by
    intro v hv
    simp [execOp, ho, hv]
  generalize s.ev C.E y = xy at *
  generalize s.ev C.E z = xz at *
  unfold indexX at h
  split at h
  · rename_i b k i
    obtain ⟨e1, -⟩ := Rd.imm_inv hy
    obtain ⟨e2, -⟩ := Rd.imm_inv hz
    cases hb : isStrT C.E t with
    | false => rw [hb] at h; cases h
    | true =>
      rw [hb] at h
      obtain ⟨rfl, rfl⟩ := Prod.mk.inj (Option.some.inj h)
      have hlt : i.toNat < b.size := by omega
      have hr := byteAt_range b i.toNat
      refine ⟨_, key _ ?_, Rd.imm _ (inR_ok (k := .u8) hr)⟩
      rw [e1, e2, byteAt_get hlt]
      have hg : b[i.toNat]? = some b[i.toNat] := by simp [hlt]
      simp [Instr.index, asIntOf, run_underlying (isStrT_ok hb), hp.1, hg]
  · cases h

theorem len_run {P : Program} {w : World} {t : TypeId} {ty : TypeId} {v : Value} {d : TypeDesc} (hu : P.underlying t = some d)
    (hv : (∃ b, v = .string b ∧ d = .string) ∨ ∃ a n c e, v = .slice a n c ∧ d = .slice e) :
    (Builtin.len_ #[t] ty #[v]).run P w = .ok (goInt (match v with | .string b => (b.size : Int) | .slice _ n _ => (n : Int) | _ => 0)) w := by
  rcases hv with ⟨b, rfl, rfl⟩ | ⟨a, n, c, e, rfl, rfl⟩ <;> simp [Builtin.len_, run_underlying hu]

theorem v_len {t : TypeId} {y : Operand} (ho : o.op = .call { callee := .builtin .len, args := #[y], argTypes := #[t] }) (h : lenX C.E s.ob t (s.ev C.E y) = some (p, x)) : VOp C s o x := by
  refine VOp.pure_ fun F σ w a hi hr => ?_
  have hy := hr y (by simp [ho, Op.operands, Call.operands])
  have key : ∀ v, (Builtin.len_ #[t] o.type #[a.eval y]).run C.E.P w = .ok v w → (execOp a.eval o).run C.E.P w = .ok (.value v) w := by
    intro v hv
    simp [execOp, ho, resolve, invoke, builtin, hv]
  have hmx : maxLen = 9223372036854775807 := rfl
  generalize s.ev C.E y = xy at *
  unfold lenX at h
  split at h
  · rename_i b
    obtain ⟨e1, hk⟩ := Rd.imm_inv hy
    cases hb : isStrT C.E t with
    | false => rw [hb] at h; cases h
    | true =>
      rw [hb] at h
      obtain ⟨rfl, rfl⟩ := Prod.mk.inj (Option.some.inj h)
      refine ⟨_, key _ (by rw [e1]; exact len_run (isStrT_ok hb) (.inl ⟨_, rfl, rfl⟩)), Rd.imm _ (inR_ok (k := .i64) ?_)⟩
      simp only [okV, decide_eq_true_eq] at hk
      simp only [inR]
      omega
  · rename_i xs
    cases hb : isSlT C.E t with
    | false => rw [hb] at h; cases h
    | true =>
      rw [hb] at h
      obtain ⟨rfl, rfl⟩ := Prod.mk.inj (Option.some.inj h)
      obtain ⟨el, hu⟩ := isSlT_ok hb
      rcases Rd.sl_inv hy with ⟨rfl, hev⟩ | ⟨_, ad, cap, hev, h1, h2, -⟩
      · exact ⟨_, key _ (by rw [hev]; exact len_run hu (.inr ⟨_, _, _, _, rfl, rfl⟩)), Rd.imm _ (by decide)⟩
      · refine ⟨_, key _ (by rw [hev]; exact len_run hu (.inr ⟨_, _, _, _, rfl, rfl⟩)), Rd.imm _ (inR_ok (k := .i64) ?_)⟩
        simp only [inR]
        omega
  · cases hb : isSlT C.E t with
    | false => rw [hb] at h; cases h
    | true =>
      rw [hb] at h
      obtain ⟨rfl, rfl⟩ := Prod.mk.inj (Option.some.inj h)
      obtain ⟨el, hu⟩ := isSlT_ok hb
      exact ⟨_, key _ (by rw [show a.eval y = .slice none 0 0 from hy]; exact len_run hu (.inr ⟨_, _, _, _, rfl, rfl⟩)), Rd.imm _ (by decide)⟩
  · rename_i ob
    split at h
    · rename_i e size xs hob
      cases hb : isSlT C.E t with
      | false => rw [hb] at h; cases h
      | true =>
        rw [hb] at h
        obtain ⟨rfl, rfl⟩ := Prod.mk.inj (Option.some.inj h)
        obtain ⟨el, hu⟩ := isSlT_ok hb
        obtain ⟨b, c, n, h1, h2⟩ := hy
        obtain ⟨vs, -, -, rfl, h3, h4, -⟩ := hi.obs ob _ _ hob h1
        refine ⟨_, key _ (by rw [h2]; exact len_run hu (.inr ⟨_, _, _, _, rfl, rfl⟩)), Rd.imm _ (inR_ok (k := .i64) ?_)⟩
        simp only [inR]
        omega
    · cases h
  · cases h

theorem sliceBound_run {P : Program} {w : World} {k : IntKind} {i : Int} {y : Nat} {code : BoundsCode} (h : 0 ≤ i ∧ i ≤ y) : (Instr.sliceBound (.int k i) y code).run P w = .ok i.toNat w := by
  simp [Instr.sliceBound, asIntOf, h]

theorem rd_empty {w : World} {F : Nat → Prop} {ad : Addr} {cap : Nat} (h : cap ≤ maxLen) : Rd w F (.sl []) (.slice (some ad) 0 cap) :=
  Rd.sl 0 [] ad cap (fun _ _ => undef) (Nat.zero_le _) h (fun h => absurd rfl h) (fun x h => by cases h) (fun x h => by cases h) (fun i x j c h => by cases h) (fun i x j c h => by cases h)
theorem rd_sub {w : World} {F : Nat → Prop} {xs : List D} {ad : Addr} {cap : Nat} (h : Rd w F (.sl xs) (.slice (some ad) xs.length cap)) (sz l hh : Nat) (hl : l ≤ hh) (hx : hh ≤ xs.length) (hc : hh ≤ cap)
    (hsz : ∀ x ∈ xs, x.cells.length = sz) : Rd w F (.sl ((xs.take hh).drop l)) (.slice (some (if cap = l then ad else ad.add (l * sz))) (hh - l) (cap - l)) := by
  rcases Rd.sl_inv h with ⟨_, h0⟩ | ⟨size, ad', cap', h0, h1, h2, h3, h4, h5, h6⟩
  · cases h0
  · cases h0
    have hget : ∀ (i : Nat) x, ((xs.take hh).drop l)[i]? = some x → xs[l + i]? = some x ∧ l + i < hh := by
      intro i x hi
      rw [List.getElem?_drop, List.getElem?_take] at hi
      split at hi
      · exact ⟨hi, ‹_›⟩
      · cases hi
    have hlen : ((xs.take hh).drop l).length = hh - l := by
      rw [List.length_drop, List.length_take]
      omega
    have hex : ∀ i j, ∃ u, ∀ x c, xs[l + i]? = some x → x.cells[j]? = some c → w.cell? (ad.add ((l + i) * size + j)) = some u ∧ Rd w F c u := by
      intro i j
      by_cases hq : ∃ x c, xs[l + i]? = some x ∧ x.cells[j]? = some c
      · obtain ⟨x, c, hx, hc⟩ := hq
        obtain ⟨u, hu⟩ := h6 _ x j c hx hc
        exact ⟨u, fun x' c' h1 h2 => by rw [hx] at h1; cases h1; rw [hc] at h2; cases h2; exact hu⟩
      · exact ⟨undef, fun x c h1 h2 => absurd ⟨x, c, h1, h2⟩ hq⟩
    let u : Nat → Nat → Value := fun i j => Classical.choose (hex i j)
    have hu : ∀ i j x c, xs[l + i]? = some x → x.cells[j]? = some c → w.cell? (ad.add ((l + i) * size + j)) = some (u i j) ∧ Rd w F c (u i j) := fun i j => Classical.choose_spec (hex i j)
    by_cases hnil : (xs.take hh).drop l = []
    · have hz : hh - l = 0 := by rw [← hlen, hnil]; rfl
      rw [hnil, hz]
      exact rd_empty (by omega)
    · have hlt : l < hh := by
        rcases Nat.lt_or_ge l hh with h | h
        · exact h
        · exfalso; apply hnil; apply List.eq_nil_of_length_eq_zero; omega
      have hsize : sz = size := by
        have hm : xs[l]'(by omega) ∈ xs := List.getElem_mem _
        rw [← hsz _ hm, h4 _ hm]
      subst hsize
      rw [if_neg (by omega), ← hlen]
      refine Rd.sl sz _ _ _ u (by rw [hlen]; omega) (by omega) (fun _ => ?_) (fun x hx => h4 x (List.mem_of_mem_take (List.mem_of_mem_drop hx))) (fun x hx => h5 x (List.mem_of_mem_take (List.mem_of_mem_drop hx))) (fun i x j c hx hc => ?_) fun i x j c hx hc => ?_
      · rw [block_add]
        refine h3 fun e => ?_
        subst e
        simp at hx
        omega
      · rw [add_add, ← Nat.add_assoc, ← Nat.add_mul]
        exact (hu i j x c (hget i x hx).1 hc).1
      · exact (hu i j x c (hget i x hx).1 hc).2

theorem slice_run_sl {P : Program} {w : World} {t e : TypeId} {te : TE} {ad : Addr} {n cap l h : Nat} {lo hi : Option Value} (hu : P.underlying t = some (.slice e)) (ht : te.ok P) (he : te.t = e)
    (hb : (Instr.sliceBounds true n cap lo hi none).run P w = .ok (l, h, cap) w) :
    (Instr.sliceAt t (.slice (some ad) n cap) lo hi none).run P w = .ok (.slice (some (if cap = l then ad else ad.add (l * te.size))) (h - l) (cap - l)) w := by
  subst he
  simp only [Instr.sliceAt, Sem.run_bind, run_underlying hu, Result.andThen_ok, Instr.slice, hb, sizeOf_run ht]
  by_cases hc : cap = l <;> simp [hc]
theorem slice_run_nil {P : Program} {w : World} {t e : TypeId} {te : TE} {lo hi : Option Value} (hu : P.underlying t = some (.slice e)) (ht : te.ok P) (he : te.t = e)
    (hb : (Instr.sliceBounds true 0 0 lo hi none).run P w = .ok (0, 0, 0) w) :
    (Instr.sliceAt t (.slice none 0 0) lo hi none).run P w = .ok (.slice none 0 0) w := by
  subst he
  simp [Instr.sliceAt, run_underlying hu, Instr.slice, hb, sizeOf_run ht]
theorem slice_run_str {P : Program} {w : World} {t : TypeId} {b : ByteArray} {l h m : Nat} {lo hi : Option Value} (hu : P.underlying t = some .string)
    (hb : (Instr.sliceBounds false b.size b.size lo hi none).run P w = .ok (l, h, m) w) :
    (Instr.sliceAt t (.string b) lo hi none).run P w = .ok (.string (b.extract l h)) w := by
  simp [Instr.sliceAt, run_underlying hu, Instr.slice, hb]

/-- The element type of a slice type, if both are listed. -/
def elemT (E : Env) (t : TypeId) : Option TE := match findT E.T t with | some e => (match e.desc with | .slice el => findT E.T el | _ => none) | none => none
theorem elemT_ok {E : Env} {t : TypeId} {te : TE} (h : elemT E t = some te) : E.P.underlying t = some (.slice te.t) ∧ te.ok E.P := by
  unfold elemT at h
  split at h
  · rename_i e he
    split at h
    · rename_i el hd
      obtain ⟨⟨h1, -⟩, rfl⟩ := findT_ok he
      obtain ⟨h2, rfl⟩ := findT_ok h
      exact ⟨by rw [h1, hd], h2⟩
    · cases h
  · cases h

theorem extract_size {b : ByteArray} {l h : Nat} : (b.extract l h).size ≤ b.size := by
  rw [ByteArray.size_extract]
  omega

theorem v_slice {t : TypeId} {y : Operand} {lo hi : Option Operand} (ho : o.op = .slice t y lo hi none) (hel : ∀ xs, s.ev C.E y = .d (.sl xs) → ∃ te, elemT C.E t = some te ∧ ∀ x ∈ xs, x.cells.length = te.size)
    (h : sliceX C.E t (s.ev C.E y) (lo.map (s.ev C.E)) (hi.map (s.ev C.E)) = some (p, x)) (hp : p) : VOp C s o x := by
  refine VOp.pure_ fun F σ w a hi' hr => ?_
  have hy := hr y (by simp [ho, Op.operands])
  have hlo : ∀ z, lo = some z → RdX w F σ (s.ev C.E z) (a.eval z) := fun z hz => hr z (by simp [ho, Op.operands, hz])
  have hhi : ∀ z, hi = some z → RdX w F σ (s.ev C.E z) (a.eval z) := fun z hz => hr z (by simp [ho, Op.operands, hz])
  have key : ∀ v, (Instr.sliceAt t (a.eval y) (lo.map a.eval) (hi.map a.eval) none).run C.E.P w = .ok v w → (execOp a.eval o).run C.E.P w = .ok (.value v) w := by
    intro v hv
    simp [execOp, ho, hv]
  -- the bounds
  have hbd : ∀ {q : Option Operand} {u : X}, (∀ z, q = some z → RdX w F σ (s.ev C.E z) (a.eval z)) → q.map (s.ev C.E) = some u → ∀ k i, u = .d (.imm (.int k i)) → q.map a.eval = some (.int k i) := by
    intro q u hq hu k i he
    cases q with
    | none => cases hu
    | some z =>
      simp at hu
      have := hq z rfl
      rw [hu, he] at this
      simp [this.imm_inv.1]
  have hbn : ∀ {q : Option Operand}, q.map (s.ev C.E) = none → q.map a.eval = none := by
    intro q hq
    cases q with
    | none => rfl
    | some z => cases hq
  generalize hyy : s.ev C.E y = xy at *
  unfold sliceX at h
  split at h
  · rename_i b
    obtain ⟨e1, hk⟩ := Rd.imm_inv hy
    have hks : b.size ≤ maxLen := by simpa [okV] using hk
    have fin : ∀ l h, okV (.string (b.extract l h)) = true := fun l h => by
      have := extract_size (b := b) (l := l) (h := h)
      simp only [okV, decide_eq_true_eq]
      omega
    cases hb : isStrT C.E t with
    | false => rw [hb] at h; cases h
    | true =>
      have hu := isStrT_ok hb
      rw [hb] at h
      simp only [cond_true] at h
      split at h
      · rename_i k i h1 h2
        obtain ⟨rfl, rfl⟩ := Prod.mk.inj (Option.some.inj h)
        refine ⟨_, key _ ?_, Rd.imm _ (fin _ _)⟩
        rw [e1, hbn h1, hbd hhi h2 _ _ rfl]
        refine slice_run_str (m := b.size) hu ?_
        simp [Instr.sliceBounds, sliceBound_run hp]
      · rename_i k i h1 h2
        obtain ⟨rfl, rfl⟩ := Prod.mk.inj (Option.some.inj h)
        refine ⟨_, key _ ?_, Rd.imm _ (fin _ _)⟩
        rw [e1, hbn h2, hbd hlo h1 _ _ rfl]
        refine slice_run_str (m := b.size) hu ?_
        simp [Instr.sliceBounds, sliceBound_run hp]
      · rename_i k i k' j h1 h2
        obtain ⟨rfl, rfl⟩ := Prod.mk.inj (Option.some.inj h)
        obtain ⟨p1, p2, p3⟩ := hp
        refine ⟨_, key _ ?_, Rd.imm _ (fin _ _)⟩
        rw [e1, hbd hlo h1 _ _ rfl, hbd hhi h2 _ _ rfl]
        refine slice_run_str (m := b.size) hu ?_
        have hj : 0 ≤ j ∧ j ≤ (b.size : Int) := ⟨by omega, p3⟩
        have hi2 : 0 ≤ i ∧ i ≤ (j.toNat : Int) := ⟨p1, by omega⟩
        simp [Instr.sliceBounds, sliceBound_run hj, sliceBound_run hi2]
      · cases h
  · rename_i xs
    obtain ⟨te, hte, hsz⟩ := hel xs rfl
    obtain ⟨hu, hok⟩ := elemT_ok hte
    cases hb : isSlT C.E t with
    | false => rw [hb] at h; cases h
    | true =>
      rw [hb] at h
      simp only [cond_true] at h
      -- whatever the bounds come to
      have fin : ∀ (l hh : Nat), l ≤ hh → hh ≤ xs.length → (∀ cap, xs.length ≤ cap → (Instr.sliceBounds true xs.length cap (lo.map a.eval) (hi.map a.eval) none).run C.E.P w = .ok (l, hh, cap) w) →
          ∃ v, (execOp a.eval o).run C.E.P w = .ok (.value v) w ∧ RdX w F σ (.d (.sl ((xs.take hh).drop l))) v := by
        intro l hh hl hx hbs
        rcases Rd.sl_inv hy with ⟨rfl, hev⟩ | ⟨_, ad, cap, hev, h1, h2, -⟩
        · simp at hx
          subst hx
          obtain rfl : l = 0 := by omega
          refine ⟨.slice none 0 0, key _ ?_, Rd.slnil⟩
          rw [hev]
          exact slice_run_nil hu hok rfl (hbs 0 (Nat.le_refl _))
        · refine ⟨_, key _ ?_, rd_sub (hev ▸ hy) te.size l hh hl hx (by omega) hsz⟩
          rw [hev]
          exact slice_run_sl hu hok rfl (hbs cap h1)
      split at h
      · rename_i k i h1 h2
        obtain ⟨rfl, rfl⟩ := Prod.mk.inj (Option.some.inj h)
        have := fin 0 i.toNat (Nat.zero_le _) (by omega) fun cap hcap => by
          have hj : 0 ≤ i ∧ i ≤ (cap : Int) := ⟨hp.1, by omega⟩
          rw [hbn h1, hbd hhi h2 _ _ rfl]
          simp [Instr.sliceBounds, sliceBound_run hj]
        simpa using this
      · rename_i k i h1 h2
        obtain ⟨rfl, rfl⟩ := Prod.mk.inj (Option.some.inj h)
        have := fin i.toNat xs.length (by omega) (Nat.le_refl _) fun cap hcap => by
          rw [hbn h2, hbd hlo h1 _ _ rfl]
          simp [Instr.sliceBounds, sliceBound_run hp]
        simpa using this
      · rename_i k i k' j h1 h2
        obtain ⟨rfl, rfl⟩ := Prod.mk.inj (Option.some.inj h)
        obtain ⟨p1, p2, p3⟩ := hp
        exact fin i.toNat j.toNat (by omega) (by omega) fun cap hcap => by
          have hj : 0 ≤ j ∧ j ≤ (cap : Int) := ⟨by omega, by omega⟩
          have hi2 : 0 ≤ i ∧ i ≤ (j.toNat : Int) := ⟨p1, by omega⟩
          rw [hbd hlo h1 _ _ rfl, hbd hhi h2 _ _ rfl]
          simp [Instr.sliceBounds, sliceBound_run hj, sliceBound_run hi2]
      · cases h
  · cases h

theorem v_min {y z : Operand} {t u : TypeId} (mx : Bool) (ho : o.op = .call { callee := .builtin (bif mx then .max else .min), args := #[y, z], argTypes := #[t, u] }) (h : minX mx (s.ev C.E y) (s.ev C.E z) = some (p, x)) (hp : p) : VOp C s o x := by
  refine VOp.pure_ fun F σ w a hi hr => ?_
  have hy := hr y (by simp [ho, Op.operands, Call.operands])
  have hz := hr z (by simp [ho, Op.operands, Call.operands])
  generalize s.ev C.E y = xy at *
  generalize s.ev C.E z = xz at *
  unfold minX at h
  split at h
  · rename_i k m k' n
    obtain ⟨e1, hk⟩ := Rd.imm_inv hy
    obtain ⟨e2, -⟩ := Rd.imm_inv hz
    obtain ⟨rfl, rfl⟩ := Prod.mk.inj (Option.some.inj h)
    have hm := ok_inR hk
    cases mx with
    | true =>
      refine ⟨.int k (max m n), ?_, Rd.imm _ (inR_ok ?_)⟩
      · have e : (if m < n then n else m) = max m n := by omega
        simp [execOp, ho, resolve, invoke, builtin, e1, e2, Builtin.max_, Builtin.max2, e]
      · rcases Int.le_total m n with h | h
        · simpa [Int.max_eq_right h] using hp
        · simpa [Int.max_eq_left h] using hm
    | false =>
      refine ⟨.int k (min m n), ?_, Rd.imm _ (inR_ok ?_)⟩
      · have e : (if n < m then n else m) = min m n := by omega
        simp [execOp, ho, resolve, invoke, builtin, e1, e2, Builtin.min_, Builtin.min2, e]
      · rcases Int.le_total m n with h | h
        · simpa [Int.min_eq_left h] using hm
        · simpa [Int.min_eq_right h] using hp
  · cases h

theorem v_extract {y : Operand} {k : Nat} {xs : List D} {d : D} (ho : o.op = .extract y k) (hy' : s.ev C.E y = .tup xs) (hx : xs[k]? = some d) : VOp C s o (.d d) := by
  refine VOp.pure_ fun F σ w a hi hr => ?_
  have hy := hr y (by simp [ho, Op.operands])
  rw [hy'] at hy
  obtain ⟨vs, e1, hl, h2⟩ := hy
  have hlt : k < vs.length := by rw [← hl]; exact (List.getElem?_eq_some_iff.1 hx).1
  refine ⟨vs[k], ?_, h2 k d _ hx (List.getElem?_eq_getElem hlt)⟩
  simp [execOp, ho, e1, Instr.extract, hlt]
end
end Go.Abs
