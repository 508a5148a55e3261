/- That each operation yields what the plain functions of the engine reckon. Conditions: each operation's own. -/
import Derived.Test.YtpjnngfjbcjikaaDoorEng4
import Derived.Laws.Small
namespace Go.Abs
open Go Go.RowKit

section
variable {C : Cx} {s : St} {o : Oper} {x : X} {p : Prop}

theorem v_move {y : Operand} (ho : o.op = .move y ∨ o.op = .assign y) (h : fw (s.ev C.E y) = some (p, x)) : VOp C s o x := by
  refine VOp.pure_ fun F σ w a hi hr => ⟨a.eval y, ?_, ?_⟩
  · rcases ho with ho | ho <;> simp [execOp, ho]
  · rw [fw_eq h]
    refine hr y ?_
    rcases ho with ho | ho <;> simp [ho, Op.operands]

theorem v_pick {c a' b' : Operand} (ho : o.op = .pick c a' b') (h : pickX (s.ev C.E c) (s.ev C.E a') (s.ev C.E b') = some (p, x)) (hp : p) : VOp C s o x := by
  refine VOp.pure_ fun F σ w a hi hr => ?_
  have hc := hr c (by simp [ho, Op.operands])
  have ha := hr a' (by simp [ho, Op.operands])
  have hb := hr b' (by simp [ho, Op.operands])
  have key : ∀ (u : Bool) (v : Value), a.eval c = .bool u → (if u = true then a.eval a' else a.eval b') = v → (execOp a.eval o).run C.E.P w = .ok (.value v) w := by
    intro u v hu hv
    simp [execOp, ho, hu, asBool, hv]
  generalize s.ev C.E c = xc at *
  generalize s.ev C.E a' = xa at *
  generalize s.ev C.E b' = xb at *
  unfold pickX at h
  split at h
  · rename_i c' x' y'
    obtain ⟨rfl, rfl⟩ := Prod.mk.inj (Option.some.inj h)
    obtain ⟨e1, -⟩ := Rd.imm_inv hc
    obtain ⟨e2, -⟩ := Rd.imm_inv ha
    obtain ⟨e3, -⟩ := Rd.imm_inv hb
    refine ⟨_, key c' _ e1 rfl, ?_⟩
    rw [e2, e3]
    cases c' <;> exact Rd.imm _ rfl
  · rename_i c' x'
    obtain ⟨rfl, rfl⟩ := Prod.mk.inj (Option.some.inj h)
    obtain ⟨e1, -⟩ := Rd.imm_inv hc
    obtain ⟨e2, -⟩ := Rd.imm_inv ha
    subst hp
    refine ⟨_, key true _ e1 rfl, ?_⟩
    rw [e2]
    exact Rd.imm _ rfl
  · rename_i c' y'
    obtain ⟨rfl, rfl⟩ := Prod.mk.inj (Option.some.inj h)
    obtain ⟨e1, -⟩ := Rd.imm_inv hc
    obtain ⟨e3, -⟩ := Rd.imm_inv hb
    subst hp
    refine ⟨_, key false _ e1 rfl, ?_⟩
    rw [e3]
    exact Rd.imm _ rfl
  · cases h

theorem isBoolT_ok {E : Env} {t : TypeId} (h : isBoolT E t = true) : E.P.underlying t = some .bool := by
  unfold isBoolT at h
  split at h
  · rename_i e he
    split at h
    · rename_i hd
      obtain ⟨⟨h1, -⟩, rfl⟩ := findT_ok he
      rw [h1, hd]
    · cases h
  · cases h
theorem isStrT_ok {E : Env} {t : TypeId} (h : isStrT E t = true) : E.P.underlying t = some .string := by
  unfold isStrT at h
  split at h
  · rename_i e he
    split at h
    · rename_i hd
      obtain ⟨⟨h1, -⟩, rfl⟩ := findT_ok he
      rw [h1, hd]
    · cases h
  · cases h
theorem isSlT_ok {E : Env} {t : TypeId} (h : isSlT E t = true) : ∃ e, E.P.underlying t = some (.slice e) := by
  unfold isSlT at h
  split at h
  · rename_i e he
    split at h
    · rename_i el hd
      obtain ⟨⟨h1, -⟩, rfl⟩ := findT_ok he
      exact ⟨el, by rw [h1, hd]⟩
    · cases h
  · cases h

theorem cmpI_run {P : Program} {w : World} {op : BinOp} {t : TypeId} {k : IntKind} {a b : Int} {r : Bool} (h : cmpI op a b = some r) : (binOp op t (.int k a) (.int k b)).run P w = .ok (.bool r) w := by
  cases op <;> simp [cmpI] at h <;> subst h <;> simp [binOp, Op.intCmp]
theorem ariI_run {P : Program} {w : World} {op : BinOp} {t : TypeId} {k : IntKind} {a b : Int} {p : Prop} {x : X} (h : ariI op k a b = some (p, x)) (hp : p) :
    ∃ n, (binOp op t (.int k a) (.int k b)).run P w = .ok (.int k n) w ∧ x = .d (.imm (.int k n)) ∧ okV (.int k n) = true := by
  cases op <;> simp only [ariI] at h <;> first | (cases h; done) | (obtain ⟨rfl, rfl⟩ := Prod.mk.inj (Option.some.inj h))
  · exact ⟨_, by simp [binOp, Op.intArith, inR_wrap hp], rfl, inR_ok hp⟩
  · exact ⟨_, by simp [binOp, Op.intArith, inR_wrap hp], rfl, inR_ok hp⟩
  · exact ⟨_, by simp [binOp, Op.intArith, inR_wrap hp], rfl, inR_ok hp⟩
  · exact ⟨_, by simp [binOp, Op.intDiv, hp.1, inR_wrap hp.2], rfl, inR_ok hp.2⟩
  · exact ⟨_, by simp [binOp, Op.intDiv, hp.1], rfl, inR_ok hp.2⟩
theorem strB_run {P : Program} {w : World} {op : BinOp} {t : TypeId} {x y : ByteArray} {r : Bool} (h : strB op x y = some r) : (binOp op t (.string x) (.string y)).run P w = .ok (.bool r) w := by
  cases op <;> simp only [strB] at h <;> first | (cases h; done) | (obtain rfl := Option.some.inj h; simp [binOp, Op.stringOp])

theorem equal_of {P : Program} {w : World} {t : TypeId} {x y : Value} {r : Bool} (h : ∀ d, (Op.equalIn (d + 1) t x y).run P w = .ok r w) : (Op.equal t x y).run P w = .ok r w := h 9999
theorem eqIn_bool {P : Program} {w : World} {t : TypeId} {a b : Bool} (hu : P.underlying t = some .bool) (d : Nat) : (Op.equalIn (d + 1) t (.bool a) (.bool b)).run P w = .ok (a == b) w := by
  simp [Op.equalIn, run_underlying hu]
theorem eqIn_nn {P : Program} {w : World} {t e : TypeId} (hu : P.underlying t = some (.slice e)) (d : Nat) : (Op.equalIn (d + 1) t (.slice none 0 0) (.slice none 0 0)).run P w = .ok true w := by
  simp [Op.equalIn, run_underlying hu]
theorem eqIn_sn {P : Program} {w : World} {t e : TypeId} {ad : Addr} {n c : Nat} (hu : P.underlying t = some (.slice e)) (d : Nat) : (Op.equalIn (d + 1) t (.slice (some ad) n c) (.slice none 0 0)).run P w = .ok false w := by
  simp [Op.equalIn, run_underlying hu]
theorem eql_run {P : Program} {w : World} {t : TypeId} {x y : Value} {r : Bool} (h : (Op.equal t x y).run P w = .ok r w) (hx : (∃ b, x = .bool b) ∨ ∃ a n c, x = .slice a n c) :
    (binOp .eql t x y).run P w = .ok (.bool r) w ∧ (binOp .neq t x y).run P w = .ok (.bool (!r)) w := by
  rcases hx with ⟨b, rfl⟩ | ⟨a, n, c, rfl⟩ <;> simp only [binOp] <;> simp [h]

theorem eqGuard_run {P : Program} {w : World} {op : BinOp} {t : TypeId} {x y : Operand} {a b : Value} (ha : a ≠ .nilIface) (hb : ∀ cs, a ≠ .agg cs) : (eqGuard op t x y a b).run P w = .ok () w := by
  unfold eqGuard
  cases op <;> simp <;> cases a <;> simp at ha hb ⊢

theorem v_bin {op : BinOp} {t u : TypeId} {y z : Operand} (ho : o.op = .binOp op t y z u) (h : binX C.E op t (s.ev C.E y) (s.ev C.E z) = some (p, x)) (hp : p) : VOp C s o x := by
  refine VOp.pure_ fun F σ w a hi hr => ?_
  have hy := hr y (by simp [ho, Op.operands])
  have hz := hr z (by simp [ho, Op.operands])
  have key : ∀ v, a.eval y ≠ .nilIface → (∀ cs, a.eval y ≠ .agg cs) → (binOp op t (a.eval y) (a.eval z)).run C.E.P w = .ok v w → (execOp a.eval o).run C.E.P w = .ok (.value v) w := by
    intro v h1 h2 hv
    simp [execOp, ho, eqGuard_run h1 h2, hv]
  generalize s.ev C.E y = xy at *
  generalize s.ev C.E z = xz at *
  unfold binX at h
  split at h
  · rename_i k m k' n
    obtain ⟨e1, -⟩ := Rd.imm_inv hy
    obtain ⟨e2, -⟩ := Rd.imm_inv hz
    cases hk : decide (k = k') with
    | false => rw [hk] at h; cases h
    | true =>
      obtain rfl := of_decide_eq_true hk
      rw [hk] at h
      simp only [cond_true] at h
      split at h
      · rename_i r hcmp
        obtain ⟨rfl, rfl⟩ := Prod.mk.inj (Option.some.inj h)
        exact ⟨.bool r, key _ (by rw [e1]; simp) (by rw [e1]; simp) (by rw [e1, e2]; exact cmpI_run hcmp), Rd.imm _ rfl⟩
      · obtain ⟨q, h1, rfl, h3⟩ := ariI_run (P := C.E.P) (w := w) (t := t) h hp
        exact ⟨_, key _ (by rw [e1]; simp) (by rw [e1]; simp) (by rw [e1, e2]; exact h1), Rd.imm _ h3⟩
  · rename_i sx sy
    obtain ⟨e1, k1⟩ := Rd.imm_inv hy
    obtain ⟨e2, k2⟩ := Rd.imm_inv hz
    split at h
    · rename_i r hb
      obtain ⟨rfl, rfl⟩ := Prod.mk.inj (Option.some.inj h)
      exact ⟨.bool r, key _ (by rw [e1]; simp) (by rw [e1]; simp) (by rw [e1, e2]; exact strB_run hb), Rd.imm _ rfl⟩
    · split at h
      · obtain ⟨rfl, rfl⟩ := Prod.mk.inj (Option.some.inj h)
        have hmx : maxLen = 9223372036854775807 := rfl
        refine ⟨.string (sx ++ sy), key _ (by rw [e1]; simp) (by rw [e1]; simp) ?_, Rd.imm _ ?_⟩
        · rw [e1, e2]
          have : ¬ ((sx.size + sy.size : Nat) : Int) > IntKind.i64.max := by
            simp only [IntKind.max, IntKind.signed, IntKind.bits]
            simp
            omega
          simp only [binOp, Op.stringOp, if_neg this]
          rfl
        · simp [okV, ByteArray.size_append]
          exact hp
      · cases h
  · rename_i b1 b2
    obtain ⟨e1, -⟩ := Rd.imm_inv hy
    obtain ⟨e2, -⟩ := Rd.imm_inv hz
    cases hb : isBoolT C.E t with
    | false => rw [hb] at h; cases h
    | true =>
      rw [hb] at h
      have hu := isBoolT_ok hb
      simp only [cond_true] at h
      cases op <;> simp only at h <;> first | (cases h; done) | obtain ⟨rfl, rfl⟩ := Prod.mk.inj (Option.some.inj h)
      · exact ⟨.bool (b1 == b2), key _ (by rw [e1]; simp) (by rw [e1]; simp) (by rw [e1, e2]; first | exact (eql_run (equal_of (eqIn_bool hu)) (.inl ⟨_, rfl⟩)).1 | exact (eql_run (equal_of (eqIn_bool hu)) (.inl ⟨_, rfl⟩)).2), Rd.imm _ rfl⟩
      · exact ⟨.bool (!(b1 == b2)), key _ (by rw [e1]; simp) (by rw [e1]; simp) (by rw [e1, e2]; first | exact (eql_run (equal_of (eqIn_bool hu)) (.inl ⟨_, rfl⟩)).1 | exact (eql_run (equal_of (eqIn_bool hu)) (.inl ⟨_, rfl⟩)).2), Rd.imm _ rfl⟩
  · cases hb : isSlT C.E t with
    | false => rw [hb] at h; cases h
    | true =>
      rw [hb] at h
      obtain ⟨el, hu⟩ := isSlT_ok hb
      simp only [cond_true] at h
      cases op <;> simp only at h <;> first | (cases h; done) | obtain ⟨rfl, rfl⟩ := Prod.mk.inj (Option.some.inj h)
      · exact ⟨.bool true, key _ (by rw [hy]; simp) (by rw [hy]; simp) (by rw [hy, hz]; first | exact (eql_run (equal_of (eqIn_nn hu)) (.inr ⟨_, _, _, rfl⟩)).1 | exact (eql_run (equal_of (eqIn_nn hu)) (.inr ⟨_, _, _, rfl⟩)).2), Rd.imm _ rfl⟩
      · exact ⟨.bool false, key _ (by rw [hy]; simp) (by rw [hy]; simp) (by rw [hy, hz]; first | exact (eql_run (equal_of (eqIn_nn hu)) (.inr ⟨_, _, _, rfl⟩)).1 | exact (eql_run (equal_of (eqIn_nn hu)) (.inr ⟨_, _, _, rfl⟩)).2), Rd.imm _ rfl⟩
  · cases hb : isSlT C.E t with
    | false => rw [hb] at h; cases h
    | true =>
      rw [hb] at h
      obtain ⟨el, hu⟩ := isSlT_ok hb
      obtain ⟨b, c, n, _, hy'⟩ := hy
      simp only [cond_true] at h
      cases op <;> simp only at h <;> first | (cases h; done) | obtain ⟨rfl, rfl⟩ := Prod.mk.inj (Option.some.inj h)
      · exact ⟨.bool false, key _ (by rw [hy']; simp) (by rw [hy']; simp) (by rw [hy', hz]; first | exact (eql_run (equal_of (eqIn_sn hu)) (.inr ⟨_, _, _, rfl⟩)).1 | exact (eql_run (equal_of (eqIn_sn hu)) (.inr ⟨_, _, _, rfl⟩)).2), Rd.imm _ rfl⟩
      · exact ⟨.bool true, key _ (by rw [hy']; simp) (by rw [hy']; simp) (by rw [hy', hz]; first | exact (eql_run (equal_of (eqIn_sn hu)) (.inr ⟨_, _, _, rfl⟩)).1 | exact (eql_run (equal_of (eqIn_sn hu)) (.inr ⟨_, _, _, rfl⟩)).2), Rd.imm _ rfl⟩
  · rename_i xs
    cases hb : isSlT C.E t with
    | false => rw [hb] at h; cases h
    | true =>
      rw [hb] at h
      obtain ⟨el, hu⟩ := isSlT_ok hb
      simp only [cond_true] at h
      cases op <;> simp only at h <;> first | (cases h; done) | obtain ⟨rfl, rfl⟩ := Prod.mk.inj (Option.some.inj h)
      rcases Rd.sl_inv hy with ⟨hxs, hev⟩ | ⟨_, ad, cap, hev, -⟩
      · exact ⟨.bool true, key _ (by rw [hev]; simp) (by rw [hev]; simp) (by rw [hev, hz]; exact (eql_run (equal_of (eqIn_nn hu)) (.inr ⟨_, _, _, rfl⟩)).1), true, rfl, fun _ => hxs⟩
      · exact ⟨.bool false, key _ (by rw [hev]; simp) (by rw [hev]; simp) (by rw [hev, hz]; exact (eql_run (equal_of (eqIn_sn hu)) (.inr ⟨_, _, _, rfl⟩)).1), false, rfl, fun h => by cases h⟩
  · cases h

theorem v_un {op : UnOp} {t : TypeId} {y : Operand} (ho : o.op = .unOp op t y) (h : unX op (s.ev C.E y) = some (p, x)) (hp : p) : VOp C s o x := by
  refine VOp.pure_ fun F σ w a hi hr => ?_
  have hy := hr y (by simp [ho, Op.operands])
  have key : ∀ v, (Op.unary op (a.eval y)).run C.E.P w = .ok v w → (execOp a.eval o).run C.E.P w = .ok (.value v) w := by
    intro v hv
    simp [execOp, ho, hv]
  generalize s.ev C.E y = xy at *
  unfold unX at h
  split at h
  · obtain ⟨e1, -⟩ := Rd.imm_inv hy
    cases op <;> simp only at h <;> first | (cases h; done) | obtain ⟨rfl, rfl⟩ := Prod.mk.inj (Option.some.inj h)
    exact ⟨_, key _ (by rw [e1]; simp [Op.unary]), Rd.imm _ rfl⟩
  · obtain ⟨e1, -⟩ := Rd.imm_inv hy
    cases op <;> simp only at h <;> first | (cases h; done) | obtain ⟨rfl, rfl⟩ := Prod.mk.inj (Option.some.inj h)
    exact ⟨_, key _ (by rw [e1]; simp only [Op.unary, Op.intArith, inR_wrap hp]; rfl), Rd.imm _ (inR_ok hp)⟩
  · cases h

theorem fieldOff_ok {E : Env} {t : TypeId} {f k : Nat} (h : fieldOff E t f = some k) : ∃ fs fd i, E.P.underlying t = some (.struct fs) ∧ fs[f]? = some fd ∧ fd.offset = k ∧ E.P.info? fd.type = some i ∧ i.size ≠ 0 := by
  unfold fieldOff at h
  split at h
  · rename_i e he
    obtain ⟨⟨h1, -⟩, rfl⟩ := findT_ok he
    split at h
    · rename_i fs hd
      split at h
      · rename_i fd hfd
        split at h
        · rename_i e2 he2
          obtain ⟨⟨-, i, hi, hs, -⟩, ht⟩ := findT_ok he2
          cases hb : Nat.beq e2.size 0 with
          | true => rw [hb] at h; cases h
          | false =>
            rw [hb] at h
            simp at h
            exact ⟨fs, fd, i, by rw [h1, hd], hfd, h, by rw [← ht]; exact hi, by rw [hs]; exact Nat.ne_of_beq_eq_false hb⟩
        · cases h
      · cases h
    · cases h
  · cases h

theorem v_fieldAddr {t : TypeId} {y : Operand} {f k : Nat} (ho : o.op = .fieldAddr t y f) (hk : fieldOff C.E t f = some k) (h : addX k (s.ev C.E y) = some (p, x)) : VOp C s o x := by
  obtain ⟨fs, fd, i, hu, hf, hoff, hi2, hsz⟩ := fieldOff_ok hk
  refine VOp.pure_ fun F σ w a hi hr => ?_
  have hy := hr y (by simp [ho, Op.operands])
  have key : ∀ ad, a.eval y = .pointer (some ad) → (execOp a.eval o).run C.E.P w = .ok (.value (.pointer (some (ad.add k)))) w := by
    intro ad hv
    simp [execOp, ho, hv, Instr.fieldAt, run_underlying hu, hf, Instr.sureAddr, fieldPlace, sizeOf, typeInfo, hi2, hsz, hoff]
  generalize s.ev C.E y = xy at *
  cases xy <;> simp only [addX] at h <;> first | (cases h; done) | obtain ⟨rfl, rfl⟩ := Prod.mk.inj (Option.some.inj h)
  · obtain ⟨b, c, n, h1, h2⟩ := hy
    exact ⟨_, key _ h2, b, c, n, h1, by rw [add_mk]⟩
  · obtain ⟨ad, h1, h2⟩ := hy
    exact ⟨_, key _ h2, ad, h1, by rw [add_add]⟩
  · obtain ⟨b, c, n, h1, h2⟩ := hy
    exact ⟨_, key _ h2, b, c, n, h1, by rw [add_mk, Nat.add_assoc]⟩

theorem toDs_ok {w : World} {F : Nat → Prop} {σ : Sg} : ∀ {xs : List X} {ds : List D}, toDs xs = some ds → ds.length = xs.length ∧ ∀ (i : Nat) (x : X) (v : Value), xs[i]? = some x → RdX w F σ x v → ∃ d, ds[i]? = some d ∧ Rd w F d v
  | [], ds, h => by simp [toDs] at h; subst h; exact ⟨rfl, fun i x v h => by simp at h⟩
  | .d y :: r, ds, h => by
    simp only [toDs, Option.map_eq_some_iff] at h
    obtain ⟨ds', h1, rfl⟩ := h
    obtain ⟨h2, h3⟩ := toDs_ok (w := w) (F := F) (σ := σ) h1
    refine ⟨by simp [h2], fun i x v hi hv => ?_⟩
    cases i with
    | zero => simp at hi; subst hi; exact ⟨y, by simp, hv⟩
    | succ i => simpa using h3 i x v (by simpa using hi) hv
  | .nilS :: r, ds, h => by
    simp only [toDs, Option.map_eq_some_iff] at h
    obtain ⟨ds', h1, rfl⟩ := h
    obtain ⟨h2, h3⟩ := toDs_ok (w := w) (F := F) (σ := σ) h1
    refine ⟨by simp [h2], fun i x v hi hv => ?_⟩
    cases i with
    | zero => simp at hi; subst hi; exact ⟨.sl [], by simp, by rw [show v = .slice none 0 0 from hv]; exact .slnil⟩
    | succ i => simpa using h3 i x v (by simpa using hi) hv
  | .tup _ :: r, ds, h => by simp [toDs] at h
  | .ptr _ _ :: r, ds, h => by simp [toDs] at h
  | .at_ _ _ :: r, ds, h => by simp [toDs] at h
  | .own _ :: r, ds, h => by simp [toDs] at h
  | .pel _ _ _ _ :: r, ds, h => by simp [toDs] at h
  | .mayb _ :: r, ds, h => by simp [toDs] at h
  | .und :: r, ds, h => by simp [toDs] at h
  | .top :: r, ds, h => by simp [toDs] at h

theorem isAgg_run {P : Program} {e : TE} {w : World} (h : e.ok P) : (isAgg e.t).run P w = .ok e.isAgg w := by
  unfold isAgg TE.isAgg
  simp only [Sem.run_bind, run_underlying h.1, Result.andThen_ok]
  cases e.desc <;> simp
theorem sizeOf_run {P : Program} {e : TE} {w : World} (h : e.ok P) : (sizeOf e.t).run P w = .ok e.size w := by
  obtain ⟨_, i, hi, hs, _⟩ := h
  simp [sizeOf, typeInfo, hi, hs]

theorem loadAt_agg {E : Env} {e : TE} {w : World} {ad : Addr} {vs : List Value} (h : e.ok E.P) (hag : e.isAgg = true) (hl : vs.length = e.size) (hc : ∀ (j : Nat) v, vs[j]? = some v → w.cell? (ad.add j) = some v) :
    (Instr.loadAt e.t (.pointer (some ad))).run E.P w = .ok (.agg vs.toArray) w := by
  simp only [Instr.loadAt, Instr.sureAddr, loadVar, Sem.run_bind, Sem.run_pure, Result.andThen_ok, isAgg_run h, hag, if_true, sizeOf_run h]
  rw [← hl, run_loadCells_list (P := E.P) (w := w) ad vs hc]
  simp
theorem loadAt_one {E : Env} {e : TE} {w : World} {ad : Addr} {v : Value} (h : e.ok E.P) (hag : e.isAgg = false) (hc : w.cell? ad = some v) : (Instr.loadAt e.t (.pointer (some ad))).run E.P w = .ok v w := by
  simp only [Instr.loadAt, Instr.sureAddr, loadVar, Sem.run_bind, Sem.run_pure, Result.andThen_ok, isAgg_run h, hag]
  simp [hc]

theorem cell_vs {w : World} {b : Nat} {vs : List Value} {ty : TypeId} {fz : Nat × Nat} (h : w.heap[b]? = some (.cells vs.toArray ty fz)) (i : Nat) : w.cell? ⟨b, i, none⟩ = vs[i]? := by
  unfold World.cell?
  rw [h]
  simp

theorem Rd.one_of {w : World} {F : Nat → Prop} {d : D} {v : Value} (h : Rd w F d v) (hv : v.oneCell' = true) : d.one = true := by
  cases h with
  | agg => simp [Value.oneCell'] at hv
  | _ => rfl

/-- Some cells in a row, read as one value. -/
theorem rd_agg {w : World} {F : Nat → Prop} {ds : List D} {vs : List Value} (hl : ds.length = vs.length) (h1 : ∀ v ∈ vs, v.oneCell' = true)
    (h : ∀ (i : Nat) v, vs[i]? = some v → ∃ d, ds[i]? = some d ∧ Rd w F d v) : Rd w F (.agg ds) (.agg vs.toArray) := by
  refine .agg ds vs hl (fun c hc => ?_) fun i c v hc hv => ?_
  · obtain ⟨i, hi⟩ := List.getElem?_of_mem hc
    have hlt : i < vs.length := by rw [← hl]; exact (List.getElem?_eq_some_iff.1 hi).1
    obtain ⟨d, hd, hr⟩ := h i vs[i] (List.getElem?_eq_getElem hlt)
    rw [hi] at hd
    cases hd
    exact hr.one_of (h1 _ (List.getElem_mem hlt))
  · obtain ⟨d, hd, hr⟩ := h i v hv
    rw [hc] at hd
    cases hd
    exact hr

theorem drop_take_get {α : Type} (l : List α) (k n j : Nat) (v : α) (h : ((l.drop k).take n)[j]? = some v) : l[k + j]? = some v ∧ j < n := by
  rw [List.getElem?_take] at h
  split at h
  · rename_i hj; rw [List.getElem?_drop] at h; exact ⟨h, hj⟩
  · cases h

theorem load_ok {E : Env} {B : Nat} {F : Nat → Prop} {σ : Sg} {ob0 : List AObj} {w : World} {t : TypeId} {xy x : X} {p : Prop} {v0 : Value} (hi : WInv E B F σ ob0 w) (hy : RdX w F σ xy v0) (h : loadX E ob0 t xy = some (p, x)) :
    ∃ v, (Instr.loadAt t v0).run E.P w = .ok v w ∧ RdX w F σ x v := by
  have key : ∀ {t : TypeId} (v : Value), (Instr.loadAt t v0).run E.P w = .ok v w → (Instr.loadAt t v0).run E.P w = .ok v w := fun _ h => h
  unfold loadX at h
  split at h
  · cases h
  rename_i e he
  obtain ⟨hok, rfl⟩ := findT_ok he
  split at h
  · rename_i ob off
    obtain ⟨b, cc, nn, h1, h2⟩ := hy
    split at h
    · rename_i ty c hob
      obtain ⟨vs, hh, hlen, hone, hcs, -⟩ := hi.obs ob _ _ hob h1
      have whole : ∀ ds, toDs ((c.cells.drop off).take e.size) = some ds → Nat.beq ds.length e.size = true → e.isAgg = true →
          ∃ v, (Instr.loadAt e.t v0).run E.P w = .ok v w ∧ RdX w F σ (.d (.agg ds)) v := by
        intro ds hds hb hag
        obtain ⟨hl, hx⟩ := toDs_ok (w := w) (F := F) (σ := σ) hds
        have hsz : ds.length = e.size := Nat.eq_of_beq_eq_true hb
        have hl2 : ((vs.drop off).take e.size).length = e.size := by
          rw [← hsz, hl]
          simp only [List.length_take, List.length_drop, hlen]
          omega
        refine ⟨_, key _ ?_, rd_agg (ds := ds) (vs := (vs.drop off).take e.size) (by rw [hl2, hsz]) (fun v hv => hone v (List.mem_of_mem_drop (List.mem_of_mem_take hv))) fun i v hv => ?_⟩
        · rw [h2]
          refine loadAt_agg hok hag hl2 fun j v hj => ?_
          rw [add_mk, cell_vs hh]
          exact (drop_take_get vs off e.size j v hj).1
        · obtain ⟨hv1, hv2⟩ := drop_take_get vs off e.size i v hv
          have hlt : off + i < c.cells.length := by rw [hlen]; exact (List.getElem?_eq_some_iff.1 hv1).1
          have hcx : c.cells[off + i]? = some c.cells[off + i] := List.getElem?_eq_getElem hlt
          refine hx i c.cells[off + i] v ?_ (hcs _ _ _ hcx hv1)
          rw [List.getElem?_take, if_pos hv2, List.getElem?_drop]
          exact hcx
      cases hag : e.isAgg with
      | true =>
        rw [hag] at h
        simp only [cond_true] at h
        split at h
        · rename_i cs
          cases hb : Nat.beq cs.length e.size with
          | false => rw [hb] at h; cases h
          | true =>
            rw [hb] at h
            obtain ⟨rfl, rfl⟩ := Prod.mk.inj (Option.some.inj h)
            refine whole cs ?_ hb hag
            have hsz : cs.length = e.size := Nat.eq_of_beq_eq_true hb
            have : ∀ l : List D, toDs (l.map X.d) = some l := by
              intro l
              induction l with
              | nil => rfl
              | cons d r ih => simp [toDs, ih]
            simp only [VC.cells, X.cells, D.cells, List.drop_zero]
            rw [List.take_of_length_le (by simp [hsz])]
            exact this cs
        · split at h
          · rename_i ds hds
            cases hb : Nat.beq ds.length e.size with
            | false => rw [hb] at h; cases h
            | true =>
              rw [hb] at h
              obtain ⟨rfl, rfl⟩ := Prod.mk.inj (Option.some.inj h)
              exact whole ds hds hb hag
          · cases h
      | false =>
        rw [hag] at h
        simp only [cond_false] at h
        split at h
        · rename_i z hz
          rw [fw_eq h]
          have hlt : off < vs.length := by rw [← hlen]; exact (List.getElem?_eq_some_iff.1 hz).1
          have hv : vs[off]? = some vs[off] := List.getElem?_eq_getElem hlt
          refine ⟨vs[off], key _ ?_, hcs off z _ hz hv⟩
          rw [h2]
          exact loadAt_one hok hag (by rw [cell_vs hh]; exact hv)
        · cases h
    · cases h
  · rename_i z off
    obtain ⟨ad, ⟨hF, hone, hm⟩, h2⟩ := hy
    have whole : ((z.cells.drop off).take e.size).length = e.size → e.isAgg = true →
        ∃ v, (Instr.loadAt e.t v0).run E.P w = .ok v w ∧ RdX w F σ (.d (.agg ((z.cells.drop off).take e.size))) v := by
      intro hl hag
      have hex : ∀ j, ∃ u, ∀ c, z.cells[j]? = some c → w.cell? (ad.add j) = some u ∧ Rd w F c u := by
        intro j
        cases hz : z.cells[j]? with
        | none => exact ⟨undef, fun c h => by cases h⟩
        | some c => obtain ⟨u, h1, h2⟩ := hm j c hz; exact ⟨u, fun c' h => by cases h; exact ⟨h1, h2⟩⟩
      let u : Nat → Value := fun j => Classical.choose (hex j)
      have hu : ∀ j c, z.cells[j]? = some c → w.cell? (ad.add j) = some (u j) ∧ Rd w F c (u j) := fun j => Classical.choose_spec (hex j)
      let vs : List Value := (List.range e.size).map fun j => u (off + j)
      have hvl : vs.length = e.size := by simp [vs]
      have hvj : ∀ (j : Nat) v, vs[j]? = some v → v = u (off + j) ∧ j < e.size := by
        intro j v hj
        have hlt : j < e.size := by rw [← hvl]; exact (List.getElem?_eq_some_iff.1 hj).1
        simp [vs, hlt] at hj
        exact ⟨hj.symm, hlt⟩
      have hzj : ∀ j, j < e.size → ∃ c, z.cells[off + j]? = some c ∧ ((z.cells.drop off).take e.size)[j]? = some c := by
        intro j hj
        have hlt : j < ((z.cells.drop off).take e.size).length := by rw [hl]; exact hj
        have h1 := List.getElem?_eq_getElem hlt
        exact ⟨_, (drop_take_get _ _ _ _ _ h1).1, h1⟩
      refine ⟨.agg vs.toArray, key _ ?_, rd_agg (vs := vs) (by rw [hvl]; exact hl) (fun v hv => ?_) fun i v hv => ?_⟩
      · rw [h2]
        refine loadAt_agg hok hag hvl fun j v hj => ?_
        obtain ⟨rfl, hlt⟩ := hvj j v hj
        obtain ⟨c, hc, _⟩ := hzj j hlt
        rw [add_add]
        exact (hu _ c hc).1
      · obtain ⟨i, hi'⟩ := List.getElem?_of_mem hv
        obtain ⟨rfl, hlt⟩ := hvj i v hi'
        obtain ⟨c, hc, _⟩ := hzj i hlt
        exact (hu _ c hc).2.one (hone c (List.mem_of_getElem? hc))
      · obtain ⟨rfl, hlt⟩ := hvj i v hv
        obtain ⟨c, hc, hc'⟩ := hzj i hlt
        exact ⟨c, hc', (hu _ c hc).2⟩
    cases hag : e.isAgg with
    | true =>
      rw [hag] at h
      simp only [cond_true] at h
      split at h
      · split at h
        · rename_i cs
          cases hb : Nat.beq cs.length e.size with
          | false => rw [hb] at h; cases h
          | true =>
            rw [hb] at h
            obtain ⟨rfl, rfl⟩ := Prod.mk.inj (Option.some.inj h)
            have hsz : cs.length = e.size := Nat.eq_of_beq_eq_true hb
            have := whole (by simp [D.cells, hsz]) hag
            simp only [D.cells, List.drop_zero] at this
            rw [List.take_of_length_le (by omega)] at this
            exact this
        · cases h
      · rename_i hne
        cases hb : Nat.beq ((z.cells.drop off).take e.size).length e.size with
        | false => rw [hb] at h; cases h
        | true =>
          rw [hb] at h
          obtain ⟨rfl, rfl⟩ := Prod.mk.inj (Option.some.inj h)
          exact whole (Nat.eq_of_beq_eq_true hb) hag
    | false =>
      rw [hag] at h
      simp only [cond_false] at h
      split at h
      · rename_i c hc
        obtain ⟨rfl, rfl⟩ := Prod.mk.inj (Option.some.inj h)
        obtain ⟨u, hu1, hu2⟩ := hm off c hc
        refine ⟨u, key _ ?_, hu2⟩
        rw [h2]
        exact loadAt_one hok hag hu1
      · cases h
  · cases h

theorem v_load {t : TypeId} {y : Operand} (ho : o.op = .load t y) (h : loadX C.E s.ob t (s.ev C.E y) = some (p, x)) : VOp C s o x := by
  refine VOp.pure_ fun F σ w a hi hr => ?_
  obtain ⟨v, h1, h2⟩ := load_ok hi (hr y (by simp [ho, Op.operands])) h
  exact ⟨v, by simp [execOp, ho, h1], h2⟩
end
end Go.Abs
