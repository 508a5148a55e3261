/- The engine's rule for regions whose order is drawn: what is reckoned in the text's order holds in every order that the edges allow; Structs that are built; and the steps of a walk, each in the form in which it is applied; From a row's reading of its arguments to the engine's data, and from the engine's contract of a law to what the row asks; From the engine's contract of a law to the row's statement; The store of a drawn region, and its object beside the state; The walk through a region whose order is drawn and that holds several effects; In a region whose order is drawn: a literal of a slice . Conditions: each part's own, as it says. -/
import Derived.Test.YthieohigmpfknaaGreatDoorGA
import Derived.Test.YthieohigmpfknaaGreatDoorGB
import Derived.Test.YthieohigmpfknaaGreatDoorGC
import Derived.Test.YthieohigmpfknaaGreatDoorGS
import Derived.Test.YthieohigmpfknaaGreatDoorMA
import Derived.Test.YthieohigmpfknaaGreatDoorMB
import Derived.Test.YthieohigmpfknaaGreatDoorMC
import Derived.Test.YthieohigmpfknaaGreatDoorMD
import Derived.Test.YthieohigmpfknaaGreatDoorEA
import Derived.Test.YthieohigmpfknaaGreatDoorEB
import Derived.Test.YthieohigmpfknaaGreatDoorEC
import Derived.Test.YthieohigmpfknaaGreatDoorCards
set_option linter.unusedVariables false
set_option linter.unusedSimpArgs false
/- The engine's rule for regions whose order is drawn: what is reckoned in the text's order holds in every order that the edges allow. Conditions: 'ordOK', asked of the region's text. -/
namespace Go.Abs
open Go Go.RowKit







theorem stps_append (s : St) (l m : List (Oper × Option X)) : stps s (l ++ m) = stps (stps s l) m := by
  induction l generalizing s with
  | nil => rfl
  | cons p r ih => obtain ⟨o, x⟩ := p; exact ih _







section
variable {C : Cx} {r : List It} {s : St} {Q : Exit → St → Prop}
end
end Go.Abs

/- Structs that are built; and the steps of a walk, each in the form in which it is applied. Conditions: each operation's own. -/
namespace Go.Abs
open Go Go.RowKit

section
variable {C : Cx} {s : St} {o : Oper} {x : X} {p : Prop}











section
variable {all : Array Oper} {pu : Bool} {K : St → Prop} {rest : List Oper} {tm : List (Nat × X)} {ob : List AObj} {d : Nat}
end

theorem enter6 {E : Env} {f : FuncId} {fn : Func} {c : Code} {d0 d1 d2 d3 d4 d5 : D} {rx : X} {N : Nat} (hf : E.P.funcs[f]? = some fn) (hN : fn.ntmps = N) (hb : fn.body = some c) (hle : Nat.ble 6 N = true)
    (h : ∀ (w0 : World) (F0 O : Nat → Prop), go ⟨E, w0, F0, N, ⟨O, 0, []⟩⟩ [.code c] ⟨[(0, .d d0), (1, .d d1), (2, .d d2), (3, .d d3), (4, .d d4), (5, .d d5)], []⟩ (EndIs ⟨E, w0, F0, N, ⟨O, 0, []⟩⟩ fn rx)) : Ev E f [d0, d1, d2, d3, d4, d5] rx :=
  Ev.enter hf hb hN (Nat.le_of_ble_eq_true hle) h
end
end Go.Abs

/- From a row's reading of its arguments to the engine's data, and from the engine's contract of a law to what the row asks. Conditions: each lemma's own. -/
namespace Go.Abs
open Go Go.RowKit Go.ChangeShapes Go.WideShapes








/-- An argument, as the engine reads it. -/
theorem value_D {H : Type} {enc : TypeId × Value → H} {P : Program} {w : World} {sp : Nat → Bool} {held : Bool} {r : Reach} {base : Nat} (l : List TypeId) (hc : closedB P l = true) {t : TypeId} {v : Value} {d : DataW H} {ps : List MemPlace} (ht : t ∈ l)
    (hok : Value.okWide P w r base t v) (h : DataW.Trod enc P w 0 sp held t v d ps) : ∃ x, Rd w (F0 w) x v ∧ HasTy P t x := by
  obtain ⟨fuel, hf⟩ := h
  obtain ⟨x, hx⟩ := trod_D l hc fuel t _ d ps ht hf
  refine ⟨x, ?_, hx.ty⟩
  have hct := List.all_eq_true.1 hc t ht
  have one : v.cells = #[v] → x.one = true → Rd w (F0 w) x v := by
    intro hv hx1
    have hxc : x.cells = [x] := by cases x <;> simp_all [D.one, D.cells]
    exact hx.rd 0 x v (by rw [hxc]; rfl) (by rw [hv]; rfl)
  have agg : ∀ ds : List D, x = .agg ds → (∃ cs, v = .agg cs ∧ cs.size = P.cellsOf t) → Rd w (F0 w) x v := by
    rintro ds rfl ⟨cs, rfl, -⟩
    have hl := hx.len
    have hrd := hx.rd
    simp only [D.cells, Value.cells] at hl hrd
    have := Rd.agg (w := w) (F := F0 w) ds cs.toList hl hx.one hrd
    simpa using this
  cases hx.ty with
  | bool b hu => obtain ⟨b', rfl⟩ := okWide_bool hu hok; exact one rfl rfl
  | int n hu => obtain ⟨n', rfl⟩ := okWide_int hu hok; exact one rfl rfl
  | str s hu => obtain ⟨s', rfl⟩ := okWide_string hu hok; exact one rfl rfl
  | sl xs hu hxs => obtain ⟨a, n, c, rfl⟩ := okWide_slice hu hok; exact one rfl rfl
  | struct parts hu hl hp => exact agg _ rfl (okWide_struct hu hok)
  | arr parts hu hl hp =>
    refine agg _ rfl ?_
    unfold Value.okWide at hok
    rw [hu] at hok
    obtain ⟨cs, h1, h2, -⟩ := hok
    exact ⟨cs, h1, h2⟩
/-- All arguments. -/
theorem args_D {H : Type} {enc : TypeId × Value → H} {P : Program} {w : World} {sp : Nat → Bool} {held : Bool} {r : Reach} {base : Nat} (l : List TypeId) (hc : closedB P l = true) : ∀ {ts : List TypeId} {vs : List Value} {ds : List (DataW H)} {ps : List MemPlace},
    DataW.TrodAll enc P w 0 sp held ts vs ds ps → (∀ t ∈ ts, t ∈ l) → (∀ (j : Nat) t v, ts[j]? = some t → vs[j]? = some v → Value.okWide P w r base t v) →
    ∃ xs : List D, xs.length = vs.length ∧ vs.length = ts.length ∧ (∀ (i : Nat) x v, xs[i]? = some x → vs[i]? = some v → Rd w (F0 w) x v) ∧ ∀ (i : Nat) t x, ts[i]? = some t → xs[i]? = some x → HasTy P t x
  | [], [], [], _, _, _, _ => ⟨[], rfl, rfl, fun i x v h => by simp at h, fun i t x h => by simp at h⟩
  | [], [], _ :: _, _, h, _, _ => h.elim
  | [], _ :: _, _, _, h, _, _ => h.elim
  | _ :: _, [], _, _, h, _, _ => h.elim
  | _ :: _, _ :: _, [], _, h, _, _ => h.elim
  | t :: ts, v :: vs, d :: ds, ps, h, ht, hok => by
    obtain ⟨p, q, h1, h2, -⟩ := h
    obtain ⟨x, x1, x2⟩ := value_D l hc (ht t (by simp)) (hok 0 t v rfl rfl) h1
    obtain ⟨xs, a1, a2, a3, a4⟩ := args_D l hc h2 (fun t' ht' => ht t' (by simp [ht'])) (fun j t' v' h1 h2 => hok (j + 1) t' v' (by simpa using h1) (by simpa using h2))
    refine ⟨x :: xs, by simp [a1], by simp [a2], fun i y u hy hu => ?_, fun i t' y hy hu => ?_⟩
    · cases i with
      | zero => simp at hy hu; subst hy hu; exact x1
      | succ i => exact a3 i y u (by simpa using hy) (by simpa using hu)
    · cases i with
      | zero => simp at hy hu; subst hy hu; exact x2
      | succ i => exact a4 i t' y (by simpa using hy) (by simpa using hu)
end Go.Abs

/- From the engine's contract of a law to the row's statement. Conditions: each lemma's own. -/
namespace Go.Abs
open Go Go.RowKit Go.ChangeShapes Go.WideShapes



theorem lift_true {H : Type} {enc : TypeId × Value → H} {C : Checked} {os : Os} {f : FuncId} {fn : Func} {s : ChangeSpec} {laid : List (String × DataW Unit)} {tb : TypeId} (l : List TypeId) (own : ownKnob C.prog.godebug = none) (started : os.Started) (noInit : C.prog.inits.idxOf? f = none) (hfn : C.prog.funcs[f]? = some fn)
    (witness : ∃ (w : World) (tape : Tape) (i : Input), w.os = os ∧ (w.forCall tape i).Shaped C.prog ∧ i.vars = [] ∧ Input.okWide C.prog (w.forCall tape i) .any w.heap.size f i ∧
      ((s.pre enc C.prog fn [] false (w.forCall tape i).memory i.args ∧ laidMetH C.prog laid (w.forCall tape i).memory) ∧ sizedMet enc C.prog fn (OpenSpec.ofChange s) false (w.forCall tape i).memory i.args) ∧ ({} : Assume).holds C.prog (lone (Frame.enter C.prog f i.args .normal) [] (w.forCall tape i)))
    (hvars : s.vars = []) (hres : fn.resultTypes = #[tb]) (htb : C.prog.underlying tb = some .bool) (hs : ∀ ds : List (DataW H), ds.length = fn.params.size → s.fn H ds = { results := [.lit (.bool true)], args := ds })
    (hlaid : laidOutB C.prog = true) (hr : (fn.params.toList.all fun t => C.prog.readableRec t && decide (t < C.prog.types.size)) = true) (hc : closedB C.prog l = true) (hin : (fn.params.toList.all fun t => l.contains t) = true)
    (hcall : ∀ (W : World) (args : Array Value) (xs : List D), laidMetH C.prog laid W → W.ShapedOpen C.prog → xs.length = args.size → args.size = fn.params.size → (∀ (i : Nat) x v, xs[i]? = some x → args.toList[i]? = some v → Rd W (F0 W) x v) →
      (∀ (i : Nat) t x, fn.params.toList[i]? = some t → xs[i]? = some x → HasTy C.prog t x) → Calls C.prog f args W fun e W' => e = .returned (.bool true) ∧ Below W.heap.size W W') :
    ReturnsInHanded {} C os f .any (fun w args => (s.pre enc C.prog fn [] false w args ∧ laidMetH C.prog laid w) ∧ sizedMet enc C.prog fn (OpenSpec.ofChange s) false w args) (s.post enc C.prog fn false true false false) := by
  refine returnsInHanded_of_calls own started noInit witness ?_
  intro w tape i _ hsh _ hok hpre _
  obtain ⟨_, _, _, fn', hfn', _, _, _, hsz, hval⟩ := hok
  have e : fn' = fn := Option.some.inj (hfn'.symm.trans hfn)
  subst e
  obtain ⟨⟨⟨ds, gs, before, hw, -⟩, hx⟩, -⟩ := hpre
  have hw' := DataW.Whole.of_heap (w' := w.forCall tape i) (by rfl) hw
  have hx' : laidMetH C.prog laid (w.forCall tape i) := hx.of_heap (by rfl)
  obtain ⟨p, q, hA, -, -, -, -⟩ := id hw'
  obtain ⟨xs, x1, x2, x3, x4⟩ := args_D (r := .any) (base := w.heap.size) l hc hA (fun t ht => by simpa using List.all_eq_true.1 hin t ht) (fun j t v h1 h2 => hval j t v (by simpa using h1) (by simpa using h2))
  have hsize : i.args.size = fn'.params.size := hsz
  refine (hcall (w.forCall tape i) i.args xs hx' hsh (by simpa using x1) hsize x3 x4).mono fun e W' ⟨he, hb⟩ => ?_
  subst he
  exact ChangeSpec.post_blind (post_true hlaid hw' hvars hres htb hs hr hb)
/-! ## What a datum of a type is -/
end Go.Abs

/- The store of a drawn region, and its object beside the state. Conditions: each rule's own. -/
namespace Go.Abs
open Go Go.RowKit

theorem WInv.kill {E : Env} {B : Base} {F : Nat → Prop} {σ : Sg} {ob : List AObj} {w : World} (h : WInv E B F σ ob w) (i : Nat) : WInv E B F σ (ob.set i .dead) w := by
  have key : ∀ (o : Nat) x, (ob.set i .dead)[o]? = some x → x.live = true → ob[o]? = some x := by
    intro o x hx hl
    rw [List.getElem?_set] at hx
    split at hx
    · split at hx
      · cases hx; simp [AObj.live] at hl
      · cases hx
    · exact hx
  refine ⟨h.flt, h.glob, by simp [h.len], fun o x p hx hp => ?_, fun o o' x x' p p' hne hx hl hx' hl' hp hp' => h.inj o o' x x' p p' hne (key o x hx hl) hl (key o' x' hx' hl') hl' hp hp', h.pre⟩
  cases hlv : x.live with
  | false => cases x <;> simp [AObj.live] at hlv <;> trivial
  | true => exact h.obs o x p (key o x hx hlv) hp
section
variable {C : Cx} {s : St} {o : Oper} {x : X}
theorem st_store {ob0 : List AObj} {t ty : TypeId} {y z : Operand} {i off : Nat} {c : VC} {e : TE} (ho : o.op = .store t y z) (hdst : o.dst = none) (hy : s.ev C.E y = .ptr i off) (hz : s.ev C.E z = x) (hh : x.held = true) (hob : ob0[i]? = some (.var ty c))
    (he : findT C.E.T t = some e) (hsz : Nat.beq x.cells.length e.size = true) (hle : Nat.ble (off + x.cells.length) c.cells.length = true) : StOp C s (ob0.set i .dead) o (fun β w F σ => WInv C.E C.base F σ (bif β then ob0.set i (.var ty (storeC c off x)) else ob0) w) := by
  obtain ⟨hok, rfl⟩ := findT_ok he
  have hsz' := Nat.eq_of_beq_eq_true hsz
  have hle' := Nat.le_of_ble_eq_true hle
  intro F σ w a K Q h1 hdead hi hr hK
  replace hi : WInv C.E C.base F σ ob0 w := hi
  have hv := hr z (by simp [ho, Op.operands])
  rw [hz] at hv
  have hp := hr y (by simp [ho, Op.operands])
  rw [hy] at hp
  obtain ⟨b, cc, n, p1, p2⟩ := hp
  obtain ⟨vs, q1, q2, q3, q4, q5, q6⟩ := hi.obs i _ _ hob p1
  obtain ⟨c1, c2, c3⟩ := hv.cells_ hh
  have hrow := run_storeCells_at C.E.P b off ty (a.eval z).cells.toList 0 vs.toArray w q1 (by simp; omega) c2
  have hrun : (execOp a.eval o).run C.E.P w = .ok .skip (w.setRow b (vs.take off ++ (a.eval z).cells.toList ++ vs.drop (off + (a.eval z).cells.toList.length)).toArray) := by
    simp only [execOp, ho, Instr.storeAt, p2, Instr.sureAddr, storeVar, Sem.run_bind, Sem.run_pure, Result.andThen_ok, sizeOf_run hok]
    rw [if_neg (by rw [c1, hsz']; simp)]
    simp only [Nat.add_zero] at hrow
    rw [hrow]
    rfl
  unfold Oper.wp
  rw [hrun]
  simp only [Oper.upon]
  rw [hdst]
  have hnew : WInv C.E C.base F σ (ob0.set i (.var ty (storeC c off x))) (w.setRow b (vs.take off ++ (a.eval z).cells.toList ++ vs.drop (off + (a.eval z).cells.toList.length)).toArray) := by
    refine hi.turn hob rfl p1 q6 ?_
    have keep : ∀ k, F k → (w.setRow b (vs.take off ++ (a.eval z).cells.toList ++ vs.drop (off + (a.eval z).cells.toList.length)).toArray).heap[k]? = w.heap[k]? := fun k hk => setRow_other w b _ k (fun e => q6 (e ▸ hk))
    refine ⟨_, setRow_heap w b vs.toArray _ ty _ q1, ?_, fun v hv => ?_, fun j xj v hj hvj => ?_, q5, q6⟩
    · rw [storeC_cells hle']
      simp only [List.length_append, List.length_take, List.length_drop, q2, Array.length_toList, c1]
    · rw [List.mem_append, List.mem_append] at hv
      rcases hv with (hv | hv) | hv
      · exact q3 v (List.mem_of_mem_take hv)
      · exact c2 v hv
      · exact q3 v (List.mem_of_mem_drop hv)
    · rw [storeC_cells hle'] at hj
      refine RdX.mono ?_ (fun _ h => h) keep (fun _ _ h => h)
      have hcl : (a.eval z).cells.toList.length = x.cells.length := by simp [c1]
      rw [hcl] at hvj
      rcases Nat.lt_or_ge j off with hlt | hge
      · have h1 : (c.cells.take off).length = off := by rw [List.length_take]; omega
        have h2 : (vs.take off).length = off := by rw [List.length_take, ← q2]; omega
        rw [List.append_assoc, List.getElem?_append_left (by omega), List.getElem?_take, if_pos hlt] at hj
        rw [List.append_assoc, List.getElem?_append_left (by omega), List.getElem?_take, if_pos hlt] at hvj
        exact q4 j xj v hj hvj
      · have h1 : (c.cells.take off).length = off := by rw [List.length_take]; omega
        have h2 : (vs.take off).length = off := by rw [List.length_take, ← q2]; omega
        rw [List.append_assoc, List.getElem?_append_right (by omega), h1] at hj
        rw [List.append_assoc, List.getElem?_append_right (by omega), h2] at hvj
        rcases Nat.lt_or_ge (j - off) x.cells.length with hlt | hge2
        · rw [List.getElem?_append_left hlt] at hj
          rw [List.getElem?_append_left (by omega)] at hvj
          exact c3 _ xj v hj hvj
        · rw [List.getElem?_append_right hge2, List.getElem?_drop] at hj
          rw [List.getElem?_append_right (by omega), hcl, List.getElem?_drop] at hvj
          exact q4 _ xj v hj hvj
  refine hK _ (h1.setRow q5 _) ?_ (fun k hk => setRow_other w b _ k (fun e => q6 (e ▸ hk))) hnew
  have := hnew.kill i
  rwa [List.set_set] at this
end
section
variable {C : Cx} {r : List It} {Q : Exit → St → Prop} {tm : List (Nat × X)} {ob : List AObj}
theorem StOp.steq {s s' : St} {obd : List AObj} {o : Oper} {Scr : Bool → World → (Nat → Prop) → Sg → Prop} (h : StOp C s obd o Scr) (he : StEq s s') : StOp C s' obd o Scr := by
  intro F σ w a K Q' h1 h2 h3 h4 h5
  refine h F σ w a K Q' h1 h2 h3 (fun y hy => ?_) h5
  rw [← he.ev]
  exact h4 y hy
/-- A drawn region with one store into an object that nobody else looks at. -/
theorem qCst {id : Nat} {l : List Oper} (pre : List Oper) (o : Oper) (post : List Oper) (i : Nat) {new : AObj} (hl : l = pre ++ o :: post) (ho : ordOK l = true) (hd : o.dst = none) (hg : o.guard = none)
    (h : SGo C l.toArray true pre ⟨tm, ob.set i .dead⟩ (fun s1 => StOp C s1 (ob.set i .dead) o (fun β w F σ => WInv C.E C.base F σ (bif β then ob.set i new else ob) w) ∧
      SGo C l.toArray true post s1 (fun s' => go C r ⟨s'.tm, ob.set i new⟩ Q))) : go C (.code (.region id l.toArray true) :: r) ⟨tm, ob⟩ Q := by
  intro a w hr
  obtain ⟨s1, h1, hst, s2, h2, hgo⟩ := h
  obtain ⟨xs1, e1, q1, v1⟩ := h1.data
  obtain ⟨xs2, e2, q2, v2⟩ := h2.data
  have hlen : xs1.length = pre.length := by rw [← e1]; simp
  have hput : ∀ (s : St) (y : X), s.put o.dst y = s := fun s y => by rw [hd]; rfl
  refine wp_region_any C.E.hM ?_
  obtain ⟨F, σ, r1, r2, r3, hi, r4, r5, hs⟩ := hr
  have hext : Ext w F { w with drawn := w.drawn + 1 } F := ⟨⟨rfl, rfl, rfl, Nat.le_refl _, fun _ _ => rfl⟩, fun _ h => h, fun _ h => .inl h, hi.flt⟩
  have hfin : StEq (stps ⟨tm, ob.set i .dead⟩ (xs1 ++ (o, some .und) :: xs2)) s2 := by
    rw [stps_append]
    simp only [stps, hput]
    exact (q1.stps xs2).trans q2
  have hget1 : ∀ (j : Nat), j < pre.length → (xs1 ++ (o, some X.und) :: xs2)[j]? = xs1[j]? ∧ (xs1 ++ (o, some X.und) :: xs2).take j = xs1.take j := fun j hj =>
    ⟨List.getElem?_append_left (by omega), by rw [List.take_append_of_le_length (by omega)]⟩
  have hget2 : ∀ (j : Nat), (xs1 ++ (o, some X.und) :: xs2)[pre.length + (j + 1)]? = xs2[j]? ∧ (xs1 ++ (o, some X.und) :: xs2).take (pre.length + (j + 1)) = xs1 ++ (o, some X.und) :: xs2.take j := fun j => by
    rw [← hlen]
    refine ⟨by rw [List.getElem?_append_right (by omega), Nat.add_sub_cancel_left, List.getElem?_cons_succ], by rw [List.take_length_add_append, List.take_succ_cons]⟩
  have hgetm : (xs1 ++ (o, some X.und) :: xs2)[pre.length]? = some (o, some X.und) ∧ (xs1 ++ (o, some X.und) :: xs2).take pre.length = xs1 := by
    rw [← hlen]
    exact ⟨by simp, by simp⟩
  have hpure : ∀ (j : Nat) o' x', j ≠ pre.length → (xs1 ++ (o, some X.und) :: xs2)[j]? = some (o', x') → dstOK C o' = true ∧ GuardIs l.toArray (stps ⟨tm, ob.set i .dead⟩ ((xs1 ++ (o, some X.und) :: xs2).take j)) o' x'.isSome ∧ ∀ y, x' = some y → VOp C (stps ⟨tm, ob.set i .dead⟩ ((xs1 ++ (o, some X.und) :: xs2).take j)) o' y := by
    intro j o' x' hj hx
    rcases Nat.lt_or_ge j pre.length with hlt | hge
    · rw [(hget1 j hlt).1] at hx
      rw [(hget1 j hlt).2]
      exact v1 j o' x' hx
    · obtain ⟨k, rfl⟩ : ∃ k, j = pre.length + (k + 1) := ⟨j - pre.length - 1, by omega⟩
      rw [(hget2 k).1] at hx
      rw [(hget2 k).2, stps_append]
      simp only [stps, hput]
      obtain ⟨a1, a2, a3⟩ := v2 k o' x' hx
      have hss := (q1.stps (xs2.take k)).symm
      exact ⟨a1, hss.guard a2, fun y hy => hss.vop (a3 y hy)⟩
  refine Ords2.all (ie := pre.length) (s := ⟨tm, ob.set i .dead⟩) (xs := xs1 ++ (o, some .und) :: xs2) (ops := l) (Scr := fun β w F σ => WInv C.E C.base F σ (bif β then ob.set i new else ob) w) (by rw [hl, List.map_append, List.map_cons, e1, e2]) (ordOK_spec ho) (by rw [hl]; simp) (fun j o' x' hx => ?_) (fun j o' x' hj hx => (hpure j o' x' hj hx).2) (fun o' x' hx => ?_)
    (fun β w F σ w' F' hS _ he => hS.ext he) (fun a w hr => ?_) _ _ _ _ ?_ ⟨by simp, fun j o' ed ho' hL => ?_, F, σ, r1.step hext.below, r2, r3, (hi.kill i).ext hext, r4, r5, fun t _ => (hs t).ext hext hi.flt, fun j o' x t hj hL => ?_, ?_⟩
  · by_cases hj : j = pre.length
    · subst hj
      rw [hgetm.1] at hx
      cases hx
      simp only [dstOK, hd]
    · exact (hpure j o' x' hj hx).1
  · rw [hgetm.1] at hx
    cases hx
    rw [hgetm.2]
    exact ⟨hd, hg, hst.steq q1.symm⟩
  · obtain ⟨F, σ, k1, k2, k3, k4, k5, k6, k7, k8⟩ := hr
    refine ⟨_, ⟨F, σ, k1, k2, k3, k8, k5, k6, fun t => ?_⟩, hgo⟩
    have := k7 t
    rw [← hfin.1] at this
    exact this
  · refine Nat.le_trans (List.length_filter_le _ _) ?_
    simp
  · exfalso
    by_cases hlt : j < l.length <;> simp [hlt] at hL
  · exfalso
    by_cases hlt : j < l.length <;> simp [hlt] at hL
  · have : (Array.replicate l.toArray.size false).getD pre.length false = false := by rw [Array.getD_eq_getD_getElem?, Array.getElem?_replicate]; split <;> rfl
    first
      | (rw [this]; exact hi.ext hext)
      | exact hi.ext hext
/-- The same, the store named by its place in the region. -/
theorem qCsk {id : Nat} {l : List Oper} {o : Oper} (k i : Nat) {new : AObj} (hk : l[k]? = some o) (hd : o.dst = none) (hg : o.guard = none) (ho : ordOK l = true)
    (h : SGo C l.toArray true (l.take k) ⟨tm, ob.set i .dead⟩ (fun s1 => StOp C s1 (ob.set i .dead) o (fun β w F σ => WInv C.E C.base F σ (bif β then ob.set i new else ob) w) ∧
      SGo C l.toArray true (l.drop (k + 1)) s1 (fun s' => go C r ⟨s'.tm, ob.set i new⟩ Q))) : go C (.code (.region id l.toArray true) :: r) ⟨tm, ob⟩ Q := by
  obtain ⟨hlt, he⟩ := List.getElem?_eq_some_iff.1 hk
  exact qCst (l.take k) o (l.drop (k + 1)) i (by rw [← he]; simp) ho hd hg h
end
end Go.Abs

/- The walk through a region whose order is drawn and that holds several effects. Conditions: each rule's own. -/
namespace Go.Abs
open Go Go.RowKit










section
variable {C : Cx} {r : List It} {Q : Exit → St → Prop} {tm : List (Nat × X)} {ob : List AObj} {id : Nat} {l : List Oper} {E : List Nat} {wob : List AObj} {i : Nat} {ops : List Oper} {K : St → Prop}
end
section
variable {C : Cx} {tm : List (Nat × X)} {ob : List AObj} {id : Nat} {l : List Oper} {E : List Nat} {wob : List AObj} {i : Nat} {rest : List Oper} {K : St → Prop} {o : Oper} {d : Nat} {p : Prop} {x : X}
theorem rgCallO {y : Operand} {args : List Operand} {tys : Array TypeId} {f : FuncId} {ds : List D} {te : TypeId} {size : Nat} {xs : List D} (hne : E.contains i = true) (ho : o.op = .call { callee := .value y, args := args.toArray, argTypes := tys }) (hg : guardX l.toArray tm o = some true) (hdst : o.dst = some d) (hd : Nat.blt d C.N = true)
    (hf : (⟨tm, ob⟩ : St).ev C.E y = .d (.imm (.func (.func f) #[] #[]))) (hb : HasBody C.E f) (hda : Dats ⟨tm, ob⟩ C.E args ds) (hv : EvO C.E f ds te size xs) (hw : wkP wob.length wob (ob ++ [.row te size xs]))
    (h : RGo C id l E wob (i + 1) rest ⟨(d, .own ob.length) :: tm, ob ++ [.row te size xs]⟩ K) : RGo C id l E wob i (o :: rest) ⟨tm, ob⟩ K := by
  have hdk : dstOK C o = true := by simp only [dstOK, hdst]; exact hd
  refine rgX (x := .own ob.length) (ob' := ob ++ [.row te size xs]) hne hg hdk (fun tm' hev => ?_) hw (by rw [hdst]; exact h)
  have hm : ∀ z, z = y ∨ z ∈ args → (⟨tm', ob⟩ : St).ev C.E z = (⟨tm, ob⟩ : St).ev C.E z := by
    intro z hz
    refine hev z ?_
    rcases hz with rfl | hz <;> simp [ho, Op.operands, Call.operands, *]
  refine s_callO (s := ⟨tm', ob⟩) ho ((hm y (.inl rfl)).trans hf) hb ?_ hv hdk
  exact hda.look fun z hz => hm z (.inr hz)
end
end Go.Abs

/- In a region whose order is drawn: a literal of a slice as a row of the call's own, and an append whose row is given up as data at once. Conditions: each rule's own. -/
namespace Go.Abs
open Go Go.RowKit

/-- All but the last, and the last. -/
def splitLast : List AObj → Option (List AObj × AObj)
  | [] => none
  | [x] => some ([], x)
  | x :: y :: r => match splitLast (y :: r) with
    | some (l, z) => some (x :: l, z)
    | none => none
theorem splitLast_ok : ∀ {l l1 : List AObj} {z : AObj}, splitLast l = some (l1, z) → l = l1 ++ [z]
  | [], _, _, h => by cases h
  | [x], _, _, h => by cases h; rfl
  | x :: y :: r, l1, z, h => by
    unfold splitLast at h
    cases hs : splitLast (y :: r) with
    | none => rw [hs] at h; cases h
    | some p =>
      obtain ⟨l2, z2⟩ := p
      rw [hs] at h
      cases h
      rw [splitLast_ok hs]
      rfl
theorem partsX_look {E : Env} {s s' : St} {size : Nat} : ∀ (parts : List (Nat × Operand)) (k : Nat), (∀ q ∈ parts, s'.ev E q.2 = s.ev E q.2) → partsX E s' size k parts = partsX E s size k parts
  | [], _, _ => rfl
  | (i, y) :: r, k, h => by
    simp only [partsX]
    rw [show s'.ev E y = s.ev E y from h (i, y) (by simp), partsX_look r (k + 1) fun q hq => h q (by simp [hq])]
/-- Slots that point at objects above n are forgotten. -/
def dimT (n : Nat) : List (Nat × X) → List (Nat × X)
  | [] => []
  | (t, x) :: r => (t, bif x.below n then x else .top) :: dimT n r
theorem lk_dim (n : Nat) : ∀ (tm : List (Nat × X)) (t : Nat), lk (dimT n tm) t = lk tm t ∨ lk (dimT n tm) t = .top
  | [], t => .inl rfl
  | (k, x) :: r, t => by
    simp only [dimT, lk]
    cases Nat.beq k t with
    | false => exact lk_dim n r t
    | true => cases x.below n <;> simp
theorem lk_dim_below (n : Nat) : ∀ (tm : List (Nat × X)) (t : Nat), (lk (dimT n tm) t).below n = true
  | [], t => rfl
  | (k, x) :: r, t => by
    simp only [dimT, lk]
    cases Nat.beq k t with
    | false => exact lk_dim_below n r t
    | true =>
      cases h : x.below n with
      | true => exact h
      | false => rfl
theorem VOp.dim {C : Cx} {tm : List (Nat × X)} {ob : List AObj} {o : Oper} {x : X} {n : Nat} (h : VOp C ⟨dimT n tm, ob⟩ o x) : VOp C ⟨tm, ob⟩ o x := by
  intro F σ w a K Q hi hr hK
  refine h F σ w a K Q hi (fun y hy => ?_) hK
  have := hr y hy
  cases y with
  | tmp t =>
    rcases lk_dim n tm t with e | e
    · show RdX w F σ (lk (dimT n tm) t) _
      rw [e]; exact this
    · show RdX w F σ (lk (dimT n tm) t) _
      rw [e]; trivial
  | _ => exact this

inductive RDw (C : Cx) (l : List Oper) (E : List Nat) (wob : List AObj) : Nat → List Oper → St → St → Prop
  | nil (i : Nat) (s : St) : RDw C l E wob i [] s s
  | same {i : Nat} {ops : List Oper} {s s1 s' : St} (hs : StEq s s1) (h : RDw C l E wob i ops s1 s') : RDw C l E wob i ops s s'
  | fix {i : Nat} {o : Oper} {rest : List Oper} {s s' : St} {x : X} (hg : GuardIs l.toArray s o true) (hd : dstOK C o = true) (hne : E.contains i = false) (hf : FixedP l E i) (hv : VOp C s o x) (h : RDw C l E wob (i + 1) rest (s.put o.dst x) s') : RDw C l E wob i (o :: rest) s s'
  | skip {i : Nat} {o : Oper} {rest : List Oper} {s s' : St} (hg : GuardIs l.toArray s o false) (hd : dstOK C o = true) (hne : E.contains i = false) (h : RDw C l E wob (i + 1) rest (s.put o.dst .und) s') : RDw C l E wob i (o :: rest) s s'
  | weak {i : Nat} {o : Oper} {rest : List Oper} {s s' : St} {x : X} (hg : GuardIs l.toArray s o true) (hd : dstOK C o = true) (hne : E.contains i = false) (hv : ∀ ob', Wk wob ob' → VOp C ⟨s.tm, ob'⟩ o x) (h : RDw C l E wob (i + 1) rest (s.put o.dst x) s') : RDw C l E wob i (o :: rest) s s'
  | eff {i : Nat} {o : Oper} {rest : List Oper} {s s' : St} {x : X} {ob' : List AObj} (hg : GuardIs l.toArray s o true) (hd : dstOK C o = true) (hne : E.contains i = true) (hv : EOp C s o x ob') (hw : Wk wob ob') (h : RDw C l E wob (i + 1) rest ((⟨s.tm, ob'⟩ : St).put o.dst x) s') : RDw C l E wob i (o :: rest) s s'


theorem RDw.dataE {C : Cx} {l : List Oper} {E : List Nat} {wob : List AObj} {i : Nat} {ops : List Oper} {s s' : St} (h : RDw C l E wob i ops s s') (hw0 : Wk wob s.ob) :
    ∃ (xs : List (Oper × Option X)) (obT : Nat → List AObj), xs.map (·.1) = ops ∧ obT 0 = s.ob ∧ obT ops.length = s'.ob ∧ (∀ t, lk (stps s xs).tm t = lk s'.tm t) ∧ (∀ j, j ≤ ops.length → Wk wob (obT j)) ∧
      ∀ (j : Nat) o x, xs[j]? = some (o, x) → dstOK C o = true ∧ GuardIs l.toArray (stps s (xs.take j)) o x.isSome ∧
        (E.contains (i + j) = true → ∃ y, x = some y ∧ EOp C ⟨(stps s (xs.take j)).tm, obT j⟩ o y (obT (j + 1))) ∧
        (E.contains (i + j) = false → obT (j + 1) = obT j ∧ ∀ y, x = some y → (FixedP l E (i + j) ∧ VOp C ⟨(stps s (xs.take j)).tm, obT j⟩ o y) ∨ ∀ ob', Wk wob ob' → VOp C ⟨(stps s (xs.take j)).tm, ob'⟩ o y) := by
  induction h with
  | nil i s => exact ⟨[], fun _ => s.ob, rfl, rfl, rfl, fun _ => rfl, fun _ _ => hw0, fun j o x h => by simp at h⟩
  | @same i ops s s1 s' hs hh ih =>
    obtain ⟨xs, obT, h1, h2, h3, h4, h5, h6⟩ := ih (by rw [hs.2]; exact hw0)
    have hst : ∀ ys t, lk (stps s ys).tm t = lk (stps s1 ys).tm t := fun ys => stps_tm ys s s1 fun t => (hs.1 t).symm
    refine ⟨xs, obT, h1, h2.trans hs.2, h3, fun t => (hst xs t).trans (h4 t), h5, fun j o x hj => ?_⟩
    obtain ⟨a1, a2, a3, a4⟩ := h6 j o x hj
    refine ⟨a1, a2.look (hst _), fun he => ?_, fun he => ⟨(a4 he).1, fun y hy => ?_⟩⟩
    · obtain ⟨y, hy, hv⟩ := a3 he
      exact ⟨y, hy, hv.look (hst _)⟩
    · rcases (a4 he).2 y hy with ⟨b1, b2⟩ | b1
      · exact .inl ⟨b1, b2.look (hst _)⟩
      · exact .inr fun ob' hw' => (b1 ob' hw').look (hst _)
  | @fix i o rest s s' x hg hd hne hf hv hh ih =>
    obtain ⟨xs, obT, h1, h2, h3, h4, h5, h6⟩ := ih (by rw [St.put_ob]; exact hw0)
    rw [St.put_ob] at h2
    refine ⟨(o, some x) :: xs, fun j => match j with | 0 => s.ob | j + 1 => obT j, by simp [h1], rfl, h3, h4, fun j hj => ?_, fun j o' x' hj => ?_⟩
    · cases j with
      | zero => exact hw0
      | succ j => exact h5 j (by simpa using hj)
    · cases j with
      | zero =>
        simp at hj
        obtain ⟨rfl, rfl⟩ := hj
        refine ⟨hd, hg, fun he => ?_, fun _ => ⟨h2, fun y hy => ?_⟩⟩
        · rw [Nat.add_zero, hne] at he; cases he
        · cases hy; exact .inl ⟨hf, hv⟩
      | succ j =>
        have := h6 j o' x' (by simpa using hj)
        rw [show i + 1 + j = i + (j + 1) by omega] at this
        exact this
  | @skip i o rest s s' hg hd hne hh ih =>
    obtain ⟨xs, obT, h1, h2, h3, h4, h5, h6⟩ := ih (by rw [St.put_ob]; exact hw0)
    rw [St.put_ob] at h2
    refine ⟨(o, none) :: xs, fun j => match j with | 0 => s.ob | j + 1 => obT j, by simp [h1], rfl, h3, h4, fun j hj => ?_, fun j o' x' hj => ?_⟩
    · cases j with
      | zero => exact hw0
      | succ j => exact h5 j (by simpa using hj)
    · cases j with
      | zero =>
        simp at hj
        obtain ⟨rfl, rfl⟩ := hj
        refine ⟨hd, hg, fun he => ?_, fun _ => ⟨h2, fun y hy => ?_⟩⟩
        · rw [Nat.add_zero, hne] at he; cases he
        · cases hy
      | succ j =>
        have := h6 j o' x' (by simpa using hj)
        rw [show i + 1 + j = i + (j + 1) by omega] at this
        exact this
  | @weak i o rest s s' x hg hd hne hv hh ih =>
    obtain ⟨xs, obT, h1, h2, h3, h4, h5, h6⟩ := ih (by rw [St.put_ob]; exact hw0)
    rw [St.put_ob] at h2
    refine ⟨(o, some x) :: xs, fun j => match j with | 0 => s.ob | j + 1 => obT j, by simp [h1], rfl, h3, h4, fun j hj => ?_, fun j o' x' hj => ?_⟩
    · cases j with
      | zero => exact hw0
      | succ j => exact h5 j (by simpa using hj)
    · cases j with
      | zero =>
        simp at hj
        obtain ⟨rfl, rfl⟩ := hj
        refine ⟨hd, hg, fun he => ?_, fun _ => ⟨h2, fun y hy => ?_⟩⟩
        · rw [Nat.add_zero, hne] at he; cases he
        · cases hy; exact .inr hv
      | succ j =>
        have := h6 j o' x' (by simpa using hj)
        rw [show i + 1 + j = i + (j + 1) by omega] at this
        exact this
  | @eff i o rest s s' x ob' hg hd hne hv hw hh ih =>
    obtain ⟨xs, obT, h1, h2, h3, h4, h5, h6⟩ := ih (by rw [St.put_ob]; exact hw)
    rw [St.put_ob] at h2
    have hst : ∀ ys t, lk (stps (s.put o.dst x) ys).tm t = lk (stps ((⟨s.tm, ob'⟩ : St).put o.dst x) ys).tm t := fun ys => stps_tm ys _ _ fun t => by cases o.dst <;> rfl
    refine ⟨(o, some x) :: xs, fun j => match j with | 0 => s.ob | j + 1 => obT j, by simp [h1], rfl, h3, fun t => (hst xs t).trans (h4 t), fun j hj => ?_, fun j o' x' hj => ?_⟩
    · cases j with
      | zero => exact hw0
      | succ j => exact h5 j (by simpa using hj)
    · cases j with
      | zero =>
        simp at hj
        obtain ⟨rfl, rfl⟩ := hj
        refine ⟨hd, hg, fun he => ⟨x, rfl, ?_⟩, fun he => ?_⟩
        · show EOp C ⟨s.tm, s.ob⟩ o x (obT 0)
          rw [h2]; exact hv
        · rw [Nat.add_zero, hne] at he; cases he
      | succ j =>
        obtain ⟨a1, a2, a3, a4⟩ := h6 j o' x' (by simpa using hj)
        rw [show i + 1 + j = i + (j + 1) by omega] at a3 a4
        refine ⟨a1, a2.look (hst _), fun he => ?_, fun he => ⟨(a4 he).1, fun y hy => ?_⟩⟩
        · obtain ⟨y, hy, hv'⟩ := a3 he
          exact ⟨y, hy, hv'.look (hst _)⟩
        · rcases (a4 he).2 y hy with ⟨b1, b2⟩ | b1
          · exact .inl ⟨b1, b2.look (hst _)⟩
          · exact .inr fun ob2 hw2 => (b1 ob2 hw2).look (hst _)


def RGw (C : Cx) (_id : Nat) (l : List Oper) (E : List Nat) (wob : List AObj) (i : Nat) (ops : List Oper) (s : St) (K : St → Prop) : Prop := ∃ s', RDw C l E wob i ops s s' ∧ K s'


theorem RDw.ofFixE_ {C : Cx} {l : List Oper} {E : List Nat} {wob : List AObj} {rest : List Oper} {s' : St} {pu : Bool} {ops : List Oper} {s s1 : St} (h : SD C l.toArray pu ops s s1) : pu = true → ∀ {i : Nat}, (∀ j, j < ops.length → E.contains (i + j) = false ∧ FixedP l E (i + j)) → RDw C l E wob (i + ops.length) rest s1 s' → RDw C l E wob i (ops ++ rest) s s' := by
  induction h with
  | nil s => exact fun _ _ _ hr => hr
  | @vop o r s s1 x hg hd hv hh ih =>
    intro hpu i hf hr
    refine .fix hg hd (hf 0 (by simp)).1 (hf 0 (by simp)).2 hv (ih hpu (i := i + 1) (fun j hj => ?_) ?_)
    · rw [show i + 1 + j = i + (j + 1) by omega]; exact hf (j + 1) (by simpa using hj)
    · rw [show i + 1 + r.length = i + (o :: r).length by simp; omega]; exact hr
  | @skip o r s s1 hg hd hh ih =>
    intro hpu i hf hr
    refine .skip hg hd (hf 0 (by simp)).1 (ih hpu (i := i + 1) (fun j hj => ?_) ?_)
    · rw [show i + 1 + j = i + (j + 1) by omega]; exact hf (j + 1) (by simpa using hj)
    · rw [show i + 1 + r.length = i + (o :: r).length by simp; omega]; exact hr
  | eff hp => intro hpu; rw [hpu] at hp; cases hp
  | ghost hp => intro hpu; rw [hpu] at hp; cases hp
  | same hs hh ih => exact fun hpu _ hf hr => .same hs (ih hpu hf hr)

theorem RDw.ofFixE {C : Cx} {l : List Oper} {E : List Nat} {wob : List AObj} {ops rest : List Oper} {s s1 s' : St} (h : SD C l.toArray true ops s s1) {i : Nat} (hf : ∀ j, j < ops.length → E.contains (i + j) = false ∧ FixedP l E (i + j)) (hr : RDw C l E wob (i + ops.length) rest s1 s') : RDw C l E wob i (ops ++ rest) s s' :=
  RDw.ofFixE_ h rfl hf hr

section
variable {C : Cx} {r : List It} {Q : Exit → St → Prop} {tm : List (Nat × X)} {ob : List AObj} {id : Nat} {l : List Oper} {E : List Nat} {wob : List AObj} {i : Nat} {ops : List Oper} {K : St → Prop}
theorem qEr_ (wob : List AObj) (E : List Nat) (ho : ordOK l = true) (hE : chainB (ancs l) E = true) (hw : Wk wob ob)
    (h : RGw C id l E wob 0 l ⟨tm, ob⟩ (fun s' => go C r s' Q)) : go C (.code (.region id l.toArray true) :: r) ⟨tm, ob⟩ Q := by
  intro a w hr
  obtain ⟨s', h1, h2⟩ := h
  obtain ⟨xs, obT, e1, e2, e3, e4, e5, e6⟩ := h1.dataE hw
  have hlen : xs.length = l.length := by rw [← e1]; simp
  have hget : ∀ i, i < l.length → ∃ o x, xs[i]? = some (o, x) := fun i hi => by
    have : i < xs.length := by omega
    exact ⟨xs[i].1, xs[i].2, List.getElem?_eq_getElem this⟩
  have hfin : ∀ a w, C.Rel ⟨(stps ⟨tm, ob⟩ xs).tm, obT l.length⟩ a w → C.Rel s' a w := by
    intro a w hr
    rw [e3] at hr
    exact StEq.rel (s := ⟨(stps ⟨tm, ob⟩ xs).tm, s'.ob⟩) (s' := s') ⟨fun t => (e4 t).symm, rfl⟩ hr
  refine wp_region_any C.E.hM ?_
  refine Dr.all (s := ⟨tm, ob⟩) (xs := xs) (obT := obT) (eff := fun i => E.contains i) e1 (ordOK_spec ho) (fun i hi he => ?_) (fun i j hij hj h3 h4 => ?_) (fun i o x hi => ⟨(e6 i o x hi).1, (e6 i o x hi).2.1⟩) (fun i o x he hi y hy => ?_) (fun i o x he hi => ?_) (fun a w hr => ⟨s', hfin a w hr, h2⟩) _ _ _ _ ?_ ⟨by simp, fun j o' ed ho' hL => ?_, tm, 0, Nat.zero_le _, fun i hi => by omega, fun i _ hi _ => ?_, ?_, fun t _ => rfl, fun j o' x t hj hL => ?_⟩
  · obtain ⟨o, x, hx⟩ := hget i hi
    exact ((e6 i o x hx).2.2.2 (by rw [Nat.zero_add]; exact he)).1
  · exact (fixedB_ok (List.all_eq_true.1 hE j (by simpa using h4)) i h3).1 hij
  · rcases ((e6 i o x hi).2.2.2 (by rw [Nat.zero_add]; exact he)).2 y hy with ⟨h3, h4⟩ | h3
    · rw [Nat.zero_add] at h3
      exact .inl ⟨fun e _ he' => h3 e he', h4⟩
    · exact .inr fun k hk => h3 _ (e5 k hk)
  · exact (e6 i o x hi).2.2.1 (by rw [Nat.zero_add]; exact he)
  · refine Nat.le_trans (List.length_filter_le _ _) ?_
    simp
  · exfalso
    by_cases hlt : j < l.length <;> simp [hlt] at hL
  · rw [Array.getD_eq_getD_getElem?, Array.getElem?_replicate]
    split <;> rfl
  · rw [e2]
    obtain ⟨F, σ, r1, r2, r3, hi, r4, r5, hs⟩ := hr
    have hext : Ext w F { w with drawn := w.drawn + 1 } F := ⟨⟨rfl, rfl, rfl, Nat.le_refl _, fun _ _ => rfl⟩, fun _ h => h, fun _ h => .inl h, hi.flt⟩
    exact ⟨F, σ, r1.step hext.below, r2, r3, hi.ext hext, r4, r5, fun t => (hs t).ext hext hi.flt⟩
  · exfalso
    by_cases hlt : j < l.length <;> simp [hlt] at hL
theorem qErT (E T : List Nat) (ho : ordOK l = true) (hE : chainB (ancs l) E = true) (hw : wkP (killT T ob).length (killT T ob) ob) (h : RGw C id l E (killT T ob) 0 l ⟨tm, ob⟩ (fun s' => go C r s' Q)) : go C (.code (.region id l.toArray true) :: r) ⟨tm, ob⟩ Q := qEr_ _ E ho hE (Wk.mk' hw) h
theorem reN (h : K ⟨tm, ob⟩) : RGw C id l E wob i [] ⟨tm, ob⟩ K := ⟨_, .nil _ _, h⟩
theorem reF (n : Nat) (hc : rgFB l E i n = true) (hn : Nat.ble n ops.length = true) (h : SGo C l.toArray true (ops.take n) ⟨tm, ob⟩ (fun s1 => RGw C id l E wob (i + n) (ops.drop n) ⟨s1.tm, ob⟩ K)) : RGw C id l E wob i ops ⟨tm, ob⟩ K := by
  obtain ⟨s1, h1, s', h2, h3⟩ := h
  have hlen : (ops.take n).length = n := by rw [List.length_take]; have := Nat.le_of_ble_eq_true hn; omega
  have e : s1 = ⟨s1.tm, ob⟩ := by have := h1.obEq; cases s1; simp at this; rw [this]
  refine ⟨s', ?_, h3⟩
  rw [← List.take_append_drop n ops]
  rw [← e] at h2
  refine RDw.ofFixE h1 (fun j hj => ?_) (by rw [hlen]; exact h2)
  have := List.all_eq_true.1 hc j (by rw [List.mem_range]; omega)
  rw [Bool.and_eq_true] at this
  exact ⟨by simpa using this.2, fixedB_ok this.1⟩
theorem reX {o : Oper} {rest : List Oper} {x : X} {ob' : List AObj} (hne : E.contains i = true) (hg : guardX l.toArray tm o = some true) (hd : dstOK C o = true) (hv : EOp C ⟨tm, ob⟩ o x ob') (hw : wkP wob.length wob ob') (h : RGw C id l E wob (i + 1) rest ((⟨tm, ob'⟩ : St).put o.dst x) K) : RGw C id l E wob i (o :: rest) ⟨tm, ob⟩ K :=
  let ⟨s', h1, h2⟩ := h; ⟨s', .eff (guardX_ok hg) hd hne hv (Wk.mk' hw) h1, h2⟩
/-- One operation that no effect waits for, whatever the slots of effects hold. -/
theorem reV {o : Oper} {rest : List Oper} {x : X} {d : Nat} {p : Prop} (hne : E.contains i = false) (hg : guardX l.toArray tm o = some true) (hdst : o.dst = some d) (hd : Nat.blt d C.N = true) (hn : Nat.ble C.base.n0 wob.length = true)
    (hv : vop C ⟨dimT wob.length tm, wob⟩ o = some (p, x)) (hp : p) (h : RGw C id l E wob (i + 1) rest ⟨(d, x) :: tm, ob⟩ K) : RGw C id l E wob i (o :: rest) ⟨tm, ob⟩ K := by
  obtain ⟨s', h1, h2⟩ := h
  refine ⟨s', .weak (guardX_ok hg) (by simp only [dstOK, hdst]; exact hd) hne (fun ob' hw' => ((vop_ok hv hp).wk hw' (Nat.le_of_ble_eq_true hn) (lk_dim_below _ tm)).dim) ?_, h2⟩
  rw [show (⟨tm, ob⟩ : St).put o.dst x = ⟨(d, x) :: tm, ob⟩ by rw [hdst]; rfl]
  exact h1
end
section
variable {C : Cx} {tm : List (Nat × X)} {ob : List AObj} {id : Nat} {l : List Oper} {E : List Nat} {wob : List AObj} {i : Nat} {rest : List Oper} {K : St → Prop} {o : Oper} {d : Nat} {p : Prop} {x : X}
theorem reS {tm' : List (Nat × X)} {ob' : List AObj} (hne : E.contains i = true) (hg : guardX l.toArray tm o = some true) (hd : dstOK C o = true) (hs : sop2 C o tm ob = some (p, tm', ob')) (hp : p) (hw : wkP wob.length wob ob') (h : RGw C id l E wob (i + 1) rest ⟨tm', ob'⟩ K) : RGw C id l E wob i (o :: rest) ⟨tm, ob⟩ K := by
  obtain ⟨d, x, hdst, rfl, -⟩ := sop2_look (tm2 := tm) hs fun _ _ => rfl
  refine reX (x := x) (ob' := ob') hne hg hd (fun tm2 hev => ?_) hw (by rw [hdst]; exact h)
  obtain ⟨d', x', hdst', e, h2⟩ := sop2_look (tm2 := tm2) hs hev
  rw [hdst] at hdst'
  cases hdst'
  cases e
  rw [hdst]
  exact sop2_ok h2 hp
/-- An append whose row nobody else looks at. -/
theorem reSD {tm' : List (Nat × X)} {ob' ob1 : List AObj} {k : Nat} {te : TypeId} {size : Nat} {xs : List D} (hne : E.contains i = true) (hg : guardX l.toArray tm o = some true) (hd : dstOK C o = true) (hs : sop2 C o tm ob = some (p, (d, .own k) :: tm', ob')) (hp : p) (hsp : splitLast ob' = some (ob1, .row te size xs))
    (hk : Nat.beq ob1.length k = true) (hl : Nat.beq ob1.length ob.length = true) (h0 : Nat.ble C.base.n0 ob1.length = true) (hx : xs ≠ []) (hO : ObLe ob1.length ob1) (hw : wkP wob.length wob ob1) (h : RGw C id l E wob (i + 1) rest ⟨(d, .d (.sl xs)) :: tm, ob1⟩ K) : RGw C id l E wob i (o :: rest) ⟨tm, ob⟩ K := by
  obtain ⟨d', x, hdst, e, -⟩ := sop2_look (tm2 := tm) hs fun _ _ => rfl
  cases e
  obtain rfl := splitLast_ok hsp
  have hk' : ob1.length = k := Nat.eq_of_beq_eq_true hk
  refine reX (x := .d (.sl xs)) (ob' := ob1) hne hg hd (EOp.data (te := te) (size := size) hdst (Nat.le_of_ble_eq_true h0) (Nat.eq_of_beq_eq_true hl) hO.all hx fun tm2 hev => ?_) hw (by rw [hdst]; exact h)
  obtain ⟨d2, x2, hdst2, e, h2⟩ := sop2_look (tm2 := tm2) hs hev
  rw [hdst] at hdst2
  cases hdst2
  cases e
  rw [hdst, hk']
  exact sop2_ok h2 hp
/-- A literal of a slice, as a row of the call's own. -/
theorem reOwn {t : TypeId} {n : Nat} {parts : List (Nat × Operand)} {te : TE} {ds : List D} (hne : E.contains i = true) (ho : o.op = .buildSlice t n parts.toArray) (hg : guardX l.toArray tm o = some true) (hdst : o.dst = some d) (hd : Nat.blt d C.N = true) (hte : elemT C.E t = some te)
    (hp : partsX C.E ⟨tm, ob⟩ te.size 0 parts = some ds) (hn : n = ds.length) (hsm : n * te.size ≤ 16777216) (hn6 : n ≤ 16777216) (hw : wkP wob.length wob (ob ++ [.row te.t te.size ds])) (h : RGw C id l E wob (i + 1) rest ⟨(d, .own ob.length) :: tm, ob ++ [.row te.t te.size ds]⟩ K) : RGw C id l E wob i (o :: rest) ⟨tm, ob⟩ K := by
  have hdk : dstOK C o = true := by simp only [dstOK, hdst]; exact hd
  refine reX (x := .own ob.length) (ob' := ob ++ [.row te.t te.size ds]) hne hg hdk (fun tm2 hev => ?_) hw (by rw [hdst]; exact h)
  have hp2 : partsX C.E ⟨tm2, ob⟩ te.size 0 parts = some ds := by
    rw [← hp]
    refine partsX_look parts 0 fun q hq => hev q.2 ?_
    rw [ho]
    simp only [Op.operands]
    simp
    exact ⟨q.1, hq⟩
  have := s_buildOwn (s := ⟨tm2, ob⟩) ho hte hp2 hn hsm hn6 hdk
  rw [hdst] at this ⊢
  exact this
end
end Go.Abs

/- The table of the seat's types and listed variables, off the loaded program. Conditions: none. -/
namespace Go.Proofs.YthieohigmpfknaaGreatDoor
open Go Go.Abs
set_option maxRecDepth 100000
theorem b21 : HasBody E 21 := by intro args w; dsimp only [E]; exact Tryz.call21 args w
theorem b22 : HasBody E 22 := by intro args w; dsimp only [E]; exact Tryz.call22 args w
theorem b24 : HasBody E 24 := by intro args w; dsimp only [E]; exact Tryz.call24 args w
theorem b25 : HasBody E 25 := by intro args w; dsimp only [E]; exact Tryz.call25 args w
theorem b26 : HasBody E 26 := by intro args w; dsimp only [E]; exact Tryz.call26 args w
theorem b28 : HasBody E 28 := by intro args w; dsimp only [E]; exact Tryz.call28 args w
theorem b29 : HasBody E 29 := by intro args w; dsimp only [E]; exact Tryz.call29 args w
theorem b49 : HasBody E 49 := by intro args w; dsimp only [E]; exact Tryz.call49 args w
theorem b50 : HasBody E 50 := by intro args w; dsimp only [E]; exact Tryz.call50 args w
end Go.Proofs.YthieohigmpfknaaGreatDoor

/- The reference's bounded integers. Conditions: none. -/
namespace Go.Proofs.YthieohigmpfknaaGreatDoor
open Go Go.Abs Go.Val Go.RowKit
attribute [local irreducible] go SGo HasBody Ev ExtEv EvO EvS binOp

theorem rabs_ev (n : Int) (h : inM n = true) : Ev E 50 [.int n] (.d (.int (n.natAbs : Int))) := by
  have hn := (inM_iff n).1 h
  cases hc : decide (n < 0) with
  | true =>
    have := of_decide_eq_true hc
    rw [show (n.natAbs : Int) = 0 - n by omega]
    refine enter1 Tryz.func50 Tryz.ntmps50 rfl rfl fun w0 F0 O => ?_
    repeat' (first | refine zS rfl ?_ | refine qA ?_ | refine qB rfl ?_ | refine qD ?_ | refine zT rfl ?_ | refine qL rfl rfl ?_ | exact zD)
  | false =>
    have := of_decide_eq_false hc
    rw [show (n.natAbs : Int) = n by omega]
    refine enter1 Tryz.func50 Tryz.ntmps50 rfl rfl fun w0 F0 O => ?_
    repeat' (first | refine zS rfl ?_ | refine qA ?_ | refine qB rfl ?_ | refine qD ?_ | refine qE ?_ | refine zU rfl ?_ | refine qL rfl rfl ?_ | exact zD)
def givN (n : Int) : Int := bif inM n then n else 0
theorem rgiven_ev (n : Int) : Ev E 49 [.int n] (.tup [.int (givN n), .bool (inM n)]) := by
  have h := rin_ev n
  unfold givN
  cases hi : inM n with
  | true =>
    rw [hi] at h
    refine enter1 Tryz.func49 Tryz.ntmps49 rfl rfl fun w0 F0 O => ?_
    repeat' (first | refine zS rfl ?_ | refine qA ?_ | refine qB rfl ?_ | refine qD ?_ | refine qE ?_ | refine qP rfl rfl rfl rfl rfl rfl b23 (h) ?_ | refine zU rfl ?_ | refine qM rfl rfl rfl ?_ | exact zL)
  | false =>
    rw [hi] at h
    refine enter1 Tryz.func49 Tryz.ntmps49 rfl rfl fun w0 F0 O => ?_
    repeat' (first | refine zS rfl ?_ | refine qA ?_ | refine qB rfl ?_ | refine qD ?_ | refine qP rfl rfl rfl rfl rfl rfl b23 (h) ?_ | refine zT rfl ?_ | refine qM rfl rfl rfl ?_ | exact zL)
theorem rmulI_ev (a b : Int) : Ev E 26 [.int a, .int b] (.tup [.int (mulN a b), .bool (mulB a b)]) := by
  have h1 := rin_ev a
  have h2 := rin_ev b
  unfold mulN
  cases ha : inM a with
  | false =>
    rw [ha] at h1
    rw [show mulB a b = false by unfold mulB; rw [ha]; rfl]
    refine enter2 Tryz.func26 Tryz.ntmps26 rfl rfl fun w0 F0 O => ?_
    repeat' (first | refine zS rfl ?_ | refine qA ?_ | refine qB rfl ?_ | refine qD ?_ | refine qP rfl rfl rfl rfl rfl rfl b23 (h1) ?_ | refine zT rfl ?_ | refine qM rfl rfl rfl ?_ | exact zL)
  | true =>
    cases hb : inM b with
    | false =>
      rw [ha] at h1
      rw [hb] at h2
      rw [show mulB a b = false by unfold mulB; rw [ha, hb]; rfl]
      refine enter2 Tryz.func26 Tryz.ntmps26 rfl rfl fun w0 F0 O => ?_
      repeat' (first | refine zS rfl ?_ | refine qA ?_ | refine qB rfl ?_ | refine qD ?_ | refine qP rfl rfl rfl rfl rfl rfl b23 (h1) ?_ | refine qP rfl rfl rfl rfl rfl rfl b23 (h2) ?_ | refine zT rfl ?_ | refine qM rfl rfl rfl ?_ | exact zL)
    | true =>
      have h3 := rabs_ev a ha
      have h4 := rabs_ev b hb
      rw [ha] at h1
      rw [hb] at h2
      have ha' := (inM_iff a).1 ha
      have hb' := (inM_iff b).1 hb
      have hm : mulB a b = decide (a.natAbs * b.natAbs ≤ 1000000000000000) := by unfold mulB; rw [ha, hb]; rfl
      cases h0 : a != 0 with
      | false =>
        have : a = 0 := by simpa using h0
        subst this
        rw [show mulB 0 b = true by rw [hm]; simp]
        refine enter2 Tryz.func26 Tryz.ntmps26 rfl rfl fun w0 F0 O => ?_
        repeat' (first | refine zS rfl ?_ | refine qA ?_ | refine qB rfl ?_ | refine qD ?_ | refine qE ?_ | refine qP rfl rfl rfl rfl rfl rfl b23 (h1) ?_ | refine qP rfl rfl rfl rfl rfl rfl b23 (h2) ?_ | refine zU rfl ?_ | refine qM rfl rfl rfl ?_ | exact zL)
      | true =>
        have h0' : a ≠ 0 := by simpa using h0
        have hdv : Int.tdiv 1000000000000000 (a.natAbs : Int) = ((1000000000000000 / a.natAbs : Nat) : Int) := by
          rw [Int.tdiv_eq_ediv_of_nonneg (by omega)]; rfl
        have hlt := Nat.div_le_self 1000000000000000 a.natAbs
        have hiff : b.natAbs ≤ 1000000000000000 / a.natAbs ↔ a.natAbs * b.natAbs ≤ 1000000000000000 := by rw [Nat.le_div_iff_mul_le (by omega), Nat.mul_comm]
        have hna : (a.natAbs : Int) ≠ 0 := by omega
        generalize 1000000000000000 / a.natAbs = Q at hdv hlt hiff
        have hri : inR .i64 (Int.tdiv 1000000000000000 (a.natAbs : Int)) := by rw [hdv]; simp only [inR]; omega
        cases hc : decide (a.natAbs * b.natAbs ≤ 1000000000000000) with
        | true =>
          have g : decide ((b.natAbs : Int) > Int.tdiv 1000000000000000 (a.natAbs : Int)) = false := by
            have := hiff.2 (of_decide_eq_true hc)
            rw [hdv]; simp; omega
          have := natAbs_le_mul (of_decide_eq_true hc)
          rw [hm, hc]
          refine enter2 Tryz.func26 Tryz.ntmps26 rfl rfl fun w0 F0 O => ?_
          repeat' (first | refine zS rfl ?_ | refine qA ?_ | refine qB rfl ?_ | refine qD ?_ | refine qE ?_ | refine qP rfl rfl rfl rfl rfl rfl b23 (h1) ?_ | refine qP rfl rfl rfl rfl rfl rfl b23 (h2) ?_ | refine qP rfl rfl rfl rfl rfl rfl b50 (h3) ?_ | refine qP rfl rfl rfl rfl rfl rfl b50 (h4) ?_ | refine zU rfl ?_ | refine qM rfl rfl rfl ?_ | refine zX rfl rfl rfl rfl ?_ | exact zL)
        | false =>
          have g : decide ((b.natAbs : Int) > Int.tdiv 1000000000000000 (a.natAbs : Int)) = true := by
            have := mt hiff.1 (of_decide_eq_false hc)
            rw [hdv]; simp; omega
          rw [hm, hc]
          refine enter2 Tryz.func26 Tryz.ntmps26 rfl rfl fun w0 F0 O => ?_
          repeat' (first | refine zS rfl ?_ | refine qA ?_ | refine qB rfl ?_ | refine qD ?_ | refine qP rfl rfl rfl rfl rfl rfl b23 (h1) ?_ | refine qP rfl rfl rfl rfl rfl rfl b23 (h2) ?_ | refine qP rfl rfl rfl rfl rfl rfl b50 (h3) ?_ | refine qP rfl rfl rfl rfl rfl rfl b50 (h4) ?_ | refine zT rfl ?_ | refine qM rfl rfl rfl ?_ | refine zX rfl rfl rfl rfl ?_ | exact zL)
def raddB (a b : Int) : Bool := inM a && (inM b && inM (a + b))
def raddN (a b : Int) : Int := bif raddB a b then a + b else 0
theorem raddI_ev (a b : Int) : Ev E 24 [.int a, .int b] (.tup [.int (raddN a b), .bool (raddB a b)]) := by
  have h1 := rin_ev a
  have h2 := rin_ev b
  unfold raddN
  cases ha : inM a with
  | false =>
    rw [ha] at h1
    rw [show raddB a b = false by unfold raddB; rw [ha]; rfl]
    refine enter2 Tryz.func24 Tryz.ntmps24 rfl rfl fun w0 F0 O => ?_
    repeat' (first | refine zS rfl ?_ | refine qA ?_ | refine qB rfl ?_ | refine qD ?_ | refine qP rfl rfl rfl rfl rfl rfl b23 (h1) ?_ | refine zT rfl ?_ | refine qM rfl rfl rfl ?_ | exact zL)
  | true =>
    cases hb : inM b with
    | false =>
      rw [ha] at h1
      rw [hb] at h2
      rw [show raddB a b = false by unfold raddB; rw [ha, hb]; rfl]
      refine enter2 Tryz.func24 Tryz.ntmps24 rfl rfl fun w0 F0 O => ?_
      repeat' (first | refine zS rfl ?_ | refine qA ?_ | refine qB rfl ?_ | refine qD ?_ | refine qP rfl rfl rfl rfl rfl rfl b23 (h1) ?_ | refine qP rfl rfl rfl rfl rfl rfl b23 (h2) ?_ | refine zT rfl ?_ | refine qM rfl rfl rfl ?_ | exact zL)
    | true =>
      rw [ha] at h1
      rw [hb] at h2
      have ha' := (inM_iff a).1 ha
      have hb' := (inM_iff b).1 hb
      have h3 := rgiven_ev (a + b)
      unfold givN at h3
      rw [show raddB a b = inM (a + b) by unfold raddB; rw [ha, hb]; rfl]
      refine enter2 Tryz.func24 Tryz.ntmps24 rfl rfl fun w0 F0 O => ?_
      repeat' (first | refine zS rfl ?_ | refine qA ?_ | refine qB rfl ?_ | refine qD ?_ | refine qE ?_ | refine qP rfl rfl rfl rfl rfl rfl b23 (h1) ?_ | refine qP rfl rfl rfl rfl rfl rfl b23 (h2) ?_ | refine qP rfl rfl rfl rfl rfl rfl b49 (h3) ?_ | refine zU rfl ?_ | refine qM rfl rfl rfl ?_ | exact zL)
def rsubB (a b : Int) : Bool := inM a && (inM b && inM (a - b))
def rsubN (a b : Int) : Int := bif rsubB a b then a - b else 0
theorem rsubI_ev (a b : Int) : Ev E 25 [.int a, .int b] (.tup [.int (rsubN a b), .bool (rsubB a b)]) := by
  have h1 := rin_ev a
  have h2 := rin_ev b
  unfold rsubN
  cases ha : inM a with
  | false =>
    rw [ha] at h1
    rw [show rsubB a b = false by unfold rsubB; rw [ha]; rfl]
    refine enter2 Tryz.func25 Tryz.ntmps25 rfl rfl fun w0 F0 O => ?_
    repeat' (first | refine zS rfl ?_ | refine qA ?_ | refine qB rfl ?_ | refine qD ?_ | refine qP rfl rfl rfl rfl rfl rfl b23 (h1) ?_ | refine zT rfl ?_ | refine qM rfl rfl rfl ?_ | exact zL)
  | true =>
    cases hb : inM b with
    | false =>
      rw [ha] at h1
      rw [hb] at h2
      rw [show rsubB a b = false by unfold rsubB; rw [ha, hb]; rfl]
      refine enter2 Tryz.func25 Tryz.ntmps25 rfl rfl fun w0 F0 O => ?_
      repeat' (first | refine zS rfl ?_ | refine qA ?_ | refine qB rfl ?_ | refine qD ?_ | refine qP rfl rfl rfl rfl rfl rfl b23 (h1) ?_ | refine qP rfl rfl rfl rfl rfl rfl b23 (h2) ?_ | refine zT rfl ?_ | refine qM rfl rfl rfl ?_ | exact zL)
    | true =>
      rw [ha] at h1
      rw [hb] at h2
      have ha' := (inM_iff a).1 ha
      have hb' := (inM_iff b).1 hb
      have h3 := rgiven_ev (a - b)
      unfold givN at h3
      rw [show rsubB a b = inM (a - b) by unfold rsubB; rw [ha, hb]; rfl]
      refine enter2 Tryz.func25 Tryz.ntmps25 rfl rfl fun w0 F0 O => ?_
      repeat' (first | refine zS rfl ?_ | refine qA ?_ | refine qB rfl ?_ | refine qD ?_ | refine qE ?_ | refine qP rfl rfl rfl rfl rfl rfl b23 (h1) ?_ | refine qP rfl rfl rfl rfl rfl rfl b23 (h2) ?_ | refine qP rfl rfl rfl rfl rfl rfl b49 (h3) ?_ | refine zU rfl ?_ | refine qM rfl rfl rfl ?_ | exact zL)
end Go.Proofs.YthieohigmpfknaaGreatDoor

/- Expressions as plain trees, how they are written as data, and the weighing of expressions by the law's own text. Conditions: none; the budget is at most 2^40. -/
namespace Go.Proofs.YthieohigmpfknaaGreatDoor
open Go Go.Abs Go.Val
attribute [local irreducible] go SGo HasBody Ev ExtEv EvO EvS

theorem encEL_len (l : List Ex) : (encEL l).length = l.length := by rw [encEL_map]; simp

/-! ## The law's weighing -/
end Go.Proofs.YthieohigmpfknaaGreatDoor

/- The reference's evaluation; Eval and Test of both texts. Conditions: see okE. -/
namespace Go.Proofs.YthieohigmpfknaaGreatDoor
open Go Go.Abs Go.Val Go.RowKit
attribute [local irreducible] go SGo HasBody Ev ExtEv EvO EvS binOp RGo


/-! ## The reference's eval -/
theorem valF_ok (g : Gr) (env : List Bd) (e : Ex) : Val.okV (valF g env e) = true := by
  unfold valF
  cases chkF e != 0 with
  | true => show Val.okV vNull = true; decide +kernel
  | false => exact evF_ok g env e
end Go.Proofs.YthieohigmpfknaaGreatDoor
