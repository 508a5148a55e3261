/- From the engine's contract of a law to the row's statement. Conditions: each lemma's own. -/
import Derived.Test.YtpjnngfjbcjikaaDoorEng18
import Derived.Lib.LaidTab
namespace Go.Abs
open Go Go.RowKit Go.ChangeShapes Go.WideShapes

theorem listed_tab {P : Program} {w : World} : ∀ {laid : List (String × DataW Unit)} {ps : List MemPlace}, DataW.LaidVars P w laid ps → ∀ (n : String) (k : IntKind) (zs : List Int) (g : Nat) (t e : TypeId) (m : Nat), (n, Lib.tabData k zs) ∈ laid → P.globalNamed n = some g → (P.globals[g]?).map (·.type) = some t →
    P.underlying t = some (.array m e) → P.underlying e = some (.int k) → P.cellsOf e = 1 → P.cellsOf t = m → Lib.TabIs P w n k zs
  | [], _, _, n, k, zs, g, t, e, m, hm, _, _, _, _, _, _ => by simp at hm
  | (n0, d0) :: r, ps, h, n, k, zs, g, t, e, m, hm, hg, hty, ht, he, hce, hct => by
    obtain ⟨g', t', cs, fuel, p, q, h1, h2, h3, h4, h5, -⟩ := h
    rcases List.mem_cons.1 hm with e1 | e1
    · cases e1
      rw [hg] at h1
      cases h1
      rw [hty] at h2
      cases h2
      unfold Lib.TabIs
      rw [h3, ← Lib.cells_of_tab ht he hce hct h4]
    · exact listed_tab h5 n k zs g t e m e1 hg hty ht he hce hct

/-- The engine's contract of a law, as a call in a world whose blocks may all be read. -/
theorem calls_of_ev {E : Env} {f : FuncId} {xs : List D} {W : World} {args : Array Value} (hE : E.GI W (F0 W)) (h : Ev E f xs (.d (.bool true))) (hl : xs.length = args.size) (hr : ∀ (i : Nat) x v, xs[i]? = some x → args.toList[i]? = some v → Rd W (F0 W) x v) :
    Calls E.P f args W fun e W' => e = .returned (.bool true) ∧ Below W.heap.size W W' := by
  have := h W (F0 W) args.toList (fun b h => h) hE (by simp [hl]) hr
  simp only [Array.toArray_toList] at this
  refine this.mono ?_
  rintro e W' ⟨v, F', rfl, he, hv⟩
  exact ⟨by rw [(Rd.imm_inv hv).1], he.below⟩

theorem lift_true {H : Type} {enc : TypeId × Value → H} {C : Checked} {os : Os} {f : FuncId} {fn : Func} {s : ChangeSpec} {laid : List (String × DataW Unit)} {tb : TypeId} (l : List TypeId) (own : ownKnob C.prog.godebug = none) (started : os.Started) (noInit : C.prog.inits.idxOf? f = none) (hfn : C.prog.funcs[f]? = some fn)
    (witness : ∃ (w : World) (tape : Tape) (i : Input), w.os = os ∧ (w.forCall tape i).Shaped C.prog ∧ i.vars = [] ∧ Input.okWide C.prog (w.forCall tape i) .any w.heap.size f i ∧
      ((s.pre enc C.prog fn [] false (w.forCall tape i).memory i.args ∧ laidMetH C.prog laid (w.forCall tape i).memory) ∧ sizedMet enc C.prog fn (OpenSpec.ofChange s) false (w.forCall tape i).memory i.args) ∧ ({} : Assume).holds C.prog (lone (Frame.enter C.prog f i.args .normal) [] (w.forCall tape i)))
    (hvars : s.vars = []) (hres : fn.resultTypes = #[tb]) (htb : C.prog.underlying tb = some .bool) (hs : ∀ ds : List (DataW H), ds.length = fn.params.size → s.fn H ds = { results := [.lit (.bool true)], args := ds })
    (hlaid : laidOutB C.prog = true) (hr : (fn.params.toList.all fun t => C.prog.readableRec t && decide (t < C.prog.types.size)) = true) (hc : closedB C.prog l = true) (hin : (fn.params.toList.all fun t => l.contains t) = true)
    (hcall : ∀ (W : World) (args : Array Value) (xs : List D), laidMetH C.prog laid W → W.ShapedOpen C.prog → xs.length = args.size → args.size = fn.params.size → (∀ (i : Nat) x v, xs[i]? = some x → args.toList[i]? = some v → Rd W (F0 W) x v) →
      (∀ (i : Nat) t x, fn.params.toList[i]? = some t → xs[i]? = some x → HasTy C.prog t x) → Calls C.prog f args W fun e W' => e = .returned (.bool true) ∧ Below W.heap.size W W') :
    ReturnsInHanded {} C os f .any (fun w args => (s.pre enc C.prog fn [] false w args ∧ laidMetH C.prog laid w) ∧ sizedMet enc C.prog fn (OpenSpec.ofChange s) false w args) (s.post enc C.prog fn false true false false) := by
  refine returnsInHanded_of_calls own started noInit witness ?_
  intro w tape i _ hsh _ hok hpre _
  obtain ⟨_, _, _, fn', hfn', _, _, _, hsz, hval⟩ := hok
  have e : fn' = fn := Option.some.inj (hfn'.symm.trans hfn)
  subst e
  obtain ⟨⟨⟨ds, gs, before, hw, -⟩, hx⟩, -⟩ := hpre
  have hw' := DataW.Whole.of_heap (w' := w.forCall tape i) (by rfl) hw
  have hx' : laidMetH C.prog laid (w.forCall tape i) := hx.of_heap (by rfl)
  obtain ⟨p, q, hA, -, -, -, -⟩ := id hw'
  obtain ⟨xs, x1, x2, x3, x4⟩ := args_D (r := .any) (base := w.heap.size) l hc hA (fun t ht => by simpa using List.all_eq_true.1 hin t ht) (fun j t v h1 h2 => hval j t v (by simpa using h1) (by simpa using h2))
  have hsize : i.args.size = fn'.params.size := hsz
  refine (hcall (w.forCall tape i) i.args xs hx' hsh (by simpa using x1) hsize x3 x4).mono fun e W' ⟨he, hb⟩ => ?_
  subst he
  exact ChangeSpec.post_blind (post_true hlaid hw' hvars hres htb hs hr hb)
/-! ## What a datum of a type is -/
theorem HasTy.bool_inv {P : Program} {t : TypeId} {x : D} (hu : P.underlying t = some .bool) (h : HasTy P t x) : ∃ b, x = .imm (.bool b) := by
  cases h with
  | bool b h => exact ⟨b, rfl⟩
  | int n h => rw [hu] at h; cases h
  | str s h => rw [hu] at h; cases h
  | sl xs h _ => rw [hu] at h; cases h
  | struct ps h _ _ => rw [hu] at h; cases h
  | arr ps h _ _ => rw [hu] at h; cases h
theorem HasTy.int_inv {P : Program} {t : TypeId} {k : IntKind} {x : D} (hu : P.underlying t = some (.int k)) (h : HasTy P t x) : ∃ n, x = .imm (.int k n) := by
  cases h with
  | bool b h => rw [hu] at h; cases h
  | int n h => rw [hu] at h; cases h; exact ⟨n, rfl⟩
  | str s h => rw [hu] at h; cases h
  | sl xs h _ => rw [hu] at h; cases h
  | struct ps h _ _ => rw [hu] at h; cases h
  | arr ps h _ _ => rw [hu] at h; cases h
theorem HasTy.str_inv {P : Program} {t : TypeId} {x : D} (hu : P.underlying t = some .string) (h : HasTy P t x) : ∃ s, x = .imm (.string s) := by
  cases h with
  | bool b h => rw [hu] at h; cases h
  | int n h => rw [hu] at h; cases h
  | str s h => exact ⟨s, rfl⟩
  | sl xs h _ => rw [hu] at h; cases h
  | struct ps h _ _ => rw [hu] at h; cases h
  | arr ps h _ _ => rw [hu] at h; cases h
theorem HasTy.sl_inv {P : Program} {t e : TypeId} {x : D} (hu : P.underlying t = some (.slice e)) (h : HasTy P t x) : ∃ xs, x = .sl xs ∧ ∀ y ∈ xs, HasTy P e y := by
  cases h with
  | bool b h => rw [hu] at h; cases h
  | int n h => rw [hu] at h; cases h
  | str s h => rw [hu] at h; cases h
  | sl xs h hx => rw [hu] at h; cases h; exact ⟨xs, rfl, hx⟩
  | struct ps h _ _ => rw [hu] at h; cases h
  | arr ps h _ _ => rw [hu] at h; cases h
theorem HasTy.struct_inv {P : Program} {t : TypeId} {fs : Array Field} {x : D} (hu : P.underlying t = some (.struct fs)) (h : HasTy P t x) : ∃ parts : List D, x = .agg (parts.flatMap D.cells) ∧ parts.length = fs.size ∧ ∀ (i : Nat) (f : Field) (y : D), fs[i]? = some f → parts[i]? = some y → HasTy P f.type y := by
  cases h with
  | bool b h => rw [hu] at h; cases h
  | int n h => rw [hu] at h; cases h
  | str s h => rw [hu] at h; cases h
  | sl xs h _ => rw [hu] at h; cases h
  | struct ps h hl hp => rw [hu] at h; cases h; exact ⟨ps, rfl, hl, hp⟩
  | arr ps h _ _ => rw [hu] at h; cases h
theorem HasTy.arr_inv {P : Program} {t e : TypeId} {n : Nat} {x : D} (hu : P.underlying t = some (.array n e)) (h : HasTy P t x) : ∃ parts : List D, x = .agg (parts.flatMap D.cells) ∧ parts.length = n ∧ ∀ y ∈ parts, HasTy P e y := by
  cases h with
  | bool b h => rw [hu] at h; cases h
  | int n h => rw [hu] at h; cases h
  | str s h => rw [hu] at h; cases h
  | sl xs h _ => rw [hu] at h; cases h
  | struct ps h _ _ => rw [hu] at h; cases h
  | arr ps h hl hp => rw [hu] at h; cases h; exact ⟨ps, rfl, hl, hp⟩
theorem Says.int_inv {H : Type} {k : IntKind} {n : Int} {x : D} (h : Says (H := H) (.lit (.int k n)) x) : x = .imm (.int k n) := by cases h; rfl
theorem Says.agg_inv {H : Type} {ds : List (DataW H)} {x : D} (h : Says (.agg ds) x) : ∃ parts : List D, x = .agg (parts.flatMap D.cells) ∧ ds.length = parts.length ∧ ∀ (i : Nat) d y, ds[i]? = some d → parts[i]? = some y → Says d y := by
  cases h with
  | agg _ parts hl h => exact ⟨parts, rfl, hl, h⟩
/-- The cells of a table of integers. -/
def tabRow : DataW Unit → Array Value
  | .agg ds => (ds.map fun d => match d with | .lit (.int k n) => Value.int k n | _ => undef).toArray
  | _ => #[]
end Go.Abs
