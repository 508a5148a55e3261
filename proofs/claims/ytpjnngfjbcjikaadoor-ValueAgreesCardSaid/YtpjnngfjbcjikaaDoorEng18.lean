/- From a row's reading of its arguments to the engine's data, and from the engine's contract of a law to what the row asks. Conditions: each lemma's own. -/
import Derived.Test.YtpjnngfjbcjikaaDoorEng17
import Derived.Carry
import Derived.ChangeOld
import Derived.HandedShaped
import Derived.Stop.Joined
import Derived.LaidMore
import Derived.LaidLaws
import Derived.WideShapes
import Derived.MakeChecks
import Derived.Shelf.Vars
namespace Go.Abs
open Go Go.RowKit Go.ChangeShapes Go.WideShapes

/-- A datum of a type. -/
inductive HasTy (P : Program) : TypeId → D → Prop
  | bool {t : TypeId} (b : Bool) (h : P.underlying t = some .bool) : HasTy P t (.imm (.bool b))
  | int {t : TypeId} {k : IntKind} (n : Int) (h : P.underlying t = some (.int k)) : HasTy P t (.imm (.int k n))
  | str {t : TypeId} (s : ByteArray) (h : P.underlying t = some .string) : HasTy P t (.imm (.string s))
  | sl {t e : TypeId} (xs : List D) (h : P.underlying t = some (.slice e)) (hx : ∀ x ∈ xs, HasTy P e x) : HasTy P t (.sl xs)
  | struct {t : TypeId} {fs : Array Field} (parts : List D) (h : P.underlying t = some (.struct fs)) (hl : parts.length = fs.size) (hp : ∀ (i : Nat) (f : Field) (x : D), fs[i]? = some f → parts[i]? = some x → HasTy P f.type x) : HasTy P t (.agg (parts.flatMap D.cells))
  | arr {t e : TypeId} {n : Nat} (parts : List D) (h : P.underlying t = some (.array n e)) (hl : parts.length = n) (hp : ∀ x ∈ parts, HasTy P e x) : HasTy P t (.agg (parts.flatMap D.cells))

/-- What a row's datum says, as the engine's. -/
inductive Says {H : Type} : DataW H → D → Prop
  | bool (b : Bool) : Says (.lit (.bool b)) (.imm (.bool b))
  | int (k : IntKind) (n : Int) : Says (.lit (.int k n)) (.imm (.int k n))
  | str (s : ByteArray) : Says (.lit (.string s.data.toList)) (.imm (.string s))
  | nil : Says .nil (.sl [])
  | sl (es sp : List (DataW H)) (xs : List D) (hl : es.length = xs.length) (h : ∀ (i : Nat) e x, es[i]? = some e → xs[i]? = some x → Says e x) : Says (.slice es sp) (.sl xs)
  | agg (ds : List (DataW H)) (parts : List D) (hl : ds.length = parts.length) (h : ∀ (i : Nat) d x, ds[i]? = some d → parts[i]? = some x → Says d x) : Says (.agg ds) (.agg (parts.flatMap D.cells))
/-- Parts one behind the other: where they end. -/
def tiled (P : Program) : Nat → List (Nat × TypeId) → Option Nat
  | o, [] => some o
  | o, (k, t) :: r => bif Nat.beq k o then tiled P (o + P.cellsOf t) r else none
/-- A set of types that holds the types of its parts, each laid out part behind part. -/
def closedB (P : Program) (l : List TypeId) : Bool :=
  l.all fun t => match P.underlying t with
    | some .bool | some (.int _) | some .string => Nat.beq (P.cellsOf t) 1
    | some (.slice e) => Nat.beq (P.cellsOf t) 1 && (l.contains e && Nat.ble 1 (P.cellsOf e))
    | some (.struct fs) => (fs.toList.all fun f => l.contains f.type) && (tiled P 0 (fs.toList.map fun f => (f.offset, f.type)) == some (P.cellsOf t))
    | some (.array n e) => l.contains e && (tiled P 0 ((List.range n).map fun i => (i * P.cellsOf e, e)) == some (P.cellsOf t))
    | _ => false

/-- All blocks of a world. -/
def F0 (w : World) : Nat → Prop := fun b => b < w.heap.size

structure GoodD {H : Type} (P : Program) (w : World) (t : TypeId) (cs : List Value) (d : DataW H) (x : D) : Prop where
  len : x.cells.length = cs.length
  size : cs.length = P.cellsOf t
  rd : ∀ (i : Nat) (c : D) (v : Value), x.cells[i]? = some c → cs[i]? = some v → Rd w (F0 w) c v
  one : ∀ c ∈ x.cells, c.one = true
  ty : HasTy P t x
  says : Says d x

theorem GoodD.imm {H : Type} {d : DataW H} {P : Program} {w : World} {t : TypeId} {v : Value} (hs : P.cellsOf t = 1) (hv : okV v = true) (ht : HasTy P t (.imm v)) (hd : Says d (.imm v)) : GoodD P w t [v] d (.imm v) := by
  refine ⟨rfl, hs.symm, fun i c u hc hu => ?_, fun c hc => ?_, ht, hd⟩
  · cases i with
    | zero => simp [D.cells] at hc hu; subst hc hu; exact .imm _ hv
    | succ i => simp at hu
  · simp [D.cells] at hc; subst hc; rfl

theorem parts_good {H : Type} {P : Program} {w : World} {cs : List Value} : ∀ (L : List (Nat × TypeId)) (ds : List (DataW H)) (o e : Nat), ds.length = L.length → tiled P o L = some e → e ≤ cs.length →
    (∀ (i : Nat) p d, L[i]? = some p → ds[i]? = some d → ∃ x, GoodD P w p.2 ((cs.drop p.1).take (P.cellsOf p.2)) d x) →
    ∃ parts : List D, parts.length = L.length ∧ (∀ (i : Nat) p x, L[i]? = some p → parts[i]? = some x → HasTy P p.2 x) ∧ o + (parts.flatMap D.cells).length = e ∧
      (∀ (i : Nat) c v, (parts.flatMap D.cells)[i]? = some c → cs[o + i]? = some v → Rd w (F0 w) c v) ∧ (∀ c ∈ parts.flatMap D.cells, c.one = true) ∧ ∀ (i : Nat) d x, ds[i]? = some d → parts[i]? = some x → Says d x
  | [], ds, o, e, _, h, _, _ => by
    simp only [tiled] at h
    cases h
    exact ⟨[], rfl, fun i p x h => by simp at h, by simp, fun i c v h => by simp at h, fun c h => by simp at h, fun i d x _ h => by simp at h⟩
  | (k, t) :: r, [], o, e, hl, _, _, _ => by simp at hl
  | (k, t) :: r, d0 :: ds, o, e, hl, h, hle, hg => by
    simp only [tiled] at h
    cases hb : Nat.beq k o with
    | false => rw [hb] at h; cases h
    | true =>
      obtain rfl := Nat.eq_of_beq_eq_true hb
      rw [hb] at h
      simp only [cond_true] at h
      obtain ⟨parts, p1, p2, p3, p4, p5, p6⟩ := parts_good r ds (k + P.cellsOf t) e (by simpa using hl) h hle fun i p d hp hd => hg (i + 1) p d (by simpa using hp) (by simpa using hd)
      obtain ⟨x, hx⟩ := hg 0 (k, t) d0 rfl rfl
      have hxl : x.cells.length = P.cellsOf t := by rw [hx.len, hx.size]
      refine ⟨x :: parts, by simp [p1], fun i p y hi hy => ?_, ?_, fun i c v hc hv => ?_, fun c hc => ?_, fun i d y hd hy => ?_⟩
      · cases i with
        | zero => simp at hi hy; subst hi hy; exact hx.ty
        | succ i => exact p2 i p y (by simpa using hi) (by simpa using hy)
      · simp only [List.flatMap_cons, List.length_append, hxl]
        omega
      · simp only [List.flatMap_cons] at hc
        rcases Nat.lt_or_ge i (P.cellsOf t) with hlt | hge
        · rw [List.getElem?_append_left (by omega)] at hc
          refine hx.rd i c v hc ?_
          rw [List.getElem?_take, if_pos hlt, List.getElem?_drop]
          exact hv
        · rw [List.getElem?_append_right (by omega), hxl] at hc
          refine p4 (i - P.cellsOf t) c v hc ?_
          rw [← hv]
          congr 1
          omega
      · simp only [List.flatMap_cons, List.mem_append] at hc
        rcases hc with h | h
        · exact hx.one c h
        · exact p5 c h
      · cases i with
        | zero => simp at hd hy; subst hd hy; exact hx.says
        | succ i => exact p6 i d y (by simpa using hd) (by simpa using hy)

theorem trod_D {H : Type} {enc : TypeId × Value → H} {P : Program} {w : World} {sp : Nat → Bool} {held : Bool} (l : List TypeId) (hc : closedB P l = true) :
    ∀ (fuel : Nat) (t : TypeId) (cs : List Value) (d : DataW H) (ps : List MemPlace), t ∈ l → DataW.trod enc P w 0 sp held fuel t cs = some (d, ps) → ∃ x, GoodD P w t cs d x
  | 0, t, cs, d, ps, _, h => by simp [DataW.trod] at h
  | fuel + 1, t, cs, d, ps, ht, h => by
    have hct := List.all_eq_true.1 hc t ht
    have ih := trod_D (sp := sp) (held := held) (w := w) (enc := enc) l hc fuel
    have h0 := h
    unfold DataW.trod at h
    cases hu : P.underlying t with
    | none => rw [hu] at hct; cases hct
    | some desc =>
      rw [hu] at hct h
      cases desc with
      | bool =>
        simp only at hct h
        split at h <;> first | (cases h; done) | skip
        all_goals first
          | (rename_i b e; cases e; cases h; exact ⟨_, GoodD.imm (Nat.eq_of_beq_eq_true hct) rfl (.bool b hu) (.bool b)⟩)
          | (rename_i e _; cases e; done)
          | (rename_i e; cases e; done)
      | int k =>
        simp only at hct h
        split at h <;> first | (cases h; done) | skip
        all_goals first
          | (rename_i k0 k' n e
             cases e
             split at h
             · rename_i hk
               obtain ⟨rfl, hw⟩ := hk
               cases h; exact ⟨_, GoodD.imm (v := .int k' n) (Nat.eq_of_beq_eq_true hct) (by simpa [okV, Lit.wf] using hw) (.int n hu) (.int k' n)⟩
             · cases h)
          | (rename_i e _; cases e; done)
          | (rename_i e; cases e; done)
      | string =>
        simp only at hct h
        split at h <;> first | (cases h; done) | skip
        all_goals first
          | (rename_i s e
             cases e
             split at h
             · rename_i hs
               cases h; exact ⟨_, GoodD.imm (v := .string s) (Nat.eq_of_beq_eq_true hct) (by simpa [okV] using hs) (.str s hu) (.str s)⟩
             · cases h)
          | (rename_i e _; cases e; done)
          | (rename_i e; cases e; done)
      | slice e =>
        simp only [Bool.and_eq_true] at hct
        obtain ⟨h1, h2, h3⟩ := hct
        have hs1 := Nat.eq_of_beq_eq_true h1
        have he : e ∈ l := by simpa using h2
        have hpos := Nat.le_of_ble_eq_true h3
        clear h
        simp only [DataW.trod, hu] at h0
        split at h0
        all_goals first
          | (cases h0; done)
          | (exfalso; have hq := ‹some (TypeDesc.slice e) = some _›; simp at hq; done)
          | skip
        · cases h0
          refine ⟨.sl [], rfl, hs1.symm, fun i c v hc hv => ?_, fun c hc => ?_, .sl [] hu (by simp), .nil⟩
          · cases i with
            | zero => simp [D.cells] at hc hv; subst hc hv; exact .slnil
            | succ i => simp at hv
          · simp [D.cells] at hc; subst hc; rfl
        · rename_i e0 ad len cap hue
          cases hue
          split at h0
          · rename_i hcond
            obtain ⟨-, hlc, hcm⟩ := hcond
            simp only [Option.bind_eq_some_iff] at h0
            obtain ⟨elems, hel, h0⟩ := h0
            obtain ⟨spare, -, hde⟩ := Option.map_eq_some_iff.1 h0
            simp only [Prod.mk.injEq] at hde
            obtain ⟨rfl, -⟩ := hde
            have hlen : elems.length = len := by simpa using mapM_some_length hel
            have hget : ∀ i, i < len → ∃ (x : D) (cs' : List Value) (d' : DataW H), (elems.map (·.1))[i]? = some d' ∧ GoodD P w e cs' d' x ∧ cs'.length = P.cellsOf e ∧ ∀ j, j < P.cellsOf e → w.cell? (ad.add (i * P.cellsOf e + j)) = cs'[j]? := by
              intro i hi
              have := mapM_some_get hel i i (by simp [hi])
              rw [List.getElem?_eq_getElem (by omega)] at this
              obtain ⟨cs', hcs, htr⟩ := Option.bind_eq_some_iff.1 this
              obtain ⟨-, hl', hcell⟩ := World.cells?_some hcs
              obtain ⟨x, hx⟩ := ih e cs' _ _ he htr
              exact ⟨x, cs', _, by rw [List.getElem?_map, List.getElem?_eq_getElem (show i < elems.length by omega)]; rfl, hx, hl', fun j hj => by rw [← add_add]; exact hcell j hj⟩
            have hch : ∀ i, ∃ (q : D × List Value), i < len → (∃ d', (elems.map (·.1))[i]? = some d' ∧ GoodD P w e q.2 d' q.1) ∧ q.2.length = P.cellsOf e ∧ ∀ j, j < P.cellsOf e → w.cell? (ad.add (i * P.cellsOf e + j)) = q.2[j]? := by
              intro i
              by_cases hi : i < len
              · obtain ⟨x, cs', d', h1, h2, h3⟩ := hget i hi
                exact ⟨(x, cs'), fun _ => ⟨⟨d', h1, h2⟩, h3⟩⟩
              · exact ⟨(.sl [], []), fun h => absurd h hi⟩
            let q : Nat → D × List Value := fun i => Classical.choose (hch i)
            have hq : ∀ i, i < len → (∃ d', (elems.map (·.1))[i]? = some d' ∧ GoodD P w e (q i).2 d' (q i).1) ∧ (q i).2.length = P.cellsOf e ∧ ∀ j, j < P.cellsOf e → w.cell? (ad.add (i * P.cellsOf e + j)) = (q i).2[j]? := fun i => Classical.choose_spec (hch i)
            have hxs : ∀ (i : Nat) x, ((List.range len).map fun i => (q i).1)[i]? = some x → i < len ∧ x = (q i).1 := by
              intro i x hx
              rw [List.getElem?_map, Option.map_eq_some_iff] at hx
              obtain ⟨k, hk, rfl⟩ := hx
              have hlt : i < len := by
                have := (List.getElem?_eq_some_iff.1 hk).1
                simpa using this
              rw [List.getElem?_range hlt] at hk
              cases hk
              exact ⟨hlt, rfl⟩
            have hmem : ∀ x ∈ (List.range len).map fun i => (q i).1, ∃ i, i < len ∧ x = (q i).1 := by
              intro x hx
              obtain ⟨i, hi⟩ := List.getElem?_of_mem hx
              exact ⟨i, hxs i x hi⟩
            have hxl : ((List.range len).map fun i => (q i).1).length = len := by simp
            have hrd : Rd w (F0 w) (.sl ((List.range len).map fun i => (q i).1)) (.slice (some ad) ((List.range len).map fun i => (q i).1).length cap) := by
              refine Rd.sl (P.cellsOf e) _ ad cap (fun i j => ((q i).2[j]?).getD undef) (by rw [hxl]; exact hlc) hcm (fun hne => ?_) (fun x hx => ?_) (fun x hx c hc => ?_) (fun i x j c hx hc => ?_) (fun i x j c hx hc => ?_)
              · have hl0 : 0 < len := by
                  rcases Nat.eq_zero_or_pos len with h | h
                  · exfalso; apply hne; rw [h]; rfl
                  · exact h
                obtain ⟨-, g2, g3⟩ := hq 0 hl0
                have := g3 0 hpos
                rw [List.getElem?_eq_getElem (by omega)] at this
                unfold F0
                have hb : (ad.add (0 * P.cellsOf e + 0)).block = ad.block := block_add _ _
                rw [← hb]
                rcases Nat.lt_or_ge (ad.add (0 * P.cellsOf e + 0)).block w.heap.size with h | h
                · exact h
                · unfold World.cell? at this
                  rw [Array.getElem?_eq_none h] at this
                  cases this
              · obtain ⟨i, hi, rfl⟩ := hmem x hx
                obtain ⟨⟨_, -, hgd⟩, hl', -⟩ := hq i hi
                rw [hgd.len, hl']
              · obtain ⟨i, hi, rfl⟩ := hmem x hx
                obtain ⟨⟨_, -, hgd⟩, -, -⟩ := hq i hi
                exact hgd.one c hc
              · obtain ⟨hi, rfl⟩ := hxs i x hx
                obtain ⟨⟨_, -, hgd⟩, hl', -⟩ := hq i hi
                have hj : j < P.cellsOf e := by
                  have := (List.getElem?_eq_some_iff.1 hc).1
                  rw [hgd.len, hl'] at this
                  exact this
                have hj' : j < (q i).2.length := by rw [(hq i hi).2.1]; exact hj
                rw [(hq i hi).2.2 j hj, List.getElem?_eq_getElem hj']
                rfl
              · obtain ⟨hi, rfl⟩ := hxs i x hx
                obtain ⟨⟨_, -, hgd⟩, hl', -⟩ := hq i hi
                have hj : j < (q i).2.length := by
                  have := (List.getElem?_eq_some_iff.1 hc).1
                  rw [hgd.len] at this
                  exact this
                rw [List.getElem?_eq_getElem hj]
                exact hgd.rd j c _ hc (List.getElem?_eq_getElem hj)
            rw [hxl] at hrd
            refine ⟨.sl ((List.range len).map fun i => (q i).1), rfl, hs1.symm, fun i c v hc hv => ?_, fun c hc => ?_, .sl _ hu (fun x hx => ?_), .sl _ _ _ (by simp [hlen]) fun i e0 x he0 hx => ?_⟩
            · cases i with
              | zero => simp [D.cells] at hc hv; subst hc hv; exact hrd
              | succ i => simp at hv
            · simp [D.cells] at hc; subst hc; rfl
            · obtain ⟨i, hi, rfl⟩ := hmem x hx
              obtain ⟨⟨_, -, hgd⟩, -, -⟩ := hq i hi
              exact hgd.ty
            · obtain ⟨hi, rfl⟩ := hxs i x hx
              obtain ⟨⟨d', hd', hgd⟩, -, -⟩ := hq i hi
              rw [hd'] at he0
              cases he0
              exact hgd.says
          · cases h0
      | struct fs =>
        simp only [Bool.and_eq_true, beq_iff_eq] at hct
        obtain ⟨h1, h2⟩ := hct
        clear h
        simp only [DataW.trod, hu] at h0
        split at h0
        · rename_i hcl
          obtain ⟨xs, hm, hde⟩ := Option.map_eq_some_iff.1 h0
          simp only [Prod.mk.injEq] at hde
          obtain ⟨rfl, -⟩ := hde
          obtain ⟨parts, p1, p2, p3, p4, p5, p6⟩ := parts_good (P := P) (w := w) (cs := cs) (fs.toList.map fun f => (f.offset, f.type)) (xs.map (·.1)) 0 _ (by simpa using mapM_some_length hm) h2 (by omega) (by
            intro i p d hp hd
            rw [List.getElem?_map, Option.map_eq_some_iff] at hp hd
            obtain ⟨f, hi, rfl⟩ := hp
            obtain ⟨xd, hxd, rfl⟩ := hd
            have hf := List.mem_of_getElem? hi
            have := mapM_some_get hm i f hi
            rw [hxd] at this
            exact ih f.type _ _ _ (by simpa using List.all_eq_true.1 h1 f hf) this)
          refine ⟨.agg (parts.flatMap D.cells), ?_, hcl, fun i c v hc hv => ?_, p5, .struct parts hu (by simpa using p1) (fun i f x hf hx => ?_), .agg _ parts (by rw [p1]; simpa using mapM_some_length hm) p6⟩
          · show (parts.flatMap D.cells).length = cs.length
            omega
          · exact p4 i c v hc (by rw [Nat.zero_add]; exact hv)
          · exact p2 i (f.offset, f.type) x (by rw [List.getElem?_map, Array.getElem?_toList, hf]; rfl) hx
        · cases h0
      | array n e =>
        simp only [Bool.and_eq_true, beq_iff_eq] at hct
        obtain ⟨h1, h2⟩ := hct
        clear h
        simp only [DataW.trod, hu] at h0
        split at h0
        · rename_i hcl
          obtain ⟨xs, hm, hde⟩ := Option.map_eq_some_iff.1 h0
          simp only [Prod.mk.injEq] at hde
          obtain ⟨rfl, -⟩ := hde
          obtain ⟨parts, p1, p2, p3, p4, p5, p6⟩ := parts_good (P := P) (w := w) (cs := cs) ((List.range n).map fun i => (i * P.cellsOf e, e)) (xs.map (·.1)) 0 _ (by simpa using mapM_some_length hm) h2 (by omega) (by
            intro i p d hp hd
            rw [List.getElem?_map, Option.map_eq_some_iff] at hp hd
            obtain ⟨k, hk, rfl⟩ := hp
            obtain ⟨xd, hxd, rfl⟩ := hd
            have := mapM_some_get hm i k hk
            have hki : k = i := by
              have hin : i < n := by have := (List.getElem?_eq_some_iff.1 hk).1; simpa using this
              rw [List.getElem?_range hin] at hk
              cases hk; rfl
            subst hki
            rw [hxd] at this
            exact ih e _ _ _ (by simpa using h1) this)
          refine ⟨.agg (parts.flatMap D.cells), ?_, hcl, fun i c v hc hv => ?_, p5, .arr parts hu (by simpa using p1) (fun x hx => ?_), .agg _ parts (by rw [p1]; simpa using mapM_some_length hm) p6⟩
          · show (parts.flatMap D.cells).length = cs.length
            omega
          · exact p4 i c v hc (by rw [Nat.zero_add]; exact hv)
          · obtain ⟨i, hi⟩ := List.getElem?_of_mem hx
            have hin : i < n := by
              have := (List.getElem?_eq_some_iff.1 hi).1
              rw [p1] at this
              simpa using this
            exact p2 i (i * P.cellsOf e, e) x (by rw [List.getElem?_map, List.getElem?_range hin]; rfl) hi
        · cases h0
      | _ => cases hct

/-- An argument, as the engine reads it. -/
theorem value_D {H : Type} {enc : TypeId × Value → H} {P : Program} {w : World} {sp : Nat → Bool} {held : Bool} {r : Reach} {base : Nat} (l : List TypeId) (hc : closedB P l = true) {t : TypeId} {v : Value} {d : DataW H} {ps : List MemPlace} (ht : t ∈ l)
    (hok : Value.okWide P w r base t v) (h : DataW.Trod enc P w 0 sp held t v d ps) : ∃ x, Rd w (F0 w) x v ∧ HasTy P t x := by
  obtain ⟨fuel, hf⟩ := h
  obtain ⟨x, hx⟩ := trod_D l hc fuel t _ d ps ht hf
  refine ⟨x, ?_, hx.ty⟩
  have hct := List.all_eq_true.1 hc t ht
  have one : v.cells = #[v] → x.one = true → Rd w (F0 w) x v := by
    intro hv hx1
    have hxc : x.cells = [x] := by cases x <;> simp_all [D.one, D.cells]
    exact hx.rd 0 x v (by rw [hxc]; rfl) (by rw [hv]; rfl)
  have agg : ∀ ds : List D, x = .agg ds → (∃ cs, v = .agg cs ∧ cs.size = P.cellsOf t) → Rd w (F0 w) x v := by
    rintro ds rfl ⟨cs, rfl, -⟩
    have hl := hx.len
    have hrd := hx.rd
    simp only [D.cells, Value.cells] at hl hrd
    have := Rd.agg (w := w) (F := F0 w) ds cs.toList hl hx.one hrd
    simpa using this
  cases hx.ty with
  | bool b hu => obtain ⟨b', rfl⟩ := okWide_bool hu hok; exact one rfl rfl
  | int n hu => obtain ⟨n', rfl⟩ := okWide_int hu hok; exact one rfl rfl
  | str s hu => obtain ⟨s', rfl⟩ := okWide_string hu hok; exact one rfl rfl
  | sl xs hu hxs => obtain ⟨a, n, c, rfl⟩ := okWide_slice hu hok; exact one rfl rfl
  | struct parts hu hl hp => exact agg _ rfl (okWide_struct hu hok)
  | arr parts hu hl hp =>
    refine agg _ rfl ?_
    unfold Value.okWide at hok
    rw [hu] at hok
    obtain ⟨cs, h1, h2, -⟩ := hok
    exact ⟨cs, h1, h2⟩
/-- A listed variable's cells, as the engine reads them. -/
theorem listed_D {P : Program} {w : World} (l : List TypeId) (hc : closedB P l = true) : ∀ {laid : List (String × DataW Unit)} {ps : List MemPlace}, DataW.LaidVars P w laid ps → ∀ (n : String) (d : DataW Unit) (g : Nat) (t : TypeId), (n, d) ∈ laid → P.globalNamed n = some g → (P.globals[g]?).map (·.type) = some t → t ∈ l →
    ∃ x, Mem w (F0 w) x ⟨g, 0, none⟩ ∧ Says d x
  | [], _, _, n, d, g, t, hm, _, _, _ => by simp at hm
  | (n0, d0) :: r, ps, h, n, d, g, t, hm, hg, ht, htl => by
    obtain ⟨g', t', cs, fuel, p, q, h1, h2, h3, h4, h5, -⟩ := h
    rcases List.mem_cons.1 hm with e | e
    · cases e
      rw [hg] at h1
      cases h1
      rw [ht] at h2
      cases h2
      obtain ⟨x, hx⟩ := trod_D l hc fuel t _ _ _ htl h4
      have hheap : ∃ ty fz, w.heap[g]? = some (.cells cs ty fz) := by
        unfold World.var? at h3
        rw [hg] at h3
        simp only [Option.bind_some] at h3
        cases hh : w.heap[g]? with
        | none => rw [hh] at h3; cases h3
        | some o => cases o <;> rw [hh] at h3 <;> first | (cases h3; done) | (cases h3; exact ⟨_, _, rfl⟩)
      obtain ⟨ty, fz, hh⟩ := hheap
      have hcell : ∀ j, w.cell? ⟨g, j, none⟩ = cs[j]? := fun j => by unfold World.cell?; rw [hh]; simp
      refine ⟨x, ⟨(Array.getElem?_eq_some_iff.1 hh).1, hx.one, fun j c hj => ?_⟩, hx.says⟩
      have hjl : j < cs.toList.length := by rw [← hx.len]; exact (List.getElem?_eq_some_iff.1 hj).1
      refine ⟨cs.toList[j], ?_, hx.rd j c _ hj (List.getElem?_eq_getElem hjl)⟩
      rw [add_mk, Nat.zero_add, hcell, ← Array.getElem?_toList, List.getElem?_eq_getElem hjl]
    · exact listed_D l hc h5 n d g t e hg ht htl
/-- All arguments. -/
theorem args_D {H : Type} {enc : TypeId × Value → H} {P : Program} {w : World} {sp : Nat → Bool} {held : Bool} {r : Reach} {base : Nat} (l : List TypeId) (hc : closedB P l = true) : ∀ {ts : List TypeId} {vs : List Value} {ds : List (DataW H)} {ps : List MemPlace},
    DataW.TrodAll enc P w 0 sp held ts vs ds ps → (∀ t ∈ ts, t ∈ l) → (∀ (j : Nat) t v, ts[j]? = some t → vs[j]? = some v → Value.okWide P w r base t v) →
    ∃ xs : List D, xs.length = vs.length ∧ vs.length = ts.length ∧ (∀ (i : Nat) x v, xs[i]? = some x → vs[i]? = some v → Rd w (F0 w) x v) ∧ ∀ (i : Nat) t x, ts[i]? = some t → xs[i]? = some x → HasTy P t x
  | [], [], [], _, _, _, _ => ⟨[], rfl, rfl, fun i x v h => by simp at h, fun i t x h => by simp at h⟩
  | [], [], _ :: _, _, h, _, _ => h.elim
  | [], _ :: _, _, _, h, _, _ => h.elim
  | _ :: _, [], _, _, h, _, _ => h.elim
  | _ :: _, _ :: _, [], _, h, _, _ => h.elim
  | t :: ts, v :: vs, d :: ds, ps, h, ht, hok => by
    obtain ⟨p, q, h1, h2, -⟩ := h
    obtain ⟨x, x1, x2⟩ := value_D l hc (ht t (by simp)) (hok 0 t v rfl rfl) h1
    obtain ⟨xs, a1, a2, a3, a4⟩ := args_D l hc h2 (fun t' ht' => ht t' (by simp [ht'])) (fun j t' v' h1 h2 => hok (j + 1) t' v' (by simpa using h1) (by simpa using h2))
    refine ⟨x :: xs, by simp [a1], by simp [a2], fun i y u hy hu => ?_, fun i t' y hy hu => ?_⟩
    · cases i with
      | zero => simp at hy hu; subst hy hu; exact x1
      | succ i => exact a3 i y u (by simpa using hy) (by simpa using hu)
    · cases i with
      | zero => simp at hy hu; subst hy hu; exact x2
      | succ i => exact a4 i t' y (by simpa using hy) (by simpa using hu)
theorem trodAll_below {H : Type} {enc : TypeId × Value → H} {P : Program} (hl : laidOutB P = true) {W W' : World} (hb : Below W.heap.size W W') : ∀ {ts : List TypeId} {vs : List Value} {ds : List (DataW H)} {ps : List MemPlace}, (ts.all fun t => P.readableRec t && decide (t < P.types.size)) = true →
    DataW.TrodAll enc P W 0 (fun _ => true) true ts vs ds ps → DataW.TrodAll enc P W' 0 (fun b => decide (b < W.heap.size)) true ts vs ds ps
  | [], [], [], _, _, h => h
  | [], [], _ :: _, _, _, h => h.elim
  | [], _ :: _, _, _, _, h => h.elim
  | _ :: _, [], _, _, _, h => h.elim
  | _ :: _, _ :: _, [], _, _, h => h.elim
  | t :: ts, v :: vs, d :: ds, ps, hr, h => by
    have hlt := DataW.TrodAll.lt h
    obtain ⟨p, q, h1, h2, rfl⟩ := h
    simp only [List.all_cons, Bool.and_eq_true, decide_eq_true_eq] at hr
    exact ⟨p, q, Below.trod hl hr.1.1 hr.1.2 h1 hb fun x hx => hlt x (by simp [hx]), trodAll_below hl hb (by simpa using hr.2) h2, rfl⟩
/-- A law that answers true, leaving all that was there as it was, does what its row asks. -/
theorem post_true {H : Type} {enc : TypeId × Value → H} {P : Program} {fn : Func} {s : ChangeSpec} {tb : TypeId} {W W' : World} {args : Array Value} {ds gs : List (DataW H)} {before : List MemPlace} (hl : laidOutB P = true) (hW : DataW.Whole enc P fn.params.toList s.vars false W args.toList ds gs before) (hvars : s.vars = [])
    (hres : fn.resultTypes = #[tb]) (htb : P.underlying tb = some .bool) (hs : ∀ ds : List (DataW H), ds.length = fn.params.size → s.fn H ds = { results := [.lit (.bool true)], args := ds }) (hr : (fn.params.toList.all fun t => P.readableRec t && decide (t < P.types.size)) = true)
    (hb : Below W.heap.size W W') : s.post enc P fn false true false false W args (.bool true) W' := by
  have hW' := hW
  obtain ⟨p, q, hA, hV, rfl, -, -⟩ := hW
  rw [hvars] at hV
  obtain ⟨rfl, rfl⟩ := trodVars_none hV
  have hlen : ds.length = fn.params.size := by
    have key : ∀ {ts : List TypeId} {vs : List Value} {ds : List (DataW H)} {ps : List MemPlace}, DataW.TrodAll enc P W 0 (fun _ => true) true ts vs ds ps → ds.length = ts.length := by
      intro ts
      induction ts with
      | nil => intro vs ds ps h; cases vs <;> cases ds <;> simp [DataW.TrodAll] at h ⊢
      | cons t ts ih =>
        intro vs ds ps h
        cases vs <;> cases ds <;> simp [DataW.TrodAll] at h
        obtain ⟨p, -, q, h2, -⟩ := h
        simp [ih h2]
    simpa using key hA
  have hfn : s.fn H (ds ++ []) = { results := [.lit (.bool true)], args := ds } := by rw [List.append_nil]; exact hs ds hlen
  refine ⟨ds, [], p ++ [], [], p, [], hW', ?_, ?_, ?_, ⟨hb.os, hb.output, fun i hi => ?_⟩, fun h => by cases h⟩
  · rw [hfn, hres]
    exact trodAll_mk1 (shut_bool htb true)
  · rw [hfn]
    exact trodAll_below hl hb hr hA
  · rw [hfn, hvars]
    rfl
  · rw [hb.block i hi]
    cases hh : W.heap[i]? with
    | none => exact absurd (Array.getElem?_eq_none_iff.1 hh) (by omega)
    | some o => cases o <;> simp
end Go.Abs
