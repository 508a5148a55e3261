/- Literals of slices, conversions, sub-slices, and one step for these operations beside the elder ones. Conditions: each operation's own. -/
import Derived.Test.YtpjnngfjbcjikaaDoorEng11
import Derived.Laws.BytesArg
namespace Go.Abs
open Go Go.RowKit

section
variable {C : Cx} {s : St} {o : Oper} {x : X} {p : Prop}

def partsX (E : Env) (s : St) (size : Nat) : Nat → List (Nat × Operand) → Option (List D)
  | _, [] => some []
  | k, (i, y) :: r => bif Nat.beq i k then (match toD (s.ev E y) with
    | some d => bif Nat.beq d.cells.length size then (match partsX E s size (k + 1) r with
      | some ds => some (d :: ds)
      | none => none) else none
    | none => none) else none

theorem fill_parts {E : Env} {size : Nat} {w : World} {F : Nat → Prop} {σ : Sg} {a : Act} : ∀ (parts : List (Nat × Operand)) (k : Nat) (vs : Array Value) (ds : List D), partsX E s size k parts = some ds → (k + ds.length) * size ≤ vs.size →
    (∀ q ∈ parts, RdX w F σ (s.ev E q.2) (a.eval q.2)) →
    ∃ vs', Instr.fill (fun i => some (i * size, size)) vs (parts.map fun q => (q.1, a.eval q.2)) = some vs' ∧ vs'.size = vs.size ∧ (∀ j, j < k * size → vs'.toList[j]? = vs.toList[j]?) ∧
      (∀ d ∈ ds, d.cells.length = size) ∧ (∀ d ∈ ds, ∀ c ∈ d.cells, c.one = true) ∧ ∀ (i : Nat) (x : D) (j : Nat) (cd : D), ds[i]? = some x → x.cells[j]? = some cd → ∃ v, vs'.toList[(k + i) * size + j]? = some v ∧ Rd w F cd v
  | [], k, vs, ds, h, _, _ => by
    simp only [partsX] at h
    cases h
    exact ⟨vs, rfl, rfl, fun _ _ => rfl, by simp, by simp, fun i x j cd h => by simp at h⟩
  | (i, y) :: r, k, vs, ds, h, hsz, hall => by
    simp only [partsX] at h
    cases hb : Nat.beq i k with
    | false => rw [hb] at h; cases h
    | true =>
      obtain rfl := Nat.eq_of_beq_eq_true hb
      rw [hb] at h
      simp only [cond_true] at h
      split at h
      · rename_i d hd
        cases hc : Nat.beq d.cells.length size with
        | false => rw [hc] at h; cases h
        | true =>
          rw [hc] at h
          simp only [cond_true] at h
          have hdl := Nat.eq_of_beq_eq_true hc
          split at h
          · rename_i ds' hds
            cases h
            have hv : Rd w F d (a.eval y) := toD_rd hd (hall (i, y) (by simp))
            obtain ⟨c1, c2, c3⟩ := hv.cells
            simp only [List.length_cons] at hsz
            have hexp : (i + (ds'.length + 1)) * size = i * size + size + ds'.length * size := by
              rw [Nat.add_mul, Nat.add_mul, Nat.one_mul]; omega
            have hset := setV_spec (a.eval y).cells.toList vs (i * size) 0 (by simp; omega)
            simp only [Nat.add_zero, Array.length_toList, c1, hdl] at hset
            have hl1 : (List.take (i * size) vs.toList).length = i * size := by rw [List.length_take, Array.length_toList]; omega
            have hl2 : (a.eval y).cells.toList.length = size := by simp [c1, hdl]
            have hsize' : (((a.eval y).cells.toList.zipIdx 0).foldl (fun cs (c, j) => cs.setIfInBounds (i * size + j) c) vs).size = vs.size := by
              rw [← Array.length_toList, hset]
              simp only [List.length_append, List.length_take, List.length_drop, Array.length_toList, c1, hdl]
              omega
            obtain ⟨vs', e1, e2, e3, e4, e5, e6⟩ := fill_parts r (i + 1) _ ds' hds (by rw [hsize']; rw [Nat.add_mul, Nat.add_mul, Nat.one_mul]; omega) (fun q hq => hall q (by simp [hq]))
            have low : ∀ j, j < i * size + size → vs'.toList[j]? = (vs.toList.take (i * size) ++ (a.eval y).cells.toList ++ vs.toList.drop (i * size + size))[j]? := by
              intro j hj
              rw [e3 j (by rw [Nat.add_mul, Nat.one_mul]; exact hj), hset]
            refine ⟨vs', ?_, e2.trans hsize', fun j hj => ?_, fun d' hd' => ?_, fun d' hd' => ?_, fun i' x j cd hx hcd => ?_⟩
            · simp only [List.map_cons, Instr.fill]
              rw [if_neg (by simp only [Bool.or_eq_true, decide_eq_true_eq]; omega)]
              rw [← e1]
              congr 1
              rw [← Array.foldl_toList]
              congr 1
              simp [Array.toList_zipIdx]
            · rw [low j (by omega), List.append_assoc, List.getElem?_append_left (by omega), List.getElem?_take, if_pos hj]
            · rcases List.mem_cons.1 hd' with h | h
              · rw [h]; exact hdl
              · exact e4 d' h
            · rcases List.mem_cons.1 hd' with h | h
              · rw [h]; exact c3
              · exact e5 d' h
            · cases i' with
              | zero =>
                simp at hx
                subst hx
                have hj : j < size := by rw [← hdl]; exact (List.getElem?_eq_some_iff.1 hcd).1
                rw [Nat.add_zero, low _ (by omega), List.append_assoc, List.getElem?_append_right (by omega), hl1, show i * size + j - i * size = j from by omega, List.getElem?_append_left (by omega)]
                have hlt : j < (a.eval y).cells.toList.length := by omega
                exact ⟨_, List.getElem?_eq_getElem hlt, c2 j cd _ hcd (by simp)⟩
              | succ i' =>
                obtain ⟨v, r1, r2⟩ := e6 i' x j cd (by simpa using hx) hcd
                refine ⟨v, ?_, r2⟩
                rw [← r1]
                congr 2
                rw [show i + (i' + 1) = i + 1 + i' from by omega]
          · cases h
      · cases h

theorem v_buildSlice {t : TypeId} {n : Nat} {parts : List (Nat × Operand)} {te : TE} {ds : List D} (ho : o.op = .buildSlice t n parts.toArray) (hte : elemT C.E t = some te) (hp : partsX C.E s te.size 0 parts = some ds) (hn : n = ds.length)
    (hsm : n * te.size ≤ 16777216) (hn6 : n ≤ 16777216) : VOp C s o (.d (.sl ds)) := by
  obtain ⟨hu, hok⟩ := elemT_ok hte
  intro F σ w a K Q hi hr hK
  have hsz := sizeOf_run (w := w) hok
  have fin : ∀ zs : Array Value, ∃ vs', Instr.fill (fun i => some (i * te.size, te.size)) ((Array.range (n * te.size)).map (zs[· % zs.size]!)) (parts.map fun q => (q.1, a.eval q.2)) = some vs' ∧ (∀ d ∈ ds, d.cells.length = te.size) ∧ (∀ d ∈ ds, ∀ c ∈ d.cells, c.one = true) ∧
      ∀ (i : Nat) (x : D) (j : Nat) (cd : D), ds[i]? = some x → x.cells[j]? = some cd → ∃ v, vs'.toList[(0 + i) * te.size + j]? = some v ∧ Rd w F cd v := fun zs => by
    obtain ⟨vs', e1, -, -, e4, e5, e6⟩ := fill_parts (s := s) (E := C.E) (size := te.size) (w := w) (F := F) (σ := σ) (a := a) parts 0 ((Array.range (n * te.size)).map (zs[· % zs.size]!)) ds hp (by simp [hn]) (fun q hq => hr q.2 (by simp [ho, Op.operands]; exact ⟨q.1, hq⟩))
    exact ⟨vs', e1, e4, e5, e6⟩
  have hparts : (parts.toArray.map fun (i, x) => (i, a.eval x)).toList = parts.map fun q => (q.1, a.eval q.2) := by simp
  obtain ⟨vs', hrun, e4, e5, e6⟩ : ∃ vs', (execOp a.eval o).run C.E.P w = .ok (.value (.slice (some ⟨w.heap.size, 0, none⟩) n n)) (w.alloc (.cells vs' te.t)) ∧ (∀ d ∈ ds, d.cells.length = te.size) ∧ (∀ d ∈ ds, ∀ c ∈ d.cells, c.one = true) ∧
      ∀ (i : Nat) (x : D) (j : Nat) (cd : D), ds[i]? = some x → x.cells[j]? = some cd → ∃ v, vs'.toList[(0 + i) * te.size + j]? = some v ∧ Rd w F cd v := by
    by_cases h0 : n * te.size = 0
    · obtain ⟨vs', e1, e456⟩ := fin #[]
      refine ⟨vs', ?_, e456⟩
      simp only [execOp, ho, Instr.buildSlice, Sem.run_bind, run_underlying hu, Result.andThen_ok, hsz]
      rw [if_neg (by omega), if_pos h0]
      simp only [Sem.run_bind, Sem.run_pure, Result.andThen_ok, hparts, e1, newRow]
      rfl
    · obtain ⟨vs', e1, e456⟩ := fin te.zero.cells
      refine ⟨vs', ?_, e456⟩
      simp only [execOp, ho, Instr.buildSlice, Sem.run_bind, run_underlying hu, Result.andThen_ok, hsz]
      rw [if_neg (by omega), if_neg h0]
      simp only [Sem.run_bind, Sem.run_pure, Result.andThen_ok, zero_run hok, hparts, e1, newRow]
      rfl
  unfold Oper.wp
  rw [hrun]
  have hx := ext_alloc (F := F) (.cells vs' te.t) hi.flt
  have he : Ext w F (w.alloc (.cells vs' te.t)) (fun b => F b ∨ b = w.heap.size) :=
    ⟨hx.below, fun b h => .inl h, fun b h => by rcases h with h | h; exact .inl h; exact .inr (by omega), fun b h => by rcases h with h | h; exact hx.lt b h; rw [h]; simp⟩
  refine hK _ _ _ he ?_
  have hex : ∀ i j, ∃ u, ∀ x cd, ds[i]? = some x → x.cells[j]? = some cd → vs'.toList[i * te.size + j]? = some u ∧ Rd w F cd u := by
    intro i j
    cases hx : ds[i]? with
    | none => exact ⟨undef, fun x cd h => by cases h⟩
    | some x =>
      cases hc : x.cells[j]? with
      | none => exact ⟨undef, fun x' cd h h' => by cases h; rw [hc] at h'; cases h'⟩
      | some cd =>
        obtain ⟨u, e1, e2⟩ := e6 i x j cd hx hc
        rw [Nat.zero_add] at e1
        exact ⟨u, fun x' cd' h h' => by cases h; rw [hc] at h'; cases h'; exact ⟨e1, e2⟩⟩
  have hheap : (w.alloc (.cells vs' te.t)).heap[w.heap.size]? = some (.cells vs'.toList.toArray te.t (0, 0)) := by simpa using heap_push
  have hmx' : n ≤ maxLen := by show n ≤ 9223372036854775807; omega
  subst hn
  exact Rd.sl te.size ds ⟨w.heap.size, 0, none⟩ ds.length (fun i j => Classical.choose (hex i j)) (Nat.le_refl _) hmx' (fun _ => .inr rfl) e4 e5 (fun i x j cd hx hc => by
      rw [add_mk, cell_vs hheap, Nat.zero_add]
      exact (Classical.choose_spec (hex i j) x cd hx hc).1) (fun i x j cd hx hc => (((Classical.choose_spec (hex i j) x cd hx hc).2).ext he hi.flt))
end
end Go.Abs
