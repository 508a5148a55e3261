/- Rows of the call's own: append, make, loads and stores of elements; and that a row that nobody writes any more counts as data. Conditions: each operation's own. -/
import Derived.Test.YtpjnngfjbcjikaaDoorEng9
import Derived.Maps.AppendAt
import Derived.Laws.OwnMore
namespace Go.Abs
open Go Go.RowKit

theorem mul_idx {i j n size : Nat} (hi : i < n) (hj : j < size) : i * size + j < n * size := by
  have : (i + 1) * size ≤ n * size := Nat.mul_le_mul_right _ hi
  rw [Nat.add_mul, Nat.one_mul] at this
  omega
theorem div_idx {i j size : Nat} (hj : j < size) : (i * size + j) / size = i ∧ (i * size + j) % size = j := by
  have h0 : 0 < size := by omega
  rw [Nat.add_comm, Nat.mul_comm, Nat.add_mul_div_left _ _ h0, Nat.div_eq_of_lt hj, Nat.add_mul_mod_self_left, Nat.mod_eq_of_lt hj]
  exact ⟨by omega, rfl⟩

/-- A row of one's own, as the kit's laws name it. -/
theorem ObOK.owns {w : World} {F : Nat → Prop} {σ : Sg} {B : Nat} {e : TypeId} {size : Nat} {xs : List D} {b c n : Nat} (h : ObOK w F σ B (.row e size xs) (b, c, n)) :
    ∃ us : List Value, w.ownsRow B e size (.slice (some ⟨b, 0, none⟩) n c) n us ∧ n = xs.length ∧ n ≤ c ∧ c ≤ maxLen ∧ (∀ (i : Nat) (x : D) (j : Nat) (cd : D), xs[i]? = some x → x.cells[j]? = some cd → ∃ v, us[i * size + j]? = some v ∧ Rd w F cd v) := by
  obtain ⟨vs, h1, h2, h3, h4, h5, h6, h7, h8, h9, h10⟩ := h
  refine ⟨vs.take (n * size), ⟨?_, .inr ⟨b, c, vs.toArray, rfl, h9, h1, h4, h5, by simp [h2], by simp⟩⟩, h3, h4, h5, fun i x j cd hx hc => ?_⟩
  · rw [List.length_take, h2]
    have := Nat.mul_le_mul_right size h4
    omega
  · obtain ⟨v, e1, e2⟩ := h8 i x j cd hx hc
    refine ⟨v, ?_, e2⟩
    have hi : i < xs.length := (List.getElem?_eq_some_iff.1 hx).1
    have hj : j < x.cells.length := (List.getElem?_eq_some_iff.1 hc).1
    rw [h6 x (List.mem_of_getElem? hx)] at hj
    rw [List.getElem?_take, if_pos (mul_idx (by omega) hj)]
    exact e1
theorem owns_row {w : World} {F : Nat → Prop} {σ : Sg} {B : Nat} {e : TypeId} {size n : Nat} {xs : List D} {v : Value} {us : List Value} (h : w.ownsRow B e size v n us) (hv : v ≠ .slice none 0 0) (hn : n = xs.length)
    (hz : ∀ x ∈ xs, x.cells.length = size) (ho : ∀ x ∈ xs, ∀ c ∈ x.cells, c.one = true)
    (hr : ∀ (i : Nat) (x : D) (j : Nat) (cd : D), xs[i]? = some x → x.cells[j]? = some cd → ∃ v, us[i * size + j]? = some v ∧ Rd w F cd v) (hF : ∀ b, v.ownBlock = some b → ¬ F b) :
    ∃ b c, v = .slice (some ⟨b, 0, none⟩) n c ∧ ObOK w F σ B (.row e size xs) (b, c, n) := by
  obtain ⟨hl, h⟩ := h
  rcases h with ⟨h, -⟩ | ⟨g, cap, cur, rfl, hb, hg, hc, hm, hs, ht⟩
  · exact absurd h hv
  · refine ⟨g, cap, rfl, cur.toList, by simpa using hg, by simpa using hs, hn, hc, hm, hz, ho, fun i x j cd hx hcd => ?_, hb, hF g rfl⟩
    obtain ⟨u, e1, e2⟩ := hr i x j cd hx hcd
    refine ⟨u, ?_, e2⟩
    rw [← ht, List.getElem?_take] at e1
    split at e1
    · exact e1
    · cases e1

/-- One object gives way to another, in its block or in a new one; all else is as it was. -/
theorem WInv.regrow {E : Env} {B : Nat} {F : Nat → Prop} {σ : Sg} {ob ob0 : List AObj} {w w' : World} {row : Option Nat} (h : WInv E B F σ ob w)
    (hk : ∀ (o : Nat) x, ob0[o]? = some x → x.live = true → ob[o]? = some x ∧ ∀ p, σ[o]? = some p → some p.1 ≠ row) (hlen : ob0.length = ob.length)
    (hg : w.grownBy w' row) (hF : ∀ k, row = some k → ¬ F k) (y : AObj) (g c n : Nat) (hgn : row = some g ∨ w.heap.size ≤ g)
    (hy : ObOK w' F (σ ++ [(g, c, n)]) B y (g, c, n)) : WInv E B F (σ ++ [(g, c, n)]) (ob0 ++ [y]) w' := by
  have keep : ∀ b, F b → w'.heap[b]? = w.heap[b]? := fun b hb => hg.block b (h.flt b hb) fun e => hF b e.symm hb
  have cases_ : ∀ (k : Nat) z p, (ob0 ++ [y])[k]? = some z → (σ ++ [(g, c, n)])[k]? = some p → (k < ob0.length ∧ ob0[k]? = some z ∧ σ[k]? = some p) ∨ (k = ob0.length ∧ z = y ∧ p = (g, c, n)) := by
    intro k z p hz hp
    rcases Nat.lt_or_ge k ob0.length with hlt | hge
    · rw [List.getElem?_append_left hlt] at hz
      rw [List.getElem?_append_left (by rw [h.len]; omega)] at hp
      exact .inl ⟨hlt, hz, hp⟩
    · rw [List.getElem?_append_right hge] at hz
      rw [List.getElem?_append_right (by rw [h.len]; omega), h.len] at hp
      have hk0 : k - ob0.length = 0 := by
        rcases Nat.eq_zero_or_pos (k - ob0.length) with h0 | h0
        · exact h0
        · rw [List.getElem?_eq_none (by simp; omega)] at hz; cases hz
      have hk1 : k - ob.length = 0 := by omega
      rw [hk0] at hz
      rw [hk1] at hp
      simp at hz hp
      exact .inr ⟨by omega, hz.symm, hp.symm⟩
  refine ⟨fun b hb => Nat.lt_of_lt_of_le (h.flt b hb) hg.size, h.glob.mono (fun _ h => h) keep, by simp [h.len, hlen], fun k z p hz hp => ?_, fun k k' z z' p p' hne hz hl hz' hl' hp hp' => ?_⟩
  · rcases cases_ k z p hz hp with ⟨h1, h2, h3⟩ | ⟨-, rfl, rfl⟩
    · cases hlv : z.live with
      | false => cases z <;> simp [AObj.live] at hlv <;> trivial
      | true =>
        obtain ⟨h4, h5⟩ := hk k z h2 hlv
        have ho := h.obs k z p h4 h3
        exact ho.mono (fun _ h => h) keep σ_app (fun hl => hg.block _ (ho.lt hl) (h5 p h3)) (fun _ h => h)
    · exact hy
  · have far : ∀ (k : Nat) z p, ob0[k]? = some z → z.live = true → σ[k]? = some p → p.1 ≠ g := by
      intro k z p h2 hlv h3 e
      obtain ⟨h4, h5⟩ := hk k z h2 hlv
      have hlt := (h.obs k z p h4 h3).lt hlv
      rcases hgn with h6 | h6
      · exact h5 p h3 (by rw [e, h6])
      · omega
    rcases cases_ k z p hz hp with ⟨h1, h2, h3⟩ | ⟨h1, rfl, rfl⟩ <;> rcases cases_ k' z' p' hz' hp' with ⟨h1', h2', h3'⟩ | ⟨h1', rfl, rfl⟩
    · exact h.inj k k' z z' p p' hne (hk k z h2 hl).1 hl (hk k' z' h2' hl').1 hl' h3 h3'
    · exact far k z p h2 hl h3
    · exact fun e => far k' z' p' h2' hl' h3' e.symm
    · omega

theorem below_grown {B : Nat} {w0 w w' : World} {row : Option Nat} (h1 : Below B w0 w) (hg : w.grownBy w' row) (hB : B ≤ w.heap.size) (hr : ∀ k, row = some k → B ≤ k) : Below B w0 w' :=
  h1.trans ⟨hg.os, hg.tape, hg.output, hg.size, fun k hk => hg.block k (by omega) fun e => by have := hr k e.symm; omega⟩

section
variable {C : Cx} {s : St} {o : Oper} {x : X}

theorem rel_regrow {C : Cx} {s : St} {a : Act} {w w' : World} {F : Nat → Prop} {σ : Sg} {o : Oper} {y : X} {v : Value} {ob0 : List AObj} {z : AObj} {g c n : Nat} {row : Option Nat}
    (h1 : Below C.w0.heap.size C.w0 w) (h2 : ∀ b, C.F0 b → F b) (h3 : ∀ b, F b → C.F0 b ∨ C.w0.heap.size ≤ b) (hi : WInv C.E C.w0.heap.size F σ s.ob w)
    (h4 : a.defers = []) (h5 : a.tmps.size = C.N) (hs : ∀ t, RdX w F σ (lk s.tm t) (a.tmps.getD t undef)) (hd : dstOK C o = true)
    (hk : ∀ (o : Nat) x, ob0[o]? = some x → x.live = true → s.ob[o]? = some x ∧ ∀ p, σ[o]? = some p → some p.1 ≠ row) (hlen : ob0.length = s.ob.length)
    (hg : w.grownBy w' row) (hF : ∀ k, row = some k → ¬ F k ∧ C.w0.heap.size ≤ k) (hgn : row = some g ∨ w.heap.size ≤ g)
    (hy : ObOK w' F (σ ++ [(g, c, n)]) C.w0.heap.size z (g, c, n)) (hv : RdX w' F (σ ++ [(g, c, n)]) y v) :
    C.Rel (St.put ⟨s.tm, ob0 ++ [z]⟩ o.dst y) (a.put o.dst v) w' := by
  have keep : ∀ b, F b → w'.heap[b]? = w.heap[b]? := fun b hb => hg.block b (hi.flt b hb) fun e => (hF b e.symm).1 hb
  refine ⟨F, σ ++ [(g, c, n)], below_grown h1 hg h1.size (fun k hk => (hF k hk).2), h2, h3, ?_, by rw [Act.put_def]; exact h4, by rw [Act.put_size]; exact h5, ?_⟩
  · rw [St.put_ob]
    exact hi.regrow hk hlen hg (fun k hk => (hF k hk).1) z g c n hgn hy
  · exact lk_put (N := C.N) (s := ⟨s.tm, ob0 ++ [z]⟩) (fun t => (hs t).mono (fun _ h => h) keep σ_app) h5 (dstOK_lt hd) fun _ => hv

/-- The cells of a row of data, in a list. -/
theorem cells_of {w : World} {F : Nat → Prop} {ys : List D} {v : Value} (h : Rd w F (.sl ys) v) (size : Nat) (hz : ∀ y ∈ ys, y.cells.length = size) (hne : ys ≠ []) :
    ∃ ad cap, v = .slice (some ad) ys.length cap ∧ (∀ y ∈ ys, ∀ c ∈ y.cells, c.one = true) ∧ ∃ news : List Value, news.length = ys.length * size ∧ (∀ (j : Nat) u, news[j]? = some u → w.cell? (ad.add j) = some u) ∧ (∀ u ∈ news, u.oneCell' = true) ∧
      ∀ (i : Nat) (x : D) (j : Nat) (cd : D), ys[i]? = some x → x.cells[j]? = some cd → ∃ v, news[i * size + j]? = some v ∧ Rd w F cd v := by
  rcases Rd.sl_inv h with ⟨rfl, -⟩ | ⟨size', ad, cap, hev, h1, h2, h3, h4, h5, h6⟩
  · exact absurd rfl hne
  obtain ⟨y0, hy0⟩ := List.exists_mem_of_ne_nil ys hne
  obtain rfl : size' = size := by rw [← h4 y0 hy0, hz y0 hy0]
  have get : ∀ q, q < ys.length * size' → ∃ u, w.cell? (ad.add q) = some u ∧ u.oneCell' = true := by
    intro q hq
    have hs0 : 0 < size' := by
      rcases Nat.eq_zero_or_pos size' with h0 | h0
      · rw [h0] at hq; omega
      · exact h0
    have hlt : q / size' < ys.length := Nat.div_lt_of_lt_mul (by rw [Nat.mul_comm]; exact hq)
    have hx := List.getElem?_eq_getElem hlt
    have hm : q % size' < (ys[q / size']).cells.length := by rw [h4 _ (List.getElem_mem hlt)]; exact Nat.mod_lt _ hs0
    obtain ⟨u, e1, e2⟩ := h6 _ _ (q % size') _ hx (List.getElem?_eq_getElem hm)
    refine ⟨u, ?_, e2.one (h5 _ (List.getElem_mem hlt) _ (List.getElem_mem hm))⟩
    rw [show q / size' * size' + q % size' = q from by rw [Nat.mul_comm]; exact Nat.div_add_mod q size'] at e1
    exact e1
  have look : ∀ (j : Nat) u, ((List.range (ys.length * size')).map fun q => (w.cell? (ad.add q)).getD undef)[j]? = some u → j < ys.length * size' ∧ w.cell? (ad.add j) = some u ∧ u.oneCell' = true := by
    intro j u hj
    rw [List.getElem?_map, Option.map_eq_some_iff] at hj
    obtain ⟨q, hq, rfl⟩ := hj
    have hlt : j < ys.length * size' := by
      have := (List.getElem?_eq_some_iff.1 hq).1
      simpa using this
    rw [List.getElem?_range hlt] at hq
    cases hq
    obtain ⟨u, e1, e2⟩ := get j hlt
    rw [e1]
    exact ⟨hlt, rfl, e2⟩
  refine ⟨ad, cap, hev, h5, (List.range (ys.length * size')).map fun q => (w.cell? (ad.add q)).getD undef, by simp, fun j u hj => (look j u hj).2.1, fun u hu => ?_, fun i x j cd hx hc => ?_⟩
  · obtain ⟨j, hj⟩ := List.getElem?_of_mem hu
    exact (look j u hj).2.2
  · obtain ⟨u, e1, e2⟩ := h6 i x j cd hx hc
    have hi : i < ys.length := (List.getElem?_eq_some_iff.1 hx).1
    have hj : j < x.cells.length := (List.getElem?_eq_some_iff.1 hc).1
    rw [h4 x (List.mem_of_getElem? hx)] at hj
    refine ⟨u, ?_, e2⟩
    rw [List.getElem?_map, List.getElem?_range (mul_idx hi hj)]
    simp [e1]

/-- What append's first argument holds: nil, or a row of the call's own. -/
def ownX (ob : List AObj) : X → Option (Option Nat × TypeId × Nat × List D)
  | .own i => (match ob[i]? with
    | some (.row e size xs) => some (some i, e, size, xs)
    | _ => none)
  | _ => none

/-- append onto nil or onto a row of the call's own. -/
theorem s_append {t : TypeId} {y z : Operand} {te : TE} {xs ys : List D} {oi : Option Nat} (ho : o.op = .call { callee := .builtin .append, args := #[y, z], argTypes := #[t, t] }) (hte : elemT C.E t = some te)
    (hy : (oi = none ∧ s.ev C.E y = .nilS ∧ xs = []) ∨ ∃ i, oi = some i ∧ s.ev C.E y = .own i ∧ s.ob[i]? = some (.row te.t te.size xs)) (hz : s.ev C.E z = .d (.sl ys)) (hne : ys ≠ []) (hsz : ∀ d ∈ ys, d.cells.length = te.size)
    (hzs : te.zero.cells.size = te.size) (hs0 : 0 < te.size) (hlen : (xs.length + ys.length) * te.bytes ≤ 140737488355328) (hmx : xs.length + ys.length ≤ 9223372036854775807) (hd : dstOK C o = true) :
    SOp C s o (St.put ⟨s.tm, (match oi with | some i => s.ob.set i .dead | none => s.ob) ++ [.row te.t te.size (xs ++ ys)]⟩ o.dst (.own s.ob.length)) := by
  obtain ⟨hu, hok⟩ := elemT_ok hte
  obtain ⟨hdesc, i0, hi0, hsize, hbytes, hzero⟩ := hok
  rintro w a K Q ⟨F, σ, h1, h2, h3, hi, h4, h5, hs⟩ hK
  have hvy := ev_rd (E := C.E) hi hs y
  have hvz := ev_rd (E := C.E) hi hs z
  rw [hz] at hvz
  obtain ⟨ad, cap, hev, hone, news, n1, n2, n3, n4⟩ := cells_of hvz te.size hsz hne
  have hypos : 0 < ys.length := List.length_pos_iff.2 hne
  -- what the first argument is
  have hfirst : ∃ us, w.ownsRow C.w0.heap.size te.t te.size (a.eval y) xs.length us ∧ (∀ (i : Nat) (x : D) (j : Nat) (cd : D), xs[i]? = some x → x.cells[j]? = some cd → ∃ v, us[i * te.size + j]? = some v ∧ Rd w F cd v) ∧
      (∀ b, (a.eval y).ownBlock = some b → ¬ F b ∧ C.w0.heap.size ≤ b) ∧ (∀ d ∈ xs, d.cells.length = te.size) ∧ (∀ d ∈ xs, ∀ c ∈ d.cells, c.one = true) ∧
      (∀ (k : Nat) q, (match oi with | some i => s.ob.set i .dead | none => s.ob)[k]? = some q → q.live = true → s.ob[k]? = some q ∧ ∀ p, σ[k]? = some p → some p.1 ≠ (a.eval y).ownBlock) := by
    rcases hy with ⟨rfl, hy, rfl⟩ | ⟨i, rfl, hy, hob⟩
    · rw [hy] at hvy
      rw [show a.eval y = .slice none 0 0 from hvy]
      exact ⟨[], World.ownsRow_nil _ _ _ _, fun i x j cd hx => by simp at hx, fun b hb => by simp [Value.ownBlock] at hb, by simp, by simp, fun k q hq _ => ⟨hq, fun p _ => by simp [Value.ownBlock]⟩⟩
    · rw [hy] at hvy
      obtain ⟨b, c, n, p1, p2⟩ := hvy
      have hobs := hi.obs i _ _ hob p1
      obtain ⟨us, q1, q2, q3, q4, q5⟩ := hobs.owns
      obtain ⟨vs, -, -, -, -, -, r6, r7, -, r9, r10⟩ := hobs
      rw [p2, ← q2]
      refine ⟨us, q1, q5, fun b' hb' => ?_, r6, r7, fun k q hq hl => ?_⟩
      · simp [Value.ownBlock] at hb'; subst hb'; exact ⟨r10, r9⟩
      · simp only [List.getElem?_set] at hq
        split at hq
        · split at hq
          · cases hq; simp [AObj.live] at hl
          · cases hq
        · rename_i hne'
          refine ⟨hq, fun p hp he => ?_⟩
          simp only [Value.ownBlock, Option.some.injEq] at he
          exact hi.inj k i q _ p (b, c, n) (fun e => hne' e.symm) hq hl hob rfl hp p1 he
  obtain ⟨us, f1, f2, f3, f4, f5, f6⟩ := hfirst
  obtain ⟨v', w', a1, a2, a3, a4, a5⟩ := run_append_own_at (P := C.E.P) w C.w0.heap.size t o.type te.t i0 te.zero te.size te.bytes hu hi0 hzero hsize hbytes hzs hs0 (a.eval y) xs.length us f1 ad ys.length cap news n1 n2 n3
    (by simpa [maxLen] using hmx) hlen h1.size
  have hrun : (execOp a.eval o).run C.E.P w = .ok (.value v') w' := by
    rw [← hev] at a1
    simp [execOp, ho, resolve, invoke, builtin, a1]
  unfold Oper.wp
  rw [hrun]
  have hnn : v' ≠ .slice none 0 0 := fun e => by
    have := (a4.1 e).2
    omega
  have hFy : ∀ k, (a.eval y).ownBlock = some k → ¬ F k := fun k hk => (f3 k hk).1
  have keep : ∀ b, F b → w'.heap[b]? = w.heap[b]? := fun b hb => a3.block b (hi.flt b hb) fun e => hFy b e.symm hb
  obtain ⟨g, c, rfl, hob'⟩ := owns_row (F := F) (σ := σ ++ [(0, 0, 0)]) (xs := xs ++ ys) a2 hnn (by simp) (fun d hd => by rcases List.mem_append.1 hd with h | h; exact f4 d h; exact hsz d h)
    (fun d hd => by rcases List.mem_append.1 hd with h | h; exact f5 d h; exact hone d h)
    (fun i x j cd hx hc => by
      rcases Nat.lt_or_ge i xs.length with hlt | hge
      · rw [List.getElem?_append_left hlt] at hx
        obtain ⟨v, e1, e2⟩ := f2 i x j cd hx hc
        refine ⟨v, ?_, e2.mono (fun _ h => h) keep⟩
        rw [List.getElem?_append_left (List.getElem?_eq_some_iff.1 e1).1]
        exact e1
      · rw [List.getElem?_append_right hge] at hx
        obtain ⟨v, e1, e2⟩ := n4 (i - xs.length) x j cd hx hc
        refine ⟨v, ?_, e2.mono (fun _ h => h) keep⟩
        have hul : us.length = xs.length * te.size := f1.1
        have hsplit : i * te.size = xs.length * te.size + (i - xs.length) * te.size := by rw [← Nat.add_mul]; congr 1; omega
        rw [List.getElem?_append_right (by omega), hul, show i * te.size + j - xs.length * te.size = (i - xs.length) * te.size + j from by omega]
        exact e1)
    (fun b hb hf => by
      rcases a5 with h | h
      · rw [h] at hb; exact hFy b hb hf
      · rw [h] at hb; cases hb; exact absurd (hi.flt _ hf) (Nat.lt_irrefl _))
  have hob'' : ObOK w' F (σ ++ [(g, c, xs.length + ys.length)]) C.w0.heap.size (.row te.t te.size (xs ++ ys)) (g, c, xs.length + ys.length) := hob'
  refine hK _ _ (rel_regrow (row := (a.eval y).ownBlock) (g := g) (c := c) (n := xs.length + ys.length) h1 h2 h3 hi h4 h5 hs hd f6 ?_ a3 (fun k hk => f3 k hk) ?_ hob'' ⟨g, c, xs.length + ys.length, ?_, rfl⟩)
  · cases oi <;> simp
  · rcases a5 with h | h
    · exact .inl (by rw [← h]; rfl)
    · simp only [Value.ownBlock, Option.some.injEq] at h
      exact .inr (by omega)
  · rw [← hi.len]; simp
end
end Go.Abs
