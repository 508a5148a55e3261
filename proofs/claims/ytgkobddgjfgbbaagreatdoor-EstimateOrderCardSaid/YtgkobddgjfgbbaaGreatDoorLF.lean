/- A function over data may be lent a row; the product along an order; The product along an order, by the statement's own function; The statement on Order. Conditions: each part's own, as it says. -/
import Derived.Test.YtgkobddgjfgbbaaGreatDoorGC
import Derived.Test.YtgkobddgjfgbbaaGreatDoorLE
set_option linter.unusedVariables false
set_option linter.unusedSimpArgs false
/- A function over data may be lent a row; the product along an order. Conditions: an order that has each atom once. -/
namespace Go.Proofs.YtgkobddgjfgbbaaGreatDoor
open Go Go.Abs Go.Val Go.RowKit Go.Proofs

/-- What a function over data answers with a plain value, it answers as well where its last argument is a row that the caller goes on to own. -/
theorem lend_row {f : FuncId} {ds xs : List D} {e : TypeId} {size : Nat} {u : Value} (h : Ev E f (ds ++ [.sl xs]) (.d (.imm u))) : EvS E f (ds.map .d ++ [.own 0]) [.row e size xs] (.d (.imm u)) [.row e size xs] := by
  intro w F σ vs hi hl hr
  have hlen : vs.length = ds.length + 1 := by simpa using hl
  obtain ⟨v, hv⟩ : ∃ v, vs[ds.length]? = some v := ⟨_, List.getElem?_eq_getElem (by omega)⟩
  obtain ⟨b, c, n, e1, rfl⟩ := hr ds.length (.own 0) v (by rw [List.getElem?_append_right (by simp)]; simp) hv
  obtain ⟨cs, g1, g2, g3, g4, g5, g6, g7, g8, g9, g10⟩ := hi.obs 0 _ _ rfl e1
  have hbl : b < w.heap.size := (Array.getElem?_eq_some_iff.1 g1).1
  have hnew : Rd w (fun i => F i ∨ i = b) (.sl xs) (.slice (some ⟨b, 0, none⟩) n c) := by
    have hex : ∀ i j, ∃ u, ∀ x cd, xs[i]? = some x → x.cells[j]? = some cd → cs[i * size + j]? = some u ∧ Rd w F cd u := by
      intro i j
      cases hx : xs[i]? with
      | none => exact ⟨undef, fun x cd h => by cases h⟩
      | some x =>
        cases hc : x.cells[j]? with
        | none => exact ⟨undef, fun x' cd h h' => by cases h; rw [hc] at h'; cases h'⟩
        | some cd =>
          obtain ⟨u, e1, e2⟩ := g8 i x j cd hx hc
          exact ⟨u, fun x' cd' h h' => by cases h; rw [hc] at h'; cases h'; exact ⟨e1, e2⟩⟩
    rw [g3]
    refine .sl size xs ⟨b, 0, none⟩ c (fun i j => Classical.choose (hex i j)) (by omega) g5 (fun _ => .inr rfl) g6 g7 (fun i x j cd hx hc => ?_) (fun i x j cd hx hc => ?_)
    · have := (Classical.choose_spec (hex i j) x cd hx hc).1
      rw [add_mk, Nat.zero_add]
      unfold World.cell?
      simp only [g1]
      simpa using this
    · exact (Classical.choose_spec (hex i j) x cd hx hc).2.mono (fun _ h => .inl h) fun _ _ => rfl
  refine (h w (fun i => F i ∨ i = b) vs (fun k hk => ?_) (hi.glob.mono (fun _ h => .inl h) fun _ _ => rfl) (by simp [hlen]) fun i d v' hd hv' => ?_).mono ?_
  · rcases hk with hk | rfl
    · exact hi.flt k hk
    · exact hbl
  · rcases Nat.lt_or_ge i ds.length with hlt | hge
    · rw [List.getElem?_append_left hlt] at hd
      exact Rd.mono (hr i (.d d) v' (by rw [List.getElem?_append_left (by simpa using hlt), List.getElem?_map, hd]; rfl) hv') (fun _ h => .inl h) fun _ _ => rfl
    · rw [List.getElem?_append_right hge] at hd
      have h0 : i = ds.length := by
        rcases Nat.eq_zero_or_pos (i - ds.length) with h | h
        · omega
        · rw [List.getElem?_eq_none (by simp; omega)] at hd; cases hd
      subst h0
      rw [Nat.sub_self] at hd
      cases hd
      rw [hv] at hv'
      cases hv'
      exact hnew
  · rintro ev w' ⟨v', F', rfl, hext, hrd⟩
    have hb := hext.below
    obtain ⟨rfl, hok⟩ := Rd.imm_inv (show Rd w' F' (.imm u) v' from hrd)
    exact ⟨_, F, σ, rfl, Kept.of_below hb fun k hk => hk.1, fun _ h => h, fun _ h => .inl h, fun i p _ hp => hp, (WInv.lend hi).ext (Ext.of_below hb hi.flt), Rd.imm _ hok⟩
theorem atom_evS (s : ST) (a : AT) (b : List Int) : EvS E 9 [.d (encST s), .d (encAT a), .own 0] [.row 3 1 (iL b)] (.d (.int (atomF s a b))) [.row 3 1 (iL b)] :=
  lend_row (ds := [encST s, encAT a]) (atom_ev s a b)
/-- The bound for an atom hangs on which variables are bound, not on their order. -/
theorem atom_mem (s : ST) (a : AT) {b b' : List Int} (h : ∀ v, b.contains v = b'.contains v) : atomF s a b = atomF s a b' := by
  unfold atomF
  simp only [h]
theorem bound_mem (c : CJ) (set : Nat) (v : Int) : v ∈ boundF c set ↔ ∃ j a, c.as[j]? = some a ∧ set.testBit j = true ∧ v ∈ a.vs := by
  unfold boundF
  simp only [List.mem_flatMap, List.mem_range]
  constructor
  · rintro ⟨j, hj, hv⟩
    cases hb : set.testBit j with
    | false => rw [hb] at hv; simp at hv
    | true =>
      rw [hb, List.getElem?_eq_getElem hj] at hv
      exact ⟨j, c.as[j], List.getElem?_eq_getElem hj, hb, by simpa using hv⟩
  · rintro ⟨j, a, hj, hb, hv⟩
    exact ⟨j, (List.getElem?_eq_some_iff.1 hj).1, by rw [hb, hj]; exact hv⟩
theorem bound_add {c : CJ} {set i : Nat} {a : AT} (ha : c.as[i]? = some a) (hb : set.testBit i = false) (v : Int) : (boundF c (set + 2 ^ i)).contains v = ((boundF c set).contains v || a.vs.contains v) := by
  rw [Bool.eq_iff_iff]
  simp only [Bool.or_eq_true, List.contains_iff_mem, bound_mem]
  constructor
  · rintro ⟨j, x, hj, hbj, hv⟩
    rw [bit_add hb, Bool.or_eq_true] at hbj
    rcases hbj with h | h
    · exact .inl ⟨j, x, hj, h, hv⟩
    · have : j = i := by simpa using h
      subst this
      rw [ha] at hj
      cases hj
      exact .inr hv
  · rintro (⟨j, x, hj, hbj, hv⟩ | hv)
    · exact ⟨j, x, hj, by rw [bit_add hb, hbj]; rfl, hv⟩
    · exact ⟨i, a, ha, by rw [bit_add hb]; simp, hv⟩
end Go.Proofs.YtgkobddgjfgbbaaGreatDoor

/- The product along an order, by the statement's own function. Conditions: an order that has each atom once. -/
namespace Go.Proofs.YtgkobddgjfgbbaaGreatDoor
open Go Go.Abs Go.Val
attribute [local irreducible] go SGo HasBody Ev ExtEv EvO EvS PGo RGo ordF

structure SCo (f : Nat → Nat → Nat) (c : CJ) (o : List Nat) where
  i : Nat
  set : Nat
  p : Nat
  b : List Int
  hi : i ≤ o.length
  hs : set < 2 ^ c.as.length
  hf : fills c.as.length set (o.drop i)
  hp : p ≤ 9223372036854775807 ^ i
  hb : ∀ v, b.contains v = (boundF c set).contains v
  hl : b.length ≤ 3 * i
  ok : p * costF f set (o.drop i) = costF f 0 o
theorem fills_len {n set : Nat} {o : List Nat} (h : fills n set o) : o.length ≤ n := by
  obtain ⟨-, -, h3⟩ := fills_mem o set h
  rw [← h3]
  exact missN_le n set
set_option maxHeartbeats 2000000 in
theorem cost_ev (s : ST) (c : CJ) (o : List Nat) (hok : OkC c) (h7 : c.as.length ≤ 7) (ho : fills c.as.length 0 o) : Ev E 22 [encST s, encCJ c, .sl (iL (o.map Int.ofNat))] (.d (natD (costF (facF s c) 0 o))) := Ev.fit fun hfit => by
  have hst := hfit (encST s) (by simp)
  have hlo : (iL (o.map Int.ofNat)).length = o.length := by rw [iL_len]; simp
  have hol : o.length ≤ 7 := Nat.le_trans (fills_len ho) h7
  have hfa := facF_le hst c
  have hof : Ev E 23 [.int 1] (.d (natD 1)) := nof_ev 1
  obtain ⟨f, hff⟩ : ∃ f, facF s c = f := ⟨_, rfl⟩
  rw [hff] at hfa ⊢
  refine enter3 Tryz.func22 Tryz.ntmps22 rfl rfl fun w0 F0 O => ?_
  repeat' (first | refine zS rfl ?_ | refine qA ?_ | refine qB rfl ?_ | refine qC (by kernel_rfl) ?_ | refine qD ?_ | refine qE ?_ | refine qF ?_ | refine qG ?_ | refine qH rfl ?_ | refine qP rfl rfl rfl rfl rfl rfl b23 (hof) ?_ | refine zT rfl ?_ | refine zU rfl ?_ | refine qL rfl rfl ?_ | refine qM rfl rfl rfl ?_ | refine qO rfl rfl rfl ?_ | refine zX rfl rfl rfl rfl ?_ | refine zW rfl rfl rfl rfl ?_ | (refine qY rfl rfl rfl rfl ?_ ?_ <;> intro _) | exact zD | exact zL)
  refine go_loop_ (α := SCo f c o) (fun p => ⟨[(8, rowK 2 (iL p.b)), (2, .d (.sl (iL (o.map Int.ofNat)))), (3, .ptr 0 0), (4, .ptr 1 0), (7, .d (natD p.p)), (9, .d (.int p.i))], [oST s, oCJ c] ++ rowO 3 1 (iL p.b)⟩) (fun p => o.length - p.i) ⟨0, 0, 1, [], by omega, Nat.two_pow_pos _, ho, by simp, fun v => by
    have h0 : v ∉ boundF c 0 := fun h => by
      obtain ⟨j, a, -, h2, -⟩ := (bound_mem c 0 v).1 h
      simp at h2
    rw [Bool.eq_iff_iff]
    simp only [List.contains_iff_mem]
    exact ⟨fun h => by simp at h, fun h => absurd h h0⟩, by simp, by simp⟩ ((zle 2)) ?_
  rintro ⟨i, set, p, b, hi, hs, hf, hp, hb, hl, ok⟩
  dsimp only at hs hf hp hb hl ok ⊢
  have hbl : (iL b).length ≤ 21 := by rw [iL_len]; omega
  rcases Nat.lt_or_ge i o.length with hlt | hge
  · have g1 : decide ((i : Int) < ((iL (o.map Int.ofNat)).length : Int)) = true := by rw [hlo]; simpa using hlt
    have hx0 := List.getElem?_eq_getElem hlt
    generalize o[i] = x at hx0
    have hx : (iL (o.map Int.ofNat))[(i : Int).toNat]? = some (.int (x : Int)) := iL_get (by rw [List.getElem?_map, hx0]; rfl)
    rw [drop_at hx0] at hf ok
    obtain ⟨⟨hxn, hxb⟩, hf'⟩ := hf
    have ha0 := List.getElem?_eq_getElem hxn
    generalize c.as[x] = a at ha0
    have ha : (c.as.map encAT)[((x : Nat) : Int).toNat]? = some (encAT a) := map_at (f := encAT) ha0
    have hav := hok.v a (List.mem_of_getElem? ha0)
    have hat := atom_mem s a hb
    have hfx : f set x = (atomF s a b).toNat := by rw [← hff, hat]; unfold facF; rw [ha0]
    have hn := nof_ev (atomF s a b)
    have hpp : p * f set x ≤ 9223372036854775807 ^ (i + 1) := by rw [Nat.pow_succ]; exact Nat.mul_le_mul hp (hfa set x)
    have hle : ∀ {q k : Nat}, q ≤ 9223372036854775807 ^ k → k ≤ 15 → (lim q).length ≤ 64 := fun h hk => lim_of_le (Nat.le_trans h (Nat.pow_le_pow_right (by decide) hk))
    have hfl : (lim (f set x)).length ≤ 64 := hle (k := 1) (by simpa using hfa set x) (by omega)
    have hmu := nmul_ev p (f set x) (hle hp (by omega)) hfl
    rw [(fit_of (hle hpp (by omega))).1, (fit_of (hle hpp (by omega))).2] at hmu
    rw [← hfx] at hn
    have hss : set + 2 ^ x < 2 ^ c.as.length := add_lt hxb hs hxn
    have hok' : p * f set x * costF f (set + 2 ^ x) (o.drop (i + 1)) = costF f 0 o := by rw [← ok, costF, Nat.mul_assoc]
    have hbb : ∀ v, (b ++ a.vs).contains v = (boundF c (set + 2 ^ x)).contains v := fun v => by
      rw [bound_add ha0 hxb, ← hb v]
      simp
    have hbn : (b ++ a.vs).length ≤ 3 * (i + 1) := by rw [List.length_append]; omega
    have hnx : iL (b ++ a.vs) = iL b ++ iL a.vs := iL_app b a.vs
    have hvl := iL_len a.vs
    have hvn : iL a.vs ≠ [] := fun h => by
      have := (iL_nil _).1 h
      rw [this] at hav
      simp at hav
    have h1 := atom_ev s a b
    have h2 := atom_evS s a b
    generalize atomF s a b = an at *
    generalize iL b = ob at *
    match ob, hbl with
    | [], hbl =>
      dsimp only [rowK, rowO]
      repeat' (first | refine qRT (id := 6) [8,9] [] (by kernel_rfl) (by kernel_rfl) rfl (by repeat (first | exact trivial | refine ⟨⟨rfl, rfl⟩, ?_⟩ | refine ⟨trivial, ?_⟩)) ?_ | refine rgW (id := 6) (i := 0) 8 (by kernel_rfl) rfl (by kernel_rfl) (by repeat (first | exact trivial | refine ⟨rfl, ?_⟩)) ?_ | refine rgStore (id := 6) (i := 8) rfl rfl rfl rfl rfl rfl rfl rfl rfl rfl rfl (by repeat (first | exact trivial | refine ⟨⟨rfl, rfl⟩, ?_⟩ | refine ⟨trivial, ?_⟩)) ?_ | refine rgAlloc (id := 6) (i := 8) rfl rfl rfl rfl rfl rfl rfl (by repeat (first | exact trivial | refine ⟨⟨rfl, rfl⟩, ?_⟩ | refine ⟨trivial, ?_⟩)) ?_ | refine rgBox (id := 6) (i := 8) rfl rfl rfl rfl rfl rfl rfl (by repeat (first | exact trivial | refine ⟨⟨rfl, rfl⟩, ?_⟩ | refine ⟨trivial, ?_⟩)) ?_ | refine rgBoxP (id := 6) (i := 8) rfl rfl rfl rfl rfl rfl rfl (by repeat (first | exact trivial | refine ⟨⟨rfl, rfl⟩, ?_⟩ | refine ⟨trivial, ?_⟩)) ?_ | refine rgStoreP _ (id := 6) (i := 8) rfl rfl rfl rfl rfl rfl rfl (by assumption) rfl rfl rfl (by repeat (first | exact trivial | refine ⟨⟨rfl, rfl⟩, ?_⟩ | refine ⟨trivial, ?_⟩)) ?_ | (refine rgS (id := 6) (i := 8) rfl rfl rfl rfl ?_ (by repeat (first | exact trivial | refine ⟨⟨rfl, rfl⟩, ?_⟩ | refine ⟨trivial, ?_⟩)) ?_; (first | exact True.intro | rfl | assumption | omega | (simp only [inR]; omega) | ((show _ ≤ (9223372036854775807 : Nat)); (try simp only [ByteArray.size_append]); omega) | exact tmod_ok (by omega) (by omega) | exact tdiv_ok (by omega) (by omega) | exact ⟨rfl, by decide, by decide⟩)) | refine rgStore (id := 6) (i := 9) rfl rfl rfl rfl rfl rfl rfl rfl rfl rfl rfl (by repeat (first | exact trivial | refine ⟨⟨rfl, rfl⟩, ?_⟩ | refine ⟨trivial, ?_⟩)) ?_ | refine rgAlloc (id := 6) (i := 9) rfl rfl rfl rfl rfl rfl rfl (by repeat (first | exact trivial | refine ⟨⟨rfl, rfl⟩, ?_⟩ | refine ⟨trivial, ?_⟩)) ?_ | refine rgBox (id := 6) (i := 9) rfl rfl rfl rfl rfl rfl rfl (by repeat (first | exact trivial | refine ⟨⟨rfl, rfl⟩, ?_⟩ | refine ⟨trivial, ?_⟩)) ?_ | refine rgBoxP (id := 6) (i := 9) rfl rfl rfl rfl rfl rfl rfl (by repeat (first | exact trivial | refine ⟨⟨rfl, rfl⟩, ?_⟩ | refine ⟨trivial, ?_⟩)) ?_ | refine rgStoreP _ (id := 6) (i := 9) rfl rfl rfl rfl rfl rfl rfl (by assumption) rfl rfl rfl (by repeat (first | exact trivial | refine ⟨⟨rfl, rfl⟩, ?_⟩ | refine ⟨trivial, ?_⟩)) ?_ | (refine rgS (id := 6) (i := 9) rfl rfl rfl rfl ?_ (by repeat (first | exact trivial | refine ⟨⟨rfl, rfl⟩, ?_⟩ | refine ⟨trivial, ?_⟩)) ?_; (first | exact True.intro | rfl | assumption | omega | (simp only [inR]; omega) | ((show _ ≤ (9223372036854775807 : Nat)); (try simp only [ByteArray.size_append]); omega) | exact tmod_ok (by omega) (by omega) | exact tdiv_ok (by omega) (by omega) | exact ⟨rfl, by decide, by decide⟩)) | refine rgN ?_ | (show TmB _ _ ∧ RGo _ _ _ _ _ _ _ _ _; refine ⟨(by repeat (first | exact trivial | refine ⟨rfl, ?_⟩)), ?_⟩) | refine zS rfl ?_ | refine qA ?_ | refine qB rfl ?_ | refine qC (by kernel_rfl) ?_ | refine qD ?_ | refine qE ?_ | refine qF ?_ | refine qG ?_ | refine qH rfl ?_ | refine qI (.int x) rfl (guardX_ok rfl) rfl rfl rfl rfl rfl rfl (by first | omega | decide) hx ?_ | refine qI (encAT a) rfl (guardX_ok rfl) rfl rfl rfl rfl rfl rfl (by first | omega | decide) ha ?_ | refine qP rfl rfl rfl rfl rfl rfl b9 (h1) ?_ | refine qP rfl rfl rfl rfl rfl rfl b23 (hn) ?_ | refine qP rfl rfl rfl rfl rfl rfl b40 (hmu) ?_ | (refine qS rfl ⟨hvn, iL_cells _, by (show (0 + (iL a.vs).length) * 8 ≤ 140737488355328; omega), by (show 0 + (iL a.vs).length ≤ 9223372036854775807; omega)⟩ ?_) | refine zT rfl ?_ | refine zU rfl ?_ | refine qL rfl rfl ?_ | refine qM rfl rfl rfl ?_ | refine qO rfl rfl rfl ?_ | refine zX rfl rfl rfl rfl ?_ | refine zW rfl rfl rfl rfl ?_ | (refine qY rfl rfl rfl rfl ?_ ?_ <;> intro _) | exact zD | exact zL)
      refine go_stop ?_
      refine ⟨⟨i + 1, set + 2 ^ x, p * f set x, b ++ a.vs, by omega, hss, hf', hpp, hbb, hbn, hok'⟩, by dsimp only; omega, ?_⟩
      dsimp only
      obtain ⟨y, ys, hy⟩ := List.exists_cons_of_ne_nil hvn
      rw [hnx, hy, show List.map D.int a.vs = y :: ys from hy]
      exact (zren [0, 1, 3])
    | y :: q, hbl =>
      dsimp only [rowK, rowO]
      repeat' (first | refine qRT (id := 6) [8,9] [] (by kernel_rfl) (by kernel_rfl) rfl (by repeat (first | exact trivial | refine ⟨⟨rfl, rfl⟩, ?_⟩ | refine ⟨trivial, ?_⟩)) ?_ | refine rgW (id := 6) (i := 0) 8 (by kernel_rfl) rfl (by kernel_rfl) (by repeat (first | exact trivial | refine ⟨rfl, ?_⟩)) ?_ | refine rgStore (id := 6) (i := 8) rfl rfl rfl rfl rfl rfl rfl rfl rfl rfl rfl (by repeat (first | exact trivial | refine ⟨⟨rfl, rfl⟩, ?_⟩ | refine ⟨trivial, ?_⟩)) ?_ | refine rgAlloc (id := 6) (i := 8) rfl rfl rfl rfl rfl rfl rfl (by repeat (first | exact trivial | refine ⟨⟨rfl, rfl⟩, ?_⟩ | refine ⟨trivial, ?_⟩)) ?_ | refine rgBox (id := 6) (i := 8) rfl rfl rfl rfl rfl rfl rfl (by repeat (first | exact trivial | refine ⟨⟨rfl, rfl⟩, ?_⟩ | refine ⟨trivial, ?_⟩)) ?_ | refine rgBoxP (id := 6) (i := 8) rfl rfl rfl rfl rfl rfl rfl (by repeat (first | exact trivial | refine ⟨⟨rfl, rfl⟩, ?_⟩ | refine ⟨trivial, ?_⟩)) ?_ | refine rgStoreP _ (id := 6) (i := 8) rfl rfl rfl rfl rfl rfl rfl (by assumption) rfl rfl rfl (by repeat (first | exact trivial | refine ⟨⟨rfl, rfl⟩, ?_⟩ | refine ⟨trivial, ?_⟩)) ?_ | (refine rgS (id := 6) (i := 8) rfl rfl rfl rfl ?_ (by repeat (first | exact trivial | refine ⟨⟨rfl, rfl⟩, ?_⟩ | refine ⟨trivial, ?_⟩)) ?_; (first | exact True.intro | rfl | assumption | omega | (simp only [inR]; omega) | ((show _ ≤ (9223372036854775807 : Nat)); (try simp only [ByteArray.size_append]); omega) | exact tmod_ok (by omega) (by omega) | exact tdiv_ok (by omega) (by omega) | exact ⟨rfl, by decide, by decide⟩)) | refine rgStore (id := 6) (i := 9) rfl rfl rfl rfl rfl rfl rfl rfl rfl rfl rfl (by repeat (first | exact trivial | refine ⟨⟨rfl, rfl⟩, ?_⟩ | refine ⟨trivial, ?_⟩)) ?_ | refine rgAlloc (id := 6) (i := 9) rfl rfl rfl rfl rfl rfl rfl (by repeat (first | exact trivial | refine ⟨⟨rfl, rfl⟩, ?_⟩ | refine ⟨trivial, ?_⟩)) ?_ | refine rgBox (id := 6) (i := 9) rfl rfl rfl rfl rfl rfl rfl (by repeat (first | exact trivial | refine ⟨⟨rfl, rfl⟩, ?_⟩ | refine ⟨trivial, ?_⟩)) ?_ | refine rgBoxP (id := 6) (i := 9) rfl rfl rfl rfl rfl rfl rfl (by repeat (first | exact trivial | refine ⟨⟨rfl, rfl⟩, ?_⟩ | refine ⟨trivial, ?_⟩)) ?_ | refine rgStoreP _ (id := 6) (i := 9) rfl rfl rfl rfl rfl rfl rfl (by assumption) rfl rfl rfl (by repeat (first | exact trivial | refine ⟨⟨rfl, rfl⟩, ?_⟩ | refine ⟨trivial, ?_⟩)) ?_ | (refine rgS (id := 6) (i := 9) rfl rfl rfl rfl ?_ (by repeat (first | exact trivial | refine ⟨⟨rfl, rfl⟩, ?_⟩ | refine ⟨trivial, ?_⟩)) ?_; (first | exact True.intro | rfl | assumption | omega | (simp only [inR]; omega) | ((show _ ≤ (9223372036854775807 : Nat)); (try simp only [ByteArray.size_append]); omega) | exact tmod_ok (by omega) (by omega) | exact tdiv_ok (by omega) (by omega) | exact ⟨rfl, by decide, by decide⟩)) | refine rgN ?_ | (show TmB _ _ ∧ RGo _ _ _ _ _ _ _ _ _; refine ⟨(by repeat (first | exact trivial | refine ⟨rfl, ?_⟩)), ?_⟩) | refine zS rfl ?_ | refine qA ?_ | refine qB rfl ?_ | refine qC (by kernel_rfl) ?_ | refine qD ?_ | refine qE ?_ | refine qF ?_ | refine qG ?_ | refine qH rfl ?_ | refine qI (.int x) rfl (guardX_ok rfl) rfl rfl rfl rfl rfl rfl (by first | omega | decide) hx ?_ | refine qI (encAT a) rfl (guardX_ok rfl) rfl rfl rfl rfl rfl rfl (by first | omega | decide) ha ?_ | refine go_callS [2] rfl rfl rfl rfl (FnX.plain _) b9 (h2) rfl rfl rfl rfl rfl ?_ | refine qP rfl rfl rfl rfl rfl rfl b23 (hn) ?_ | refine qP rfl rfl rfl rfl rfl rfl b40 (hmu) ?_ | (refine qS rfl ⟨hvn, iL_cells _, by (show ((y :: q).length + (iL a.vs).length) * 8 ≤ 140737488355328; omega), by (show (y :: q).length + (iL a.vs).length ≤ 9223372036854775807; omega)⟩ ?_) | refine zT rfl ?_ | refine zU rfl ?_ | refine qL rfl rfl ?_ | refine qM rfl rfl rfl ?_ | refine qO rfl rfl rfl ?_ | refine zX rfl rfl rfl rfl ?_ | refine zW rfl rfl rfl rfl ?_ | (refine qY rfl rfl rfl rfl ?_ ?_ <;> intro _) | exact zD | exact zL)
      refine go_stop ?_
      refine ⟨⟨i + 1, set + 2 ^ x, p * f set x, b ++ a.vs, by omega, hss, hf', hpp, hbb, hbn, hok'⟩, by dsimp only; omega, ?_⟩
      dsimp only
      rw [hnx]
      exact (zren [0, 1, 4])
  · have g1 : decide ((i : Int) < ((iL (o.map Int.ofNat)).length : Int)) = false := by rw [hlo]; simp; omega
    rw [List.drop_eq_nil_of_le hge] at ok
    have hpe : p = costF f 0 o := by rw [← ok]; simp [costF]
    rw [← hpe]
    generalize iL b = ob at *
    match ob with
    | [] =>
      dsimp only [rowK, rowO]
      repeat' (first | refine zS rfl ?_ | refine qA ?_ | refine qB rfl ?_ | refine qC (by kernel_rfl) ?_ | refine qD ?_ | refine qE ?_ | refine qF ?_ | refine qG ?_ | refine qH rfl ?_ | refine zT rfl ?_ | refine zU rfl ?_ | refine qL rfl rfl ?_ | refine qM rfl rfl rfl ?_ | refine qO rfl rfl rfl ?_ | refine zX rfl rfl rfl rfl ?_ | refine zW rfl rfl rfl rfl ?_ | (refine qY rfl rfl rfl rfl ?_ ?_ <;> intro _) | exact zD | exact zL)
    | y :: q =>
      dsimp only [rowK, rowO]
      repeat' (first | refine zS rfl ?_ | refine qA ?_ | refine qB rfl ?_ | refine qC (by kernel_rfl) ?_ | refine qD ?_ | refine qE ?_ | refine qF ?_ | refine qG ?_ | refine qH rfl ?_ | refine zT rfl ?_ | refine zU rfl ?_ | refine qL rfl rfl ?_ | refine qM rfl rfl rfl ?_ | refine qO rfl rfl rfl ?_ | refine zX rfl rfl rfl rfl ?_ | refine zW rfl rfl rfl rfl ?_ | (refine qY rfl rfl rfl rfl ?_ ?_ <;> intro _) | exact zD | exact zL)
end Go.Proofs.YtgkobddgjfgbbaaGreatDoor

/- The statement on Order. Conditions: none. -/
namespace Go.Proofs.YtgkobddgjfgbbaaGreatDoor
open Go Go.Abs Go.Val
attribute [local irreducible] go SGo HasBody Ev ExtEv EvO EvS PGo RGo ordF

theorem cost_le {f : Nat → Nat → Nat} (hM : ∀ s i, f s i ≤ 9223372036854775807) : ∀ (l : List Nat) (set : Nat), costF f set l ≤ 9223372036854775807 ^ l.length
  | [], _ => by simp [costF]
  | i :: r, set => by
    rw [costF, List.length_cons, Nat.pow_succ, Nat.mul_comm]
    exact Nat.mul_le_mul (cost_le hM r _) (hM set i)
theorem of_fills {n : Nat} {o : List Nat} (h : fills n 0 o) : ofF (o.map Int.ofNat) = allF n ∧ o.length = n := by
  obtain ⟨h1, h2, h3⟩ := fills_mem o 0 h
  refine ⟨inc_ext (of_inc _) (all_inc n) fun z => ?_, by rw [← h3, miss_all]⟩
  rw [of_mem, all_mem, List.mem_map]
  constructor
  · rintro ⟨i, hi, rfl⟩
    have := h1 i hi
    exact ⟨Int.natCast_nonneg i, Int.ofNat_lt.2 this⟩
  · rintro ⟨z0, z1⟩
    rcases h2 z.toNat (by omega) with h | h
    · simp at h
    · exact ⟨z.toNat, h, Int.toNat_of_nonneg z0⟩
theorem fills_other {n : Nat} {o : List Int} (hl : o.length = n) (h : ofF o = allF n) : o = (o.map Int.toNat).map Int.ofNat ∧ fills n 0 (o.map Int.toNat) := by
  have hm : ∀ z, z ∈ o ↔ 0 ≤ z ∧ z < n := fun z => by rw [← of_mem, h, all_mem]
  constructor
  · rw [List.map_map]
    refine (List.map_id o).symm.trans (List.map_congr_left fun z hz => ?_)
    have := (hm z).1 hz
    exact (Int.toNat_of_nonneg this.1).symm
  · refine fills_of _ 0 (fun x hx => ?_) (fun i hi => ?_) (by rw [miss_all, List.length_map, hl])
    · obtain ⟨z, hz, rfl⟩ := List.mem_map.1 hx
      have := (hm z).1 hz
      omega
    · exact .inr (List.mem_map.2 ⟨(i : Int), (hm i).2 ⟨by omega, by omega⟩, by simp⟩)
theorem cmp_le {m k : Nat} (h : m ≤ k) : decide (cmpN m k ≤ 0) = true := by
  unfold cmpN
  split
  · rfl
  · rw [if_neg (by omega)]; rfl
theorem all_next (i : Nat) : allF (i + 1) = allF i ++ [(i : Int)] := by unfold allF; rw [List.range_succ, List.map_append]; rfl
theorem all_len (i : Nat) : (allF i).length = i := by simp [allF]
set_option maxHeartbeats 2000000 in
theorem eo_ev (s : ST) (c : CJ) (other : List Int) : Ev E 6 [encST s, encCJ c, .sl (iL other)] (.d (.bool true)) := Ev.fit fun hfit => by
  have hft := hfit (encST s) (by simp)
  obtain ⟨hmo, -⟩ := fit_map (hfit (.sl (iL other)) (by simp))
  have hf := few_ev s
  have hck := check_ev c
  have hla : (c.as.map encAT).length = c.as.length := by simp
  have hlo := iL_len other
  cases c1 : fewF s with
  | false =>
    rw [c1] at hf
    refine enter3 Tryz.func6 Tryz.ntmps6 rfl rfl fun w0 F0 O => ?_
    repeat' (first | refine zS rfl ?_ | refine qA ?_ | refine qB rfl ?_ | refine qC (by kernel_rfl) ?_ | refine qD ?_ | refine qE ?_ | refine qF ?_ | refine qG ?_ | refine qH rfl ?_ | refine qP rfl rfl rfl rfl rfl rfl b7 (hf) ?_ | refine qP rfl rfl rfl rfl rfl rfl b8 (lives_ev) ?_ | refine zT rfl ?_ | refine zU rfl ?_ | refine qL rfl rfl ?_ | refine qM rfl rfl rfl ?_ | refine qO rfl rfl rfl ?_ | refine zX rfl rfl rfl rfl ?_ | refine zW rfl rfl rfl rfl ?_ | (refine qY rfl rfl rfl rfl ?_ ?_ <;> intro _) | exact zD | exact zL)
  | true =>
    rw [c1] at hf
    cases c2 : decide (((c.as.map encAT).length : Int) > 7) with
    | true =>
      refine enter3 Tryz.func6 Tryz.ntmps6 rfl rfl fun w0 F0 O => ?_
      repeat' (first | refine zS rfl ?_ | refine qA ?_ | refine qB rfl ?_ | refine qC (by kernel_rfl) ?_ | refine qD ?_ | refine qE ?_ | refine qF ?_ | refine qG ?_ | refine qH rfl ?_ | refine qP rfl rfl rfl rfl rfl rfl b7 (hf) ?_ | refine qP rfl rfl rfl rfl rfl rfl b8 (lives_ev) ?_ | refine zT rfl ?_ | refine zU rfl ?_ | refine qL rfl rfl ?_ | refine qM rfl rfl rfl ?_ | refine qO rfl rfl rfl ?_ | refine zX rfl rfl rfl rfl ?_ | refine zW rfl rfl rfl rfl ?_ | (refine qY rfl rfl rfl rfl ?_ ?_ <;> intro _) | exact zD | exact zL)
    | false =>
      have h7 : c.as.length ≤ 7 := by rw [hla] at c2; simp at c2; omega
      have hR := rows_ev s c (chkF c) hck fun h => ⟨chk_okc h, h7⟩
      by_cases hz : chkF c = 0
      · have hok := chk_okc hz
        have hO := order_ev3 s c (chkF c) hck fun h => ⟨chk_okc h, h7⟩
        have hrl := row_lim hft c fun _ => h7
        rw [hz, show rowV s c 0 = rowsF s c from rfl] at hR hrl
        rw [hz, show ordV s c 0 = (orderF s c).map Int.ofNat from rfl] at hO
        obtain ⟨hfo, hat⟩ := ord_att (facF s c) c.as.length 0 1 (Nat.two_pow_pos _) (miss_all _) (by simp)
        rw [Nat.one_mul, show ordG (facF s c) c.as.length c.as.length 0 1 = orderF s c from rfl] at hat
        rw [show ordG (facF s c) c.as.length c.as.length 0 1 = orderF s c from rfl] at hfo
        have hat' : costF (facF s c) 0 (orderF s c) = rowsF s c := hat
        obtain ⟨hoa, hol⟩ := of_fills hfo
        have hC := cost_ev s c (orderF s c) hok h7 hfo
        rw [hat'] at hC
        have hN := ncmp_ev (rowsF s c) (rowsF s c) hrl hrl
        rw [cmp_self] at hN
        have hlen : (iL ((orderF s c).map Int.ofNat)).length = c.as.length := by rw [iL_len, List.length_map, hol]
        have hOf := rof_ev ((orderF s c).map Int.ofNat) (by rw [List.length_map, hol]; omega)
        rw [hoa] at hOf
        have hS := same_ev (allF c.as.length) (allF c.as.length)
        rw [show (allF c.as.length == allF c.as.length) = true by simp] at hS
        have hal : (iL (allF c.as.length)).length = c.as.length := by rw [iL_len, all_len]
        have g1 : (((iL ((orderF s c).map Int.ofNat)).length : Int) != ((iL (allF c.as.length)).length : Int)) = false := by rw [hlen, hal]; simp
        have gz : ((0 : Int) != 0) = false := rfl
        have hfa := facF_le hft c
        have hres : ∀ o : List Nat, fills c.as.length 0 o → rowsF s c ≤ costF (facF s c) 0 o := fun o ho => cost_ge (facF s c) o 0 (Nat.two_pow_pos _) ho
        have hcl : ∀ o : List Nat, fills c.as.length 0 o → (lim (costF (facF s c) 0 o)).length ≤ 64 := fun o ho => by
          refine lim_of_le (Nat.le_trans (cost_le hfa o 0) (Nat.pow_le_pow_right (by decide) ?_))
          have := fills_len ho
          omega
        have hcv := fun o ho => cost_ev s c o hok h7 ho
        generalize rowsF s c = x at *
        generalize (orderF s c).map Int.ofNat = ol at *
        clear hat hat' hoa hol hfo
        refine enter3 Tryz.func6 Tryz.ntmps6 rfl rfl fun w0 F0 O => ?_
        repeat' (first | refine zS rfl ?_ | refine qA ?_ | refine qB rfl ?_ | refine qC (by kernel_rfl) ?_ | refine qD ?_ | refine qE ?_ | refine qF ?_ | refine qG ?_ | refine qH rfl ?_ | refine qP rfl rfl rfl rfl rfl rfl b7 (hf) ?_ | refine qP rfl rfl rfl rfl rfl rfl b8 (lives_ev) ?_ | refine qP rfl rfl rfl rfl rfl rfl b11 (hR) ?_ | (refine go_make0 (c.as.map encAT).length rfl rfl rfl rfl rfl rfl rfl rfl (by (show 8 * (c.as.map encAT).length ≤ 281474976710656; rw [hla]; omega)) (by rw [hla]; omega) ?_) | refine zT rfl ?_ | refine zU rfl ?_ | refine qL rfl rfl ?_ | refine qM rfl rfl rfl ?_ | refine qO rfl rfl rfl ?_ | refine zX rfl rfl rfl rfl ?_ | refine zW rfl rfl rfl rfl ?_ | (refine qY rfl rfl rfl rfl ?_ ?_ <;> intro _) | exact zD | exact zL)
        refine go_loop_ (α := Fin (c.as.length + 1)) (fun p => ⟨[(2, .d (.sl (iL other))), (3, .ptr 0 0), (4, .ptr 1 0), (7, .d (natD x)), (9, .own 2), (10, .d (.int p.val))], [oST s, oCJ c, .row 3 1 (iL (allF p.val))]⟩) (fun p => c.as.length - p.val) ⟨0, by omega⟩ ((zle 3)) ?_
        rintro ⟨i, hi⟩
        dsimp only
        have hail : (iL (allF i)).length = i := by rw [iL_len, all_len]
        rcases Nat.lt_or_ge i c.as.length with hlt | hge
        · have g2 : decide ((i : Int) < ((c.as.map encAT).length : Int)) = true := by rw [hla]; simpa using hlt
          have hnx : iL (allF (i + 1)) = iL (allF i) ++ [.int (i : Int)] := by rw [all_next, iL_app]; rfl
          generalize iL (allF i) = ia at *
          repeat' (first | refine zS rfl ?_ | refine qA ?_ | refine qB rfl ?_ | refine qC (by kernel_rfl) ?_ | refine qD ?_ | refine qE ?_ | refine qF ?_ | refine qG ?_ | refine qH rfl ?_ | (refine qS rfl ⟨by simp, fun d hd => by (obtain rfl := List.mem_singleton.1 hd; rfl), by (show (ia.length + 1) * 8 ≤ 140737488355328; omega), by (show ia.length + 1 ≤ 9223372036854775807; omega)⟩ ?_) | refine zT rfl ?_ | refine zU rfl ?_ | refine qL rfl rfl ?_ | refine qM rfl rfl rfl ?_ | refine qO rfl rfl rfl ?_ | refine zX rfl rfl rfl rfl ?_ | refine zW rfl rfl rfl rfl ?_ | (refine qY rfl rfl rfl rfl ?_ ?_ <;> intro _) | exact zD | exact zL)
          refine go_stop ?_
          refine ⟨⟨i + 1, by omega⟩, by dsimp only; omega, ?_⟩
          dsimp only
          rw [hnx]
          exact (zren [0, 1, 3])
        · have g2 : decide ((i : Int) < ((c.as.map encAT).length : Int)) = false := by rw [hla]; simp; omega
          obtain rfl : i = c.as.length := by omega
          clear hi hge hail
          by_cases hlo2 : other.length = c.as.length
          · have g3 : (((iL other).length : Int) != ((iL (allF c.as.length)).length : Int)) = false := by rw [hlo, hal, hlo2]; simp
            have hOf2 := rof_ev other (by omega)
            have hS2 := same_ev (ofF other) (allF c.as.length)
            cases c4 : ofF other == allF c.as.length with
            | false =>
              rw [c4] at hS2
              repeat' (first | (refine go_frz 2 rfl ?_; dsimp only [frzT, frzX, frzO, frzC, List.map, List.set]) | refine zS rfl ?_ | refine qA ?_ | refine qB rfl ?_ | refine qC (by kernel_rfl) ?_ | refine qD ?_ | refine qE ?_ | refine qF ?_ | refine qG ?_ | refine qH rfl ?_ | refine qP rfl rfl rfl rfl rfl rfl b16 (hO) ?_ | refine qP (d := 56) rfl rfl rfl rfl rfl rfl b20 (hOf) ?_ | refine qP (d := 58) rfl rfl rfl rfl rfl rfl b15 (hS) ?_ | refine qP (d := 65) rfl rfl rfl rfl rfl rfl b22 (hC) ?_ | refine qP (d := 67) rfl rfl rfl rfl rfl rfl b21 (hN) ?_ | refine qP (d := 77) rfl rfl rfl rfl rfl rfl b20 (hOf2) ?_ | refine qP (d := 79) rfl rfl rfl rfl rfl rfl b15 (hS2) ?_ | refine qP rfl rfl rfl rfl rfl rfl b8 (lives_ev) ?_ | refine zT rfl ?_ | refine zU rfl ?_ | refine qL rfl rfl ?_ | refine qM rfl rfl rfl ?_ | refine qO rfl rfl rfl ?_ | refine zX rfl rfl rfl rfl ?_ | refine zW rfl rfl rfl rfl ?_ | (refine qY rfl rfl rfl rfl ?_ ?_ <;> intro _) | exact zD | exact zL)
            | true =>
              rw [c4] at hS2
              obtain ⟨e1, e2⟩ := fills_other hlo2 (by simpa using c4)
              have hC2 := hcv _ e2
              rw [← e1] at hC2
              have hN2 := ncmp_ev x _ hrl (hcl _ e2)
              have g4 := cmp_le (hres _ e2)
              repeat' (first | (refine go_frz 2 rfl ?_; dsimp only [frzT, frzX, frzO, frzC, List.map, List.set]) | refine zS rfl ?_ | refine qA ?_ | refine qB rfl ?_ | refine qC (by kernel_rfl) ?_ | refine qD ?_ | refine qE ?_ | refine qF ?_ | refine qG ?_ | refine qH rfl ?_ | refine qP rfl rfl rfl rfl rfl rfl b16 (hO) ?_ | refine qP (d := 56) rfl rfl rfl rfl rfl rfl b20 (hOf) ?_ | refine qP (d := 58) rfl rfl rfl rfl rfl rfl b15 (hS) ?_ | refine qP (d := 65) rfl rfl rfl rfl rfl rfl b22 (hC) ?_ | refine qP (d := 67) rfl rfl rfl rfl rfl rfl b21 (hN) ?_ | refine qP (d := 77) rfl rfl rfl rfl rfl rfl b20 (hOf2) ?_ | refine qP (d := 79) rfl rfl rfl rfl rfl rfl b15 (hS2) ?_ | refine qP (d := 87) rfl rfl rfl rfl rfl rfl b22 (hC2) ?_ | refine qP (d := 88) rfl rfl rfl rfl rfl rfl b21 (hN2) ?_ | refine qP rfl rfl rfl rfl rfl rfl b8 (lives_ev) ?_ | refine zT rfl ?_ | refine zU rfl ?_ | refine qL rfl rfl ?_ | refine qM rfl rfl rfl ?_ | refine qO rfl rfl rfl ?_ | refine zX rfl rfl rfl rfl ?_ | refine zW rfl rfl rfl rfl ?_ | (refine qY rfl rfl rfl rfl ?_ ?_ <;> intro _) | exact zD | exact zL)
          · have g3 : (((iL other).length : Int) != ((iL (allF c.as.length)).length : Int)) = true := by rw [hlo, hal]; simp; omega
            repeat' (first | (refine go_frz 2 rfl ?_; dsimp only [frzT, frzX, frzO, frzC, List.map, List.set]) | refine zS rfl ?_ | refine qA ?_ | refine qB rfl ?_ | refine qC (by kernel_rfl) ?_ | refine qD ?_ | refine qE ?_ | refine qF ?_ | refine qG ?_ | refine qH rfl ?_ | refine qP rfl rfl rfl rfl rfl rfl b16 (hO) ?_ | refine qP (d := 56) rfl rfl rfl rfl rfl rfl b20 (hOf) ?_ | refine qP (d := 58) rfl rfl rfl rfl rfl rfl b15 (hS) ?_ | refine qP (d := 65) rfl rfl rfl rfl rfl rfl b22 (hC) ?_ | refine qP (d := 67) rfl rfl rfl rfl rfl rfl b21 (hN) ?_ | refine qP rfl rfl rfl rfl rfl rfl b8 (lives_ev) ?_ | refine zT rfl ?_ | refine zU rfl ?_ | refine qL rfl rfl ?_ | refine qM rfl rfl rfl ?_ | refine qO rfl rfl rfl ?_ | refine zX rfl rfl rfl rfl ?_ | refine zW rfl rfl rfl rfl ?_ | (refine qY rfl rfl rfl rfl ?_ ?_ <;> intro _) | exact zD | exact zL)
      · have hz' : (chkF c != 0) = true := by simpa using hz
        generalize chkF c = e at *
        refine enter3 Tryz.func6 Tryz.ntmps6 rfl rfl fun w0 F0 O => ?_
        repeat' (first | refine zS rfl ?_ | refine qA ?_ | refine qB rfl ?_ | refine qC (by kernel_rfl) ?_ | refine qD ?_ | refine qE ?_ | refine qF ?_ | refine qG ?_ | refine qH rfl ?_ | refine qP rfl rfl rfl rfl rfl rfl b7 (hf) ?_ | refine qP rfl rfl rfl rfl rfl rfl b8 (lives_ev) ?_ | refine qP rfl rfl rfl rfl rfl rfl b11 (hR) ?_ | refine zT rfl ?_ | refine zU rfl ?_ | refine qL rfl rfl ?_ | refine qM rfl rfl rfl ?_ | refine qO rfl rfl rfl ?_ | refine zX rfl rfl rfl rfl ?_ | refine zW rfl rfl rfl rfl ?_ | (refine qY rfl rfl rfl rfl ?_ ?_ <;> intro _) | exact zD | exact zL)
end Go.Proofs.YtgkobddgjfgbbaaGreatDoor
