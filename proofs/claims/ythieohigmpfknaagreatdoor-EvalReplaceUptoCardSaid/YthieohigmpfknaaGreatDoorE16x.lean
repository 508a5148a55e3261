/- EvalReplace: a variable that is bound to a constant can be replaced by it, within the row's bound; and the chapter's examples hold. The tied card of the second form. Conditions: none beyond the card's own. -/
import Derived.Test.YthieohigmpfknaaGreatDoorGC
import Derived.Test.YthieohigmpfknaaGreatDoorEY
import Derived.Test.YthieohigmpfknaaGreatDoorE14x
set_option linter.unusedVariables false
set_option linter.unusedSimpArgs false
namespace Go.Proofs.YthieohigmpfknaaGreatDoor
open Go Go.Abs Go.Val Go.RowKit Go.ChangeShapes Go.WideShapes
attribute [local irreducible] go SGo HasBody Ev ExtEv EvO EvS binOp RGo

abbrev zEx : AObj := .var 31 (.cs [.d (.int 0), .d (.int 0), .d (.int 0), .d (.int 0), .d (.str ⟨#[]⟩), .nilS, .d (.str ⟨#[]⟩), .d (.bool false), .nilS])
theorem encE_one9 (e : Ex) : ∀ d ∈ [encE e], d.cells.length = 9 := fun d hd => by obtain rfl := List.mem_singleton.1 hd; rfl
theorem repL_map (nm : ByteArray) (v : V) : ∀ l : List Ex, repL nm v l = l.map (repE nm v)
  | [] => by simp only [repL, List.map_nil]
  | a :: r => by simp only [repL, List.map_cons, repL_map nm v r]
theorem rep_take {nm : ByteArray} {v : V} {ks : List Ex} {i : Nat} {x : Ex} (h : ks[i]? = some x) : encEL (repL nm v (ks.take (i + 1))) = encEL (repL nm v (ks.take i)) ++ [encE (repE nm v x)] := by
  have hi := (List.getElem?_eq_some_iff.1 h).1
  rw [List.take_succ_eq_append_getElem hi]
  rw [List.getElem?_eq_getElem hi] at h
  cases h
  simp only [encEL_map, repL_map, List.map_append, List.map_cons, List.map_nil]
set_option maxHeartbeats 4000000 in
theorem replaced_ev (nm : ByteArray) (v : V) (e : Ex) : nd e ≤ 2000000 → Ev E 21 [encE e, .str nm, enc v] (.d (encE (repE nm v e))) := by
  refine xind (P := fun e => nd e ≤ 2000000 → Ev E 21 [encE e, .str nm, enc v] (.d (encE (repE nm v e)))) (fun op w s ds ks ih hn => ?_) e
  rw [nd_eq] at hn
  have hn' : ndL ks + 1 ≤ 2000000 := hn
  have hkl : ks.length ≤ ndL ks := by
    have : ∀ l : List Ex, l.length ≤ ndL l := by
      intro l
      induction l with
      | nil => simp
      | cons a r ihr => have := nd_pos a; simp only [List.length_cons, ndL]; omega
    exact this ks
  have hnx : ∀ x ∈ ks, nd x ≤ 2000000 := by
    have : ∀ l : List Ex, ∀ x ∈ l, nd x ≤ ndL l := by
      intro l
      induction l with
      | nil => intro x hx; simp at hx
      | cons a r ihr =>
        intro x hx
        simp only [ndL]
        rcases List.mem_cons.1 hx with rfl | hx
        · omega
        · have := ihr x hx; omega
    intro x hx
    have := this ks x hx
    omega
  have hlen : (kidsE (.mk op w s ds ks)).length = ks.length := kidsE_len _
  have hkg : ∀ (i : Nat) (x : Ex), ks[i]? = some x → (kidsE (.mk op w s ds ks))[(i : Int).toNat]? = some (encE x) := fun i x h => kidsE_get (e := .mk op w s ds ks) (by rw [Int.toNat_natCast]; exact h)
  rw [repE]
  cases hc : op == 2 && eqS s nm with
  | true =>
    rw [Bool.and_eq_true] at hc
    obtain ⟨h1, h2⟩ := hc
    have h2' : (s.toList == nm.toList) = true := h2
    rw [cond_true]
    refine enter3 Tryz.func21 Tryz.ntmps21 rfl rfl fun w0 F0 O => ?_
    repeat' (first | refine zS rfl ?_ | refine qA ?_ | refine qB rfl ?_ | refine qC (by kernel_rfl) ?_ | refine qD ?_ | refine qE ?_ | refine qF ?_ | refine qG ?_ | refine qH rfl ?_ | refine zT rfl ?_ | refine zU rfl ?_ | refine qL rfl rfl ?_ | refine qM rfl rfl rfl ?_ | refine qO rfl rfl rfl ?_ | refine zX rfl rfl rfl rfl ?_ | refine zW rfl rfl rfl rfl ?_ | (refine qY rfl rfl rfl rfl ?_ ?_ <;> intro _) | exact zD | exact zL)
  | false =>
    rw [cond_false]
    have hcase : (op == 2) = false ∨ ((op == 2) = true ∧ (s.toList == nm.toList) = false) := by
      rw [Bool.and_eq_false_iff] at hc
      cases h1 : op == 2 with
      | false => exact .inl rfl
      | true =>
        rw [h1] at hc
        have h3 : eqS s nm = false := by simpa using hc
        exact .inr ⟨rfl, h3⟩
    have hzb : ∀ n : Nat, n ≤ 2000000 → (n + 1) * 120 ≤ 140737488355328 := fun n h => by omega
    rcases hcase with h1 | ⟨h1, h2⟩
    all_goals
      refine enter3 Tryz.func21 Tryz.ntmps21 rfl rfl fun w0 F0 O => ?_
      repeat' (first | refine zS rfl ?_ | refine qA ?_ | refine qB rfl ?_ | refine qC (by kernel_rfl) ?_ | refine qD ?_ | refine qE ?_ | refine qF ?_ | refine qG ?_ | refine qH rfl ?_ | refine zT rfl ?_ | refine zU rfl ?_ | refine qL rfl rfl ?_ | refine qM rfl rfl rfl ?_ | refine qO rfl rfl rfl ?_ | refine zX rfl rfl rfl rfl ?_ | refine zW rfl rfl rfl rfl ?_ | (refine qY rfl rfl rfl rfl ?_ ?_ <;> intro _) | exact zD | exact zL)
      refine go_loop_ (α := Fin (ks.length + 1)) (fun p => ⟨[(1, .d (.str nm)), (3, .ptr 0 0), (5, .ptr 1 0), (6, .ptr 2 0), (7, .ptr 3 0), (8, .d (.int p.val))], [.var 31 (.w (.d (encE (.mk op w s ds ks)))), .var 28 (.w (.d (enc v))), zEx, .var 31 (.cs [.d (.int op), .d (.int w.k), .d (.int w.n), .d (.int w.d), .d (.str w.s), .d (.sl (kids w)), .d (.str s), .d (.bool ds), rowK 4 (encEL (repL nm v (ks.take p.val)))])] ++ rowO 31 9 (encEL (repL nm v (ks.take p.val)))⟩) (fun p => ks.length - p.val) ⟨0, by omega⟩ ((zle 4)) ?_
      rintro ⟨i, hi⟩
      dsimp only
      rcases Nat.lt_or_ge i ks.length with hlt | hge
      · have g1 : decide ((i : Int) < ((kidsE (.mk op w s ds ks)).length : Int)) = true := by rw [hlen]; simpa using hlt
        have hx0 := List.getElem?_eq_getElem hlt
        generalize ks[i] = x at hx0
        have hx := hkg i x hx0
        have hcx := ih x (List.mem_of_getElem? hx0) (hnx x (List.mem_of_getElem? hx0))
        have hta := rep_take (nm := nm) (v := v) hx0
        have hll : (encEL (repL nm v (ks.take i))).length ≤ i := by rw [encEL_len, repL_map]; simp; omega
        match ho' : encEL (repL nm v (ks.take i)), hll with
        | [], hll =>
          dsimp only [rowK, rowO, List.append, HAppend.hAppend, Append.append]
          repeat' (first | refine qR0 (id := 8) [11,13] (by kernel_rfl) (by kernel_rfl) (by repeat (first | exact trivial | refine ⟨⟨rfl, rfl⟩, ?_⟩ | refine ⟨trivial, ?_⟩)) ?_ | refine rgF (id := 8) (i := 0) 11 (by kernel_rfl) rfl ?_ | refine rgStore (id := 8) (i := 11) rfl rfl rfl rfl rfl rfl rfl rfl rfl rfl rfl (by repeat (first | exact trivial | refine ⟨⟨rfl, rfl⟩, ?_⟩ | refine ⟨trivial, ?_⟩)) ?_ | refine rgAlloc (id := 8) (i := 11) rfl rfl rfl rfl rfl rfl rfl (by repeat (first | exact trivial | refine ⟨⟨rfl, rfl⟩, ?_⟩ | refine ⟨trivial, ?_⟩)) ?_ | refine rgBox (id := 8) (i := 11) rfl rfl rfl rfl rfl rfl rfl (by repeat (first | exact trivial | refine ⟨⟨rfl, rfl⟩, ?_⟩ | refine ⟨trivial, ?_⟩)) ?_ | refine rgStoreP _ (id := 8) (i := 11) rfl rfl rfl rfl rfl rfl rfl (by assumption) rfl rfl rfl (by repeat (first | exact trivial | refine ⟨⟨rfl, rfl⟩, ?_⟩ | refine ⟨trivial, ?_⟩)) ?_ | (refine rgS (id := 8) (i := 11) rfl rfl rfl rfl ?_ (by repeat (first | exact trivial | refine ⟨⟨rfl, rfl⟩, ?_⟩ | refine ⟨trivial, ?_⟩)) ?_; (first | exact True.intro | rfl | assumption | omega | (simp only [inR]; omega) | ((show _ ≤ (9223372036854775807 : Nat)); (try simp only [ByteArray.size_append]); omega) | exact tmod_ok (by omega) (by omega) | exact tdiv_ok (by omega) (by omega) | exact ⟨rfl, by decide, by decide⟩)) | refine rgF (id := 8) (i := 12) 1 (by kernel_rfl) rfl ?_ | refine rgStore (id := 8) (i := 13) rfl rfl rfl rfl rfl rfl rfl rfl rfl rfl rfl (by repeat (first | exact trivial | refine ⟨⟨rfl, rfl⟩, ?_⟩ | refine ⟨trivial, ?_⟩)) ?_ | refine rgAlloc (id := 8) (i := 13) rfl rfl rfl rfl rfl rfl rfl (by repeat (first | exact trivial | refine ⟨⟨rfl, rfl⟩, ?_⟩ | refine ⟨trivial, ?_⟩)) ?_ | refine rgBox (id := 8) (i := 13) rfl rfl rfl rfl rfl rfl rfl (by repeat (first | exact trivial | refine ⟨⟨rfl, rfl⟩, ?_⟩ | refine ⟨trivial, ?_⟩)) ?_ | refine rgStoreP _ (id := 8) (i := 13) rfl rfl rfl rfl rfl rfl rfl (by assumption) rfl rfl rfl (by repeat (first | exact trivial | refine ⟨⟨rfl, rfl⟩, ?_⟩ | refine ⟨trivial, ?_⟩)) ?_ | (refine rgS (id := 8) (i := 13) rfl rfl rfl rfl ?_ (by repeat (first | exact trivial | refine ⟨⟨rfl, rfl⟩, ?_⟩ | refine ⟨trivial, ?_⟩)) ?_; (first | exact True.intro | rfl | assumption | omega | (simp only [inR]; omega) | ((show _ ≤ (9223372036854775807 : Nat)); (try simp only [ByteArray.size_append]); omega) | exact tmod_ok (by omega) (by omega) | exact tdiv_ok (by omega) (by omega) | exact ⟨rfl, by decide, by decide⟩)) | refine rgN ?_ | (show TmB _ _ ∧ RGo _ _ _ _ _ _ _ _ _; refine ⟨(by repeat (first | exact trivial | refine ⟨rfl, ?_⟩)), ?_⟩) | refine zS rfl ?_ | refine qA ?_ | refine qB rfl ?_ | refine qC (by kernel_rfl) ?_ | refine qD ?_ | refine qE ?_ | refine qF ?_ | refine qG ?_ | refine qH rfl ?_ | refine qI (encE x) rfl (guardX_ok rfl) rfl rfl rfl rfl rfl rfl (by first | omega | decide) hx ?_ | refine qP rfl rfl rfl rfl rfl rfl b21 (hcx) ?_ | refine rgS (id := 8) (i := 11) rfl rfl rfl rfl (⟨by simp, encE_one9 _, by show (0 + 1) * 120 ≤ 140737488355328; omega, by show 0 + 1 ≤ 9223372036854775807; omega⟩) (by repeat (first | exact trivial | refine ⟨⟨rfl, rfl⟩, ?_⟩ | refine ⟨trivial, ?_⟩)) ?_ | refine zT rfl ?_ | refine zU rfl ?_ | refine qL rfl rfl ?_ | refine qM rfl rfl rfl ?_ | refine qO rfl rfl rfl ?_ | refine zX rfl rfl rfl rfl ?_ | refine zW rfl rfl rfl rfl ?_ | (refine qY rfl rfl rfl rfl ?_ ?_ <;> intro _) | exact zD | exact zL)
          refine go_stop ?_
          refine ⟨⟨i + 1, by omega⟩, by dsimp only; omega, ?_⟩
          dsimp only
          rw [hta, ho']
          exact (zren [0, 1, 2, 3, 4])
        | b :: q, hll =>
          dsimp only [rowK, rowO, List.append, HAppend.hAppend, Append.append]
          repeat' (first | refine qR0 (id := 8) [11,13] (by kernel_rfl) (by kernel_rfl) (by repeat (first | exact trivial | refine ⟨⟨rfl, rfl⟩, ?_⟩ | refine ⟨trivial, ?_⟩)) ?_ | refine rgF (id := 8) (i := 0) 11 (by kernel_rfl) rfl ?_ | refine rgStore (id := 8) (i := 11) rfl rfl rfl rfl rfl rfl rfl rfl rfl rfl rfl (by repeat (first | exact trivial | refine ⟨⟨rfl, rfl⟩, ?_⟩ | refine ⟨trivial, ?_⟩)) ?_ | refine rgAlloc (id := 8) (i := 11) rfl rfl rfl rfl rfl rfl rfl (by repeat (first | exact trivial | refine ⟨⟨rfl, rfl⟩, ?_⟩ | refine ⟨trivial, ?_⟩)) ?_ | refine rgBox (id := 8) (i := 11) rfl rfl rfl rfl rfl rfl rfl (by repeat (first | exact trivial | refine ⟨⟨rfl, rfl⟩, ?_⟩ | refine ⟨trivial, ?_⟩)) ?_ | refine rgStoreP _ (id := 8) (i := 11) rfl rfl rfl rfl rfl rfl rfl (by assumption) rfl rfl rfl (by repeat (first | exact trivial | refine ⟨⟨rfl, rfl⟩, ?_⟩ | refine ⟨trivial, ?_⟩)) ?_ | (refine rgS (id := 8) (i := 11) rfl rfl rfl rfl ?_ (by repeat (first | exact trivial | refine ⟨⟨rfl, rfl⟩, ?_⟩ | refine ⟨trivial, ?_⟩)) ?_; (first | exact True.intro | rfl | assumption | omega | (simp only [inR]; omega) | ((show _ ≤ (9223372036854775807 : Nat)); (try simp only [ByteArray.size_append]); omega) | exact tmod_ok (by omega) (by omega) | exact tdiv_ok (by omega) (by omega) | exact ⟨rfl, by decide, by decide⟩)) | refine rgF (id := 8) (i := 12) 1 (by kernel_rfl) rfl ?_ | refine rgStore (id := 8) (i := 13) rfl rfl rfl rfl rfl rfl rfl rfl rfl rfl rfl (by repeat (first | exact trivial | refine ⟨⟨rfl, rfl⟩, ?_⟩ | refine ⟨trivial, ?_⟩)) ?_ | refine rgAlloc (id := 8) (i := 13) rfl rfl rfl rfl rfl rfl rfl (by repeat (first | exact trivial | refine ⟨⟨rfl, rfl⟩, ?_⟩ | refine ⟨trivial, ?_⟩)) ?_ | refine rgBox (id := 8) (i := 13) rfl rfl rfl rfl rfl rfl rfl (by repeat (first | exact trivial | refine ⟨⟨rfl, rfl⟩, ?_⟩ | refine ⟨trivial, ?_⟩)) ?_ | refine rgStoreP _ (id := 8) (i := 13) rfl rfl rfl rfl rfl rfl rfl (by assumption) rfl rfl rfl (by repeat (first | exact trivial | refine ⟨⟨rfl, rfl⟩, ?_⟩ | refine ⟨trivial, ?_⟩)) ?_ | (refine rgS (id := 8) (i := 13) rfl rfl rfl rfl ?_ (by repeat (first | exact trivial | refine ⟨⟨rfl, rfl⟩, ?_⟩ | refine ⟨trivial, ?_⟩)) ?_; (first | exact True.intro | rfl | assumption | omega | (simp only [inR]; omega) | ((show _ ≤ (9223372036854775807 : Nat)); (try simp only [ByteArray.size_append]); omega) | exact tmod_ok (by omega) (by omega) | exact tdiv_ok (by omega) (by omega) | exact ⟨rfl, by decide, by decide⟩)) | refine rgN ?_ | (show TmB _ _ ∧ RGo _ _ _ _ _ _ _ _ _; refine ⟨(by repeat (first | exact trivial | refine ⟨rfl, ?_⟩)), ?_⟩) | refine zS rfl ?_ | refine qA ?_ | refine qB rfl ?_ | refine qC (by kernel_rfl) ?_ | refine qD ?_ | refine qE ?_ | refine qF ?_ | refine qG ?_ | refine qH rfl ?_ | refine qI (encE x) rfl (guardX_ok rfl) rfl rfl rfl rfl rfl rfl (by first | omega | decide) hx ?_ | refine qP rfl rfl rfl rfl rfl rfl b21 (hcx) ?_ | refine rgS (id := 8) (i := 11) rfl rfl rfl rfl (⟨by simp, encE_one9 _, by show ((b :: q).length + 1) * 120 ≤ 140737488355328; omega, by show (b :: q).length + 1 ≤ 9223372036854775807; omega⟩) (by repeat (first | exact trivial | refine ⟨⟨rfl, rfl⟩, ?_⟩ | refine ⟨trivial, ?_⟩)) ?_ | refine zT rfl ?_ | refine zU rfl ?_ | refine qL rfl rfl ?_ | refine qM rfl rfl rfl ?_ | refine qO rfl rfl rfl ?_ | refine zX rfl rfl rfl rfl ?_ | refine zW rfl rfl rfl rfl ?_ | (refine qY rfl rfl rfl rfl ?_ ?_ <;> intro _) | exact zD | exact zL)
          refine go_stop ?_
          refine ⟨⟨i + 1, by omega⟩, by dsimp only; omega, ?_⟩
          dsimp only
          rw [hta, ho']
          exact (zren [0, 1, 2, 3, 5])
      · have g1 : decide ((i : Int) < ((kidsE (.mk op w s ds ks)).length : Int)) = false := by rw [hlen]; simp; omega
        rw [List.take_of_length_le hge]
        show go _ _ _ (EndIs _ _ (.d (.agg [.int op, .int w.k, .int w.n, .int w.d, .str w.s, .sl (kids w), .str s, .bool ds, .sl (encEL (repL nm v ks))])))
        generalize encEL (repL nm v ks) = L
        cases L with
        | nil =>
          dsimp only [rowK, rowO, List.append, HAppend.hAppend, Append.append]
          repeat' (first | refine zS rfl ?_ | refine qA ?_ | refine qB rfl ?_ | refine qC (by kernel_rfl) ?_ | refine qD ?_ | refine qE ?_ | refine qF ?_ | refine qG ?_ | refine qH rfl ?_ | refine zT rfl ?_ | refine zU rfl ?_ | refine qL rfl rfl ?_ | refine qM rfl rfl rfl ?_ | refine qO rfl rfl rfl ?_ | refine zX rfl rfl rfl rfl ?_ | refine zW rfl rfl rfl rfl ?_ | (refine qY rfl rfl rfl rfl ?_ ?_ <;> intro _) | exact zD | exact zL)
        | cons b q =>
          dsimp only [rowK, rowO, List.append, HAppend.hAppend, Append.append]
          repeat' (first | (refine go_frz 4 rfl ?_; dsimp only [frzT, frzX, frzO, frzC, List.map, List.set]) | refine zS rfl ?_ | refine qA ?_ | refine qB rfl ?_ | refine qC (by kernel_rfl) ?_ | refine qD ?_ | refine qE ?_ | refine qF ?_ | refine qG ?_ | refine qH rfl ?_ | refine zT rfl ?_ | refine zU rfl ?_ | refine qL rfl rfl ?_ | refine qM rfl rfl rfl ?_ | refine qO rfl rfl rfl ?_ | refine zX rfl rfl rfl rfl ?_ | refine zW rfl rfl rfl rfl ?_ | (refine qY rfl rfl rfl rfl ?_ ?_ <;> intro _) | exact zD | exact zL)
/-! ## The law -/
theorem law_replace (g : Gr) (e : Ex) (nm : ByteArray) (v : V) (env : List Bd) (h : bulkL [encGr g, encE e, .str nm, enc v, .sl (env.map encBd)] ≤ 1048576) : Ev E 6 [encGr g, encE e, .str nm, enc v, .sl (env.map encBd)] (.d (.bool true)) := by
  have hn := nd_bulk e
  have hcv := cost_bulk v
  rw [bulkL, bulkL, bulkL, bulkL, bulkL, bulkD, bulkD] at h
  have h1 := few_ev g e env (by omega)
  cases hf : fewF g e env with
  | false =>
    rw [hf] at h1
    refine enter5 Tryz.func6 Tryz.ntmps6 rfl rfl fun w0 F0 O => ?_
    repeat' (first | refine zS rfl ?_ | refine qA ?_ | refine qB rfl ?_ | refine qC (by kernel_rfl) ?_ | refine qD ?_ | refine qE ?_ | refine qF ?_ | refine qG ?_ | refine qH rfl ?_ | refine qP rfl rfl rfl rfl rfl rfl b9 (h1) ?_ | refine qP rfl rfl rfl rfl rfl rfl b10 (alive_ev) ?_ | refine zT rfl ?_ | refine zU rfl ?_ | refine qL rfl rfl ?_ | refine qM rfl rfl rfl ?_ | refine qO rfl rfl rfl ?_ | refine zX rfl rfl rfl rfl ?_ | refine zW rfl rfl rfl rfl ?_ | (refine qY rfl rfl rfl rfl ?_ ?_ <;> intro _) | exact zD | exact zL)
  | true =>
  rw [hf] at h1
  have hnd := (few_inv hf).1
  have hdp := dp_nd e
  have k1 := rcheck_ev e (by omega) (by omega)
  cases z1 : chkF e != 0 with
  | true =>
    refine enter5 Tryz.func6 Tryz.ntmps6 rfl rfl fun w0 F0 O => ?_
    repeat' (first | refine zS rfl ?_ | refine qA ?_ | refine qB rfl ?_ | refine qC (by kernel_rfl) ?_ | refine qD ?_ | refine qE ?_ | refine qF ?_ | refine qG ?_ | refine qH rfl ?_ | refine qP rfl rfl rfl rfl rfl rfl b9 (h1) ?_ | refine qP rfl rfl rfl rfl rfl rfl b10 (alive_ev) ?_ | refine qP (d := 20) rfl rfl rfl rfl rfl rfl b17 (k1) ?_ | refine zT rfl ?_ | refine zU rfl ?_ | refine qL rfl rfl ?_ | refine qM rfl rfl rfl ?_ | refine qO rfl rfl rfl ?_ | refine zX rfl rfl rfl rfl ?_ | refine zW rfl rfl rfl rfl ?_ | (refine qY rfl rfl rfl rfl ?_ ?_ <;> intro _) | exact zD | exact zL)
  | false =>
  have hrp := replaced_ev nm v e (by omega)
  have hr := nd_rep nm v e
  have k2 := rcheck_ev (repE nm v e) (by omega) (by omega)
  cases z2 : chkF (repE nm v e) != 0 with
  | true =>
    refine enter5 Tryz.func6 Tryz.ntmps6 rfl rfl fun w0 F0 O => ?_
    repeat' (first | refine zS rfl ?_ | refine qA ?_ | refine qB rfl ?_ | refine qC (by kernel_rfl) ?_ | refine qD ?_ | refine qE ?_ | refine qF ?_ | refine qG ?_ | refine qH rfl ?_ | refine qP rfl rfl rfl rfl rfl rfl b9 (h1) ?_ | refine qP rfl rfl rfl rfl rfl rfl b10 (alive_ev) ?_ | refine qP (d := 20) rfl rfl rfl rfl rfl rfl b17 (k1) ?_ | refine qP rfl rfl rfl rfl rfl rfl b21 (hrp) ?_ | refine qP (d := 29) rfl rfl rfl rfl rfl rfl b17 (k2) ?_ | refine zT rfl ?_ | refine zU rfl ?_ | refine qL rfl rfl ?_ | refine qM rfl rfl rfl ?_ | refine qO rfl rfl rfl ?_ | refine zX rfl rfl rfl rfl ?_ | refine zW rfl rfl rfl rfl ?_ | (refine qY rfl rfl rfl rfl ?_ ?_ <;> intro _) | exact zD | exact zL)
  | false =>
  obtain ⟨e1, e2⟩ := env_bnd (env := env) (by omega)
  have ce := cE_bulk e 1048576 (by omega)
  have ok1 : EvOK g (⟨nm, v⟩ :: env) e := evOK_of (by omega) (by simp; omega) (fun b hb => by
    rcases List.mem_cons.1 hb with rfl | hb
    · show cost v ≤ _; omega
    · exact e2 b hb) ce (by omega)
  have ok2 : EvOK g env (repE nm v e) := evOK_of (by omega) (by omega) e2 (cE_rep nm v (by omega) e ce) (by omega)
  have v1 := Eval_ev g (⟨nm, v⟩ :: env) e ok1
  have v2 := Eval_ev g env (repE nm v e) ok2
  have ee : valF g (⟨nm, v⟩ :: env) e = valF g env (repE nm v e) := by
    rw [valF, valF, z1, z2, cond_false, cond_false, rep_ev]
  have vo := rOrder_ev (valF g env (repE nm v e)) (valF g env (repE nm v e))
  rw [ord_self] at vo
  rw [ee] at v1
  generalize valF g env (repE nm v e) = val at *
  have hl : env.length ≤ 1048576 := e1
  have hzb : (env.map encBd).length ≤ 1048576 := by rw [List.length_map]; exact hl
  have one6 : ∀ d ∈ env.map encBd, d.cells.length = 6 := fun d hd => by obtain ⟨x, -, rfl⟩ := List.mem_map.1 hd; rfl
  cases env with
  | nil =>
    refine enter5 Tryz.func6 Tryz.ntmps6 rfl rfl fun w0 F0 O => ?_
    repeat' (first | refine zS rfl ?_ | refine qA ?_ | refine qB rfl ?_ | refine qC (by kernel_rfl) ?_ | refine qD ?_ | refine qE ?_ | refine qF ?_ | refine qG ?_ | refine qH rfl ?_ | refine qP rfl rfl rfl rfl rfl rfl b9 (h1) ?_ | refine qP rfl rfl rfl rfl rfl rfl b10 (alive_ev) ?_ | refine qP (d := 20) rfl rfl rfl rfl rfl rfl b17 (k1) ?_ | refine qP rfl rfl rfl rfl rfl rfl b21 (hrp) ?_ | refine qP (d := 29) rfl rfl rfl rfl rfl rfl b17 (k2) ?_ | refine go_append0 rfl rfl rfl rfl rfl rfl rfl rfl ?_ | refine qP (d := 41) rfl rfl rfl rfl rfl rfl b11 (v1) ?_ | refine qP (d := 45) rfl rfl rfl rfl rfl rfl b11 (v2) ?_ | refine qP rfl rfl rfl rfl rfl rfl b13 (vo) ?_ | refine zT rfl ?_ | refine zU rfl ?_ | refine qL rfl rfl ?_ | refine qM rfl rfl rfl ?_ | refine qO rfl rfl rfl ?_ | refine zX rfl rfl rfl rfl ?_ | refine zW rfl rfl rfl rfl ?_ | (refine qY rfl rfl rfl rfl ?_ ?_ <;> intro _) | exact zD | exact zL)
  | cons b q =>
    refine enter5 Tryz.func6 Tryz.ntmps6 rfl rfl fun w0 F0 O => ?_
    have hle : ((b :: q).map encBd).length ≤ 1048576 := hzb
    repeat' (first | refine go_buildOwn rfl rfl rfl rfl rfl rfl rfl (by decide) (by decide) ?_ | (refine go_frz 5 rfl ?_; dsimp only [frzT, frzX, frzO, frzC, List.map, List.set]) | refine zS rfl ?_ | refine qA ?_ | refine qB rfl ?_ | refine qC (by kernel_rfl) ?_ | refine qD ?_ | refine qE ?_ | refine qF ?_ | refine qG ?_ | refine qH rfl ?_ | (refine qS rfl ⟨by simp, one6, by show (1 + ((b :: q).map encBd).length) * 80 ≤ 140737488355328; omega, by show 1 + ((b :: q).map encBd).length ≤ 9223372036854775807; omega⟩ ?_) | refine qP rfl rfl rfl rfl rfl rfl b9 (h1) ?_ | refine qP rfl rfl rfl rfl rfl rfl b10 (alive_ev) ?_ | refine qP (d := 20) rfl rfl rfl rfl rfl rfl b17 (k1) ?_ | refine qP rfl rfl rfl rfl rfl rfl b21 (hrp) ?_ | refine qP (d := 29) rfl rfl rfl rfl rfl rfl b17 (k2) ?_ | refine qP (d := 41) rfl rfl rfl rfl rfl rfl b11 (v1) ?_ | refine qP (d := 45) rfl rfl rfl rfl rfl rfl b11 (v2) ?_ | refine qP rfl rfl rfl rfl rfl rfl b13 (vo) ?_ | refine zT rfl ?_ | refine zU rfl ?_ | refine qL rfl rfl ?_ | refine qM rfl rfl rfl ?_ | refine qO rfl rfl rfl ?_ | refine zX rfl rfl rfl rfl ?_ | refine zW rfl rfl rfl rfl ?_ | (refine qY rfl rfl rfl rfl ?_ ?_ <;> intro _) | exact zD | exact zL)
set_option maxRecDepth 100000 in
theorem replace_lifted (os : Os) (started : os.Started) (H : Type) (enc : TypeId × Value → H) (F : Stop.Interp) :
    ReturnsInHanded {} Tryz.checked os 6 .any ((Rows.OpenSpec.upto Rows.evalReplaceSpec).preRow enc Tryz.prog Tryz.f6 [] false seatLaid)
      (((Rows.OpenSpec.upto Rows.evalReplaceSpec).at F).post enc Tryz.prog Tryz.f6 false true false false) := by
  refine lift_cond (C := Tryz.checked) (s0 := Rows.evalReplaceSpec) (kf := Rows.uptoSmall) (laid := seatLaid) (tb := 4) F tys2 rfl rfl rfl seat_own started (by kernel_rfl) Tryz.func6
    (witness_cond (kf := Rows.uptoSmall) rfl (wit os) #[.agg #[.slice none 0 0, .slice none 0 0, .int .i64 0, .int .i64 0], .agg #[.int .i64 0, .int .i64 0, .int .i64 0, .int .i64 0, .string ⟨#[]⟩, .slice none 0 0, .string ⟨#[]⟩, .bool false, .slice none 0 0], .string ⟨#[]⟩, .agg #[.int .i64 0, .int .i64 0, .int .i64 0, .string ⟨#[]⟩, .slice none 0 0], .slice none 0 0] 8 rfl (wit_shaped os _) (by kernel_rfl) (by kernel_rfl) (by kernel_rfl) (wit_met os _))
    rfl rfl Tryz.underlying4 (fun ds hl => ?_) seat_out (by kernel_rfl) tys2_ok (by kernel_rfl) (fun W args xs ds hL hS hx hsz hr hty hdl hk => ?_)
  · match ds, hl with
    | [_, _, _, _, _], _ => rfl
  · have hsz' : args.size = 5 := hsz
    have hbk := says_all ds xs (by rw [hdl, hx, hsz]) fun i d x hd hxi => (hty i _ x (by
      rw [Array.getElem?_toList]
      exact Array.getElem?_eq_getElem (by rw [← hsz, ← hx]; exact (List.getElem?_eq_some_iff.1 hxi).1)) hxi).2 d hd
    have hsm : Rows.uptoBulkAll ds ≤ 1048576 := of_decide_eq_true hk
    rw [hsz'] at hx
    match xs, hx with
    | [x0, x1, x2, x3, x4], _ =>
      obtain ⟨a0, rfl⟩ := ty_graph (hty 0 _ x0 rfl rfl).1
      obtain ⟨a1, rfl⟩ := ty_expr (hty 1 _ x1 rfl rfl).1
      obtain ⟨a2, rfl⟩ := HasTy.str_inv Tryz.underlying9 (hty 2 _ x2 rfl rfl).1
      obtain ⟨a3, rfl⟩ := ty_val (hty 3 _ x3 rfl rfl).1
      obtain ⟨a4, rfl⟩ := ty_env (hty 4 _ x4 rfl rfl).1
      exact calls_of_ev (gi_of hL hS) (law_replace a0 a1 a2 a3 a4 (Nat.le_trans hbk hsm)) (by simp [hsz']) hr
theorem replace_holds : Rows.EvalReplaceUptoSaid :=
  OpenClaim.holds_of_cond 6 Tryz.f6 rfl rfl rfl rfl rfl rfl rfl ⟨rfl, rfl, rfl, rfl, rfl⟩ rfl rfl rfl rfl rfl (by kernel_rfl) Tryz.func6 (by kernel_rfl)
    (of_decide_eq_true (by kernel_rfl)) (by unfold Func.isWrapper; first | (rw [if_pos (by decide +kernel)]; kernel_rfl) | (rw [if_neg (by decide +kernel)]; exact ⟨rfl, rfl⟩))
    (fun os started H enc _ F => by rw [OpenClaim.pre_eq_preRow]; exact replace_lifted os started H enc F)
theorem replace_card : Rows.EvalReplaceUptoCardSaid := by
  unfold Rows.EvalReplaceUptoCardSaid Rows.evalReplaceUptoCard
  exact Claim7.holds_tied_plain_at .later [] _ true _ false
    replace_holds (fun _ h => by cases h) (by kernel_rfl) (fun _ h => by cases h) evalReplaceUpto_row_tie rfl ⟨rfl, rfl⟩ (by kernel_rfl) rfl
    (fun f fn hf hfn => by
      obtain rfl : f = 6 := Option.some.inj ((show Tryz.prog.funcNamed Rows.evalReplaceUptoRow.func = some 6 by kernel_rfl).symm.trans hf) |>.symm
      obtain rfl : fn = Tryz.f6 := (Option.some.inj (Tryz.func6.symm.trans hfn)).symm
      exact ⟨by kernel_rfl, fun j t ht => by
        have hall : (Tryz.f6.params.toList.all fun u => !Tryz.prog.wantsStandIn u) = true := by kernel_rfl
        exact (show Tryz.prog.wantsStandIn t = false by simpa using List.all_eq_true.1 hall t (by simpa using Array.mem_of_getElem? ht))⟩)
    (by kernel_rfl)
#print axioms replace_card
end Go.Proofs.YthieohigmpfknaaGreatDoor
