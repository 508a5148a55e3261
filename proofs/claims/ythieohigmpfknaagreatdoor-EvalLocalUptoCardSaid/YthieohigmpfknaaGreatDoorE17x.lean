/- EvalLocal: bindings of other variables, and other graphs for an expression that reads none, do not matter, within the row's bound; and the chapter's examples hold. The tied card of the second form. Conditions: none beyond the card's own. -/
import Derived.Test.YthieohigmpfknaaGreatDoorGC
import Derived.Test.YthieohigmpfknaaGreatDoorEY
import Derived.Test.YthieohigmpfknaaGreatDoorE14x
set_option linter.unusedVariables false
set_option linter.unusedSimpArgs false
namespace Go.Proofs.YthieohigmpfknaaGreatDoor
open Go Go.Abs Go.Val Go.RowKit Go.ChangeShapes Go.WideShapes
attribute [local irreducible] go SGo HasBody Ev ExtEv EvO EvS binOp RGo RGw

theorem usesL_at {nm : ByteArray} {l : List Ex} {i : Nat} {x : Ex} (h : l[i]? = some x) : usesL nm (l.drop i) = (usesF nm x || usesL nm (l.drop (i + 1))) := by
  rw [drop_at h, usesL]
structure SUs (nm : ByteArray) (l : List Ex) where
  i : Nat
  hi : i ≤ l.length
  ok : usesL nm l = usesL nm (l.drop i)
set_option maxHeartbeats 4000000 in
theorem uses_ev (nm : ByteArray) (e : Ex) : nd e ≤ 2000000 → Ev E 22 [encE e, .str nm] (.d (.bool (usesF nm e))) := by
  refine xind (P := fun e => nd e ≤ 2000000 → Ev E 22 [encE e, .str nm] (.d (.bool (usesF nm e)))) (fun op w s ds ks ih hn => ?_) e
  rw [nd_eq] at hn
  have hn' : ndL ks + 1 ≤ 2000000 := hn
  have hkl : ks.length ≤ ndL ks := by
    have : ∀ l : List Ex, l.length ≤ ndL l := by
      intro l
      induction l with
      | nil => simp
      | cons a r ihr => have := nd_pos a; simp only [List.length_cons, ndL]; omega
    exact this ks
  have hnx : ∀ x ∈ ks, nd x ≤ 2000000 := by
    have : ∀ l : List Ex, ∀ x ∈ l, nd x ≤ ndL l := by
      intro l
      induction l with
      | nil => intro x hx; simp at hx
      | cons a r ihr =>
        intro x hx
        simp only [ndL]
        rcases List.mem_cons.1 hx with rfl | hx
        · omega
        · have := ihr x hx; omega
    intro x hx
    have := this ks x hx
    omega
  have hlen : (kidsE (.mk op w s ds ks)).length = ks.length := kidsE_len _
  have hkg : ∀ (i : Nat) (x : Ex), ks[i]? = some x → (kidsE (.mk op w s ds ks))[(i : Int).toNat]? = some (encE x) := fun i x h => kidsE_get (e := .mk op w s ds ks) (by rw [Int.toNat_natCast]; exact h)
  rw [usesF]
  unfold usF
  cases hc1 : (!(eqS nm ⟨#[]⟩) && (op == 2 && eqS s nm)) with
  | true =>
    rw [Bool.true_or, Bool.true_or]
    refine enter2 Tryz.func22 Tryz.ntmps22 rfl rfl fun w0 F0 O => ?_
    repeat' (first | refine go_cutR 1 (fun b => ⟨[(18, .d (.bool b)), (4, .d (.bool false)), (1, .d (.str nm)), (2, .ptr 0 0)], [.var 31 (.w (.d (encE (.mk op w s ds ks))))]⟩) (true) ?_ ?_ | refine zS rfl ?_ | refine qA ?_ | refine qB rfl ?_ | refine qC (by kernel_rfl) ?_ | refine qD ?_ | refine qE ?_ | refine qF ?_ | refine qG ?_ | refine qH rfl ?_ | refine go_stop ⟨_, ?_, (zle 1)⟩ | refine zT rfl ?_ | refine zU rfl ?_ | refine qL rfl rfl ?_ | refine qM rfl rfl rfl ?_ | refine qO rfl rfl rfl ?_ | refine zX rfl rfl rfl rfl ?_ | refine zW rfl rfl rfl rfl ?_ | (refine qY rfl rfl rfl rfl ?_ ?_ <;> intro _) | (refine qV rfl ?_ ?_ <;> intro _) | exact zD | exact zL)
    all_goals (clear ih hkg hnx hlen; simp_all [eqS, Ex.op, Ex.nm])
  | false =>
  rw [Bool.false_or]
  cases hc2 : (eqS nm ⟨#[]⟩ && (op == 3 || (op == 4 || (op == 23 && readsF s)))) with
  | true =>
    rw [Bool.true_or]
    refine enter2 Tryz.func22 Tryz.ntmps22 rfl rfl fun w0 F0 O => ?_
    repeat' (first | refine go_cutR 1 (fun b => ⟨[(18, .d (.bool b)), (4, .d (.bool false)), (1, .d (.str nm)), (2, .ptr 0 0)], [.var 31 (.w (.d (encE (.mk op w s ds ks))))]⟩) (false) ?_ ?_ | refine go_cutR 3 (fun b => ⟨[(55, .d (.bool b)), (4, .d (.bool false)), (1, .d (.str nm)), (2, .ptr 0 0)], [.var 31 (.w (.d (encE (.mk op w s ds ks))))]⟩) (true) ?_ ?_ | refine zS rfl ?_ | refine qA ?_ | refine qB rfl ?_ | refine qC (by kernel_rfl) ?_ | refine qD ?_ | refine qE ?_ | refine qF ?_ | refine qG ?_ | refine qH rfl ?_ | refine go_stop ⟨_, ?_, (zle 1)⟩ | refine zT rfl ?_ | refine zU rfl ?_ | refine qL rfl rfl ?_ | refine qM rfl rfl rfl ?_ | refine qO rfl rfl rfl ?_ | refine zX rfl rfl rfl rfl ?_ | refine zW rfl rfl rfl rfl ?_ | (refine qY rfl rfl rfl rfl ?_ ?_ <;> intro _) | (refine qV rfl ?_ ?_ <;> intro _) | exact zD | exact zL)
    all_goals (clear ih hkg hnx hlen; simp_all [eqS, Ex.op, Ex.nm, readsF, nmType, nmLabels, nmStart, nmEnd])
  | false =>
  rw [Bool.false_or]
  refine enter2 Tryz.func22 Tryz.ntmps22 rfl rfl fun w0 F0 O => ?_
  repeat' (first | refine go_cutR 1 (fun b => ⟨[(18, .d (.bool b)), (4, .d (.bool false)), (1, .d (.str nm)), (2, .ptr 0 0)], [.var 31 (.w (.d (encE (.mk op w s ds ks))))]⟩) (false) ?_ ?_ | refine go_cutR 3 (fun b => ⟨[(55, .d (.bool b)), (4, .d (.bool false)), (1, .d (.str nm)), (2, .ptr 0 0)], [.var 31 (.w (.d (encE (.mk op w s ds ks))))]⟩) (false) ?_ ?_ | refine zS rfl ?_ | refine qA ?_ | refine qB rfl ?_ | refine qC (by kernel_rfl) ?_ | refine qD ?_ | refine qE ?_ | refine qF ?_ | refine qG ?_ | refine qH rfl ?_ | refine go_stop ⟨_, ?_, (zle 1)⟩ | refine zT rfl ?_ | refine zU rfl ?_ | refine qL rfl rfl ?_ | refine qM rfl rfl rfl ?_ | refine qO rfl rfl rfl ?_ | refine zX rfl rfl rfl rfl ?_ | refine zW rfl rfl rfl rfl ?_ | (refine qY rfl rfl rfl rfl ?_ ?_ <;> intro _) | (refine qV rfl ?_ ?_ <;> intro _) | exact zD | exact zL)
  rotate_right 1
  · refine go_loop_ (α := SUs nm ks) (fun p => ⟨[(4, .d (.bool false)), (1, .d (.str nm)), (2, .ptr 0 0), (5, .d (.int p.i))], [.var 31 (.w (.d (encE (.mk op w s ds ks))))]⟩) (fun p => ks.length - p.i) ⟨0, by omega, rfl⟩ ((zle 1)) ?_
    rintro ⟨i, hi, ok⟩
    dsimp only
    rcases Nat.lt_or_ge i ks.length with hlt | hge
    · have g1 : decide ((i : Int) < ((kidsE (.mk op w s ds ks)).length : Int)) = true := by rw [hlen]; simpa using hlt
      have hx0 := List.getElem?_eq_getElem hlt
      generalize ks[i] = x at hx0
      have hx := hkg i x hx0
      have hcx := ih x (List.mem_of_getElem? hx0) (hnx x (List.mem_of_getElem? hx0))
      rw [usesL_at hx0] at ok
      cases hd : usesF nm x with
      | true =>
        rw [hd] at hcx ok
        rw [ok, Bool.true_or]
        repeat' (first | refine zS rfl ?_ | refine qA ?_ | refine qB rfl ?_ | refine qC (by kernel_rfl) ?_ | refine qD ?_ | refine qE ?_ | refine qF ?_ | refine qG ?_ | refine qH rfl ?_ | refine qI (encE x) rfl (guardX_ok rfl) rfl rfl rfl rfl rfl rfl (by first | omega | decide) hx ?_ | refine qP rfl rfl rfl rfl rfl rfl b22 (hcx) ?_ | refine zT rfl ?_ | refine zU rfl ?_ | refine qL rfl rfl ?_ | refine qM rfl rfl rfl ?_ | refine qO rfl rfl rfl ?_ | refine zX rfl rfl rfl rfl ?_ | refine zW rfl rfl rfl rfl ?_ | (refine qY rfl rfl rfl rfl ?_ ?_ <;> intro _) | exact zD | exact zL)
      | false =>
        rw [hd] at hcx
        rw [hd, Bool.false_or] at ok
        repeat' (first | refine zS rfl ?_ | refine qA ?_ | refine qB rfl ?_ | refine qC (by kernel_rfl) ?_ | refine qD ?_ | refine qE ?_ | refine qF ?_ | refine qG ?_ | refine qH rfl ?_ | refine qI (encE x) rfl (guardX_ok rfl) rfl rfl rfl rfl rfl rfl (by first | omega | decide) hx ?_ | refine qP rfl rfl rfl rfl rfl rfl b22 (hcx) ?_ | refine zT rfl ?_ | refine zU rfl ?_ | refine qL rfl rfl ?_ | refine qM rfl rfl rfl ?_ | refine qO rfl rfl rfl ?_ | refine zX rfl rfl rfl rfl ?_ | refine zW rfl rfl rfl rfl ?_ | (refine qY rfl rfl rfl rfl ?_ ?_ <;> intro _) | exact zD | exact zL)
        refine go_stop ?_
        exact ⟨⟨i + 1, by omega, ok⟩, by dsimp only; omega, (zle 1)⟩
    · have g1 : decide ((i : Int) < ((kidsE (.mk op w s ds ks)).length : Int)) = false := by rw [hlen]; simp; omega
      rw [ok, List.drop_eq_nil_of_le hge, usesL]
      repeat' (first | refine zS rfl ?_ | refine qA ?_ | refine qB rfl ?_ | refine qC (by kernel_rfl) ?_ | refine qD ?_ | refine qE ?_ | refine qF ?_ | refine qG ?_ | refine qH rfl ?_ | refine zT rfl ?_ | refine zU rfl ?_ | refine qL rfl rfl ?_ | refine qM rfl rfl rfl ?_ | refine qO rfl rfl rfl ?_ | refine zX rfl rfl rfl rfl ?_ | refine zW rfl rfl rfl rfl ?_ | (refine qY rfl rfl rfl rfl ?_ ?_ <;> intro _) | exact zD | exact zL)
  all_goals (clear ih hkg hnx hlen; simp_all [eqS, Ex.op, Ex.nm, readsF, nmType, nmLabels, nmStart, nmEnd])
/-! ## The law -/
theorem val_cong {g h : Gr} {env env' : List Bd} {e : Ex} (he : evF g env e = evF h env' e) : valF g env e = valF h env' e := by unfold valF; rw [he]
set_option maxHeartbeats 8000000 in
theorem law_local (g h : Gr) (e : Ex) (x : Bd) (env : List Bd) (hb : bulkL [encGr g, encGr h, encE e, encBd x, .sl (env.map encBd)] ≤ 1048576) : Ev E 7 [encGr g, encGr h, encE e, encBd x, .sl (env.map encBd)] (.d (.bool true)) := by
  have hn := nd_bulk e
  have hcx := cost_bulk x.v
  rw [bulkL, bulkL, bulkL, bulkL, bulkL, bulkD, bulk_bd] at hb
  have h1 := few_ev g e env (by omega)
  have h2 := few_ev h e env (by omega)
  cases hf : fewF g e env with
  | false =>
    rw [hf] at h1
    refine enter5 Tryz.func7 Tryz.ntmps7 rfl rfl fun w0 F0 O => ?_
    repeat' (first | refine zS rfl ?_ | refine qA ?_ | refine qB rfl ?_ | refine qC (by kernel_rfl) ?_ | refine qD ?_ | refine qE ?_ | refine qF ?_ | refine qG ?_ | refine qH rfl ?_ | refine qP (d := 15) rfl rfl rfl rfl rfl rfl b9 (h1) ?_ | refine qP rfl rfl rfl rfl rfl rfl b10 (alive_ev) ?_ | refine zT rfl ?_ | refine zU rfl ?_ | refine qL rfl rfl ?_ | refine qM rfl rfl rfl ?_ | refine qO rfl rfl rfl ?_ | refine zX rfl rfl rfl rfl ?_ | refine zW rfl rfl rfl rfl ?_ | (refine qY rfl rfl rfl rfl ?_ ?_ <;> intro _) | exact zD | exact zL)
  | true =>
  rw [hf] at h1
  cases hf2 : fewF h e env with
  | false =>
    rw [hf2] at h2
    refine enter5 Tryz.func7 Tryz.ntmps7 rfl rfl fun w0 F0 O => ?_
    repeat' (first | refine zS rfl ?_ | refine qA ?_ | refine qB rfl ?_ | refine qC (by kernel_rfl) ?_ | refine qD ?_ | refine qE ?_ | refine qF ?_ | refine qG ?_ | refine qH rfl ?_ | refine qP (d := 15) rfl rfl rfl rfl rfl rfl b9 (h1) ?_ | refine qP (d := 21) rfl rfl rfl rfl rfl rfl b9 (h2) ?_ | refine qP rfl rfl rfl rfl rfl rfl b10 (alive_ev) ?_ | refine zT rfl ?_ | refine zU rfl ?_ | refine qL rfl rfl ?_ | refine qM rfl rfl rfl ?_ | refine qO rfl rfl rfl ?_ | refine zX rfl rfl rfl rfl ?_ | refine zW rfl rfl rfl rfl ?_ | (refine qY rfl rfl rfl rfl ?_ ?_ <;> intro _) | exact zD | exact zL)
  | true =>
  rw [hf2] at h2
  have hnd := (few_inv hf).1
  have hlen := (few_inv hf).2.2.2
  obtain ⟨e1, e2⟩ := env_bnd (env := env) (by omega)
  have ce := cE_bulk e 1048576 (by omega)
  have ok0 : EvOK g env e := evOK_of (by omega) (by omega) e2 ce (by omega)
  have ok1 : EvOK g (x :: env) e := evOK_of (by omega) (by simp; omega) (fun b hb => by
    rcases List.mem_cons.1 hb with rfl | hb
    · omega
    · exact e2 b hb) ce (by omega)
  have ok2 : EvOK g (env ++ env) e := evOK_of (by omega) (by simp; omega) (fun b hb => by
    rcases List.mem_append.1 hb with hb | hb
    · exact e2 b hb
    · exact e2 b hb) ce (by omega)
  have ok3 : EvOK h env e := evOK_of (by omega) (by omega) e2 ce (by omega)
  have v0 := Eval_ev g env e ok0
  have v1 := Eval_ev g (x :: env) e ok1
  have v2 := Eval_ev g (env ++ env) e ok2
  have v3 := Eval_ev h env e ok3
  have u1 := uses_ev x.name e (by omega)
  have u2 := uses_ev ⟨#[]⟩ e (by omega)
  have vo := rOrder_ev (valF g env e) (valF g env e)
  rw [ord_self] at vo
  rw [val_cong (twice_env g env e), List.map_append] at v2
  have ub : eqS x.name ⟨#[]⟩ = false → usesF x.name e = false → valF g (x :: env) e = valF g env e := fun n1 n2 => val_cong (uses_bind g env x.v n1 e n2)
  have ug : usesF ⟨#[]⟩ e = false → valF h env e = valF g env e := fun n => val_cong (uses_graph h g env e n)
  have hlm : (env.map encBd).length ≤ 60 := by rw [List.length_map]; omega
  have one6 : ∀ d ∈ env.map encBd, d.cells.length = 6 := fun d hd => by obtain ⟨x, -, rfl⟩ := List.mem_map.1 hd; rfl
  clear hb hcx hn hf hf2 ok0 ok1 ok2 ok3 e1 e2 ce
  generalize valF g env e = val at *
  cases hg : usesF ⟨#[]⟩ e
  case' true => clear v3
  case' false => rw [ug hg] at v3
  all_goals
    rw [hg] at u2
    clear ug
    cases n1 : eqS x.name ⟨#[]⟩
    case true =>
      have n1' : (!(x.name.toList == (⟨#[]⟩ : ByteArray).toList)) = false := by show (!(eqS x.name ⟨#[]⟩)) = false; rw [n1]; rfl
      cases env with
      | nil =>
        refine enter5 Tryz.func7 Tryz.ntmps7 rfl rfl fun w0 F0 O => ?_
        repeat' (first | refine zS rfl ?_ | refine qA ?_ | refine qB rfl ?_ | refine qC (by kernel_rfl) ?_ | refine qD ?_ | refine qE ?_ | refine qF ?_ | refine qG ?_ | refine qH rfl ?_ | refine qP (d := 15) rfl rfl rfl rfl rfl rfl b9 (h1) ?_ | refine qP (d := 21) rfl rfl rfl rfl rfl rfl b9 (h2) ?_ | refine qP rfl rfl rfl rfl rfl rfl b10 (alive_ev) ?_ | refine qP (d := 28) rfl rfl rfl rfl rfl rfl b11 (v0) ?_ | refine go_append0 rfl rfl rfl rfl rfl rfl rfl rfl ?_ | refine qP (d := 58) rfl rfl rfl rfl rfl rfl b11 (v2) ?_ | refine qP rfl rfl rfl rfl rfl rfl b13 (vo) ?_ | refine qP (d := 63) rfl rfl rfl rfl rfl rfl b22 (u2) ?_ | refine qP (d := 68) rfl rfl rfl rfl rfl rfl b11 (v3) ?_ | refine zT rfl ?_ | refine zU rfl ?_ | refine qL rfl rfl ?_ | refine qM rfl rfl rfl ?_ | refine qO rfl rfl rfl ?_ | refine zX rfl rfl rfl rfl ?_ | refine zW rfl rfl rfl rfl ?_ | (refine qY rfl rfl rfl rfl ?_ ?_ <;> intro _) | exact zD | exact zL)
      | cons b q =>
        refine enter5 Tryz.func7 Tryz.ntmps7 rfl rfl fun w0 F0 O => ?_
        repeat' (first | refine qErT (id := 6) [2,4,6] [] (by kernel_rfl) (by kernel_rfl) (by repeat (first | exact trivial | refine ⟨⟨rfl, rfl⟩, ?_⟩ | refine ⟨trivial, ?_⟩)) ?_ | (refine reV (id := 6) (i := 0) rfl rfl rfl rfl rfl rfl ?_ ?_; (first | exact True.intro | rfl | assumption | omega | (simp only [inR]; omega) | ((show _ ≤ (9223372036854775807 : Nat)); (try simp only [ByteArray.size_append]); omega) | exact tmod_ok (by omega) (by omega) | exact tdiv_ok (by omega) (by omega) | exact ⟨rfl, by decide, by decide⟩)) | (refine reV (id := 6) (i := 1) rfl rfl rfl rfl rfl rfl ?_ ?_; (first | exact True.intro | rfl | assumption | omega | (simp only [inR]; omega) | ((show _ ≤ (9223372036854775807 : Nat)); (try simp only [ByteArray.size_append]); omega) | exact tmod_ok (by omega) (by omega) | exact tdiv_ok (by omega) (by omega) | exact ⟨rfl, by decide, by decide⟩)) | (refine reV (id := 6) (i := 3) rfl rfl rfl rfl rfl rfl ?_ ?_; (first | exact True.intro | rfl | assumption | omega | (simp only [inR]; omega) | ((show _ ≤ (9223372036854775807 : Nat)); (try simp only [ByteArray.size_append]); omega) | exact tmod_ok (by omega) (by omega) | exact tdiv_ok (by omega) (by omega) | exact ⟨rfl, by decide, by decide⟩)) | (refine reV (id := 6) (i := 5) rfl rfl rfl rfl rfl rfl ?_ ?_; (first | exact True.intro | rfl | assumption | omega | (simp only [inR]; omega) | ((show _ ≤ (9223372036854775807 : Nat)); (try simp only [ByteArray.size_append]); omega) | exact tmod_ok (by omega) (by omega) | exact tdiv_ok (by omega) (by omega) | exact ⟨rfl, by decide, by decide⟩)) | refine reF (id := 6) (i := 7) 1 (by kernel_rfl) rfl ?_ | (refine reV (id := 6) (i := 8) rfl rfl rfl rfl rfl rfl ?_ ?_; (first | exact True.intro | rfl | assumption | omega | (simp only [inR]; omega) | ((show _ ≤ (9223372036854775807 : Nat)); (try simp only [ByteArray.size_append]); omega) | exact tmod_ok (by omega) (by omega) | exact tdiv_ok (by omega) (by omega) | exact ⟨rfl, by decide, by decide⟩)) | refine reF (id := 6) (i := 9) 2 (by kernel_rfl) rfl ?_ | refine reN ?_ | refine zS rfl ?_ | refine qA ?_ | refine qB rfl ?_ | refine qC (by kernel_rfl) ?_ | refine qD ?_ | refine qE ?_ | refine qF ?_ | refine qG ?_ | refine qH rfl ?_ | refine qP (d := 15) rfl rfl rfl rfl rfl rfl b9 (h1) ?_ | refine qP (d := 21) rfl rfl rfl rfl rfl rfl b9 (h2) ?_ | refine qP rfl rfl rfl rfl rfl rfl b10 (alive_ev) ?_ | refine qP (d := 28) rfl rfl rfl rfl rfl rfl b11 (v0) ?_ | refine go_append0 rfl rfl rfl rfl rfl rfl rfl rfl ?_ | refine qP (d := 58) rfl rfl rfl rfl rfl rfl b11 (v2) ?_ | refine qP rfl rfl rfl rfl rfl rfl b13 (vo) ?_ | refine qP (d := 63) rfl rfl rfl rfl rfl rfl b22 (u2) ?_ | refine qP (d := 68) rfl rfl rfl rfl rfl rfl b11 (v3) ?_ | refine reOwn (id := 6) (i := 2) rfl rfl rfl rfl rfl rfl rfl rfl (by decide) (by decide) (by repeat (first | exact trivial | refine ⟨⟨rfl, rfl⟩, ?_⟩ | refine ⟨trivial, ?_⟩)) ?_ | refine reS (id := 6) (i := 4) rfl rfl rfl rfl (⟨by simp, one6, by show (0 + ((b :: q).map encBd).length) * 80 ≤ 140737488355328; omega, by show 0 + ((b :: q).map encBd).length ≤ 9223372036854775807; omega⟩) (by repeat (first | exact trivial | refine ⟨⟨rfl, rfl⟩, ?_⟩ | refine ⟨trivial, ?_⟩)) ?_ | refine reSD (id := 6) (i := 6) rfl rfl rfl rfl (⟨by simp, one6, by show (((b :: q).map encBd).length + ((b :: q).map encBd).length) * 80 ≤ 140737488355328; omega, by show ((b :: q).map encBd).length + ((b :: q).map encBd).length ≤ 9223372036854775807; omega⟩) rfl rfl rfl rfl (by simp) (by repeat (first | exact trivial | refine ⟨rfl, ?_⟩)) (by repeat (first | exact trivial | refine ⟨⟨rfl, rfl⟩, ?_⟩ | refine ⟨trivial, ?_⟩)) ?_ | refine zT rfl ?_ | refine zU rfl ?_ | refine qL rfl rfl ?_ | refine qM rfl rfl rfl ?_ | refine qO rfl rfl rfl ?_ | refine zX rfl rfl rfl rfl ?_ | refine zW rfl rfl rfl rfl ?_ | (refine qY rfl rfl rfl rfl ?_ ?_ <;> intro _) | exact zD | exact zL)
    case false =>
      have n1' : (!(x.name.toList == (⟨#[]⟩ : ByteArray).toList)) = true := by show (!(eqS x.name ⟨#[]⟩)) = true; rw [n1]; rfl
      cases n2 : usesF x.name e with
      | true =>
        rw [n2] at u1
        cases env with
        | nil =>
          refine enter5 Tryz.func7 Tryz.ntmps7 rfl rfl fun w0 F0 O => ?_
          repeat' (first | refine zS rfl ?_ | refine qA ?_ | refine qB rfl ?_ | refine qC (by kernel_rfl) ?_ | refine qD ?_ | refine qE ?_ | refine qF ?_ | refine qG ?_ | refine qH rfl ?_ | refine qP (d := 15) rfl rfl rfl rfl rfl rfl b9 (h1) ?_ | refine qP (d := 21) rfl rfl rfl rfl rfl rfl b9 (h2) ?_ | refine qP rfl rfl rfl rfl rfl rfl b10 (alive_ev) ?_ | refine qP (d := 28) rfl rfl rfl rfl rfl rfl b11 (v0) ?_ | refine go_append0 rfl rfl rfl rfl rfl rfl rfl rfl ?_ | refine qP (d := 58) rfl rfl rfl rfl rfl rfl b11 (v2) ?_ | refine qP rfl rfl rfl rfl rfl rfl b13 (vo) ?_ | refine qP (d := 63) rfl rfl rfl rfl rfl rfl b22 (u2) ?_ | refine qP (d := 68) rfl rfl rfl rfl rfl rfl b11 (v3) ?_ | refine qP (d := 36) rfl rfl rfl rfl rfl rfl b22 (u1) ?_ | refine zT rfl ?_ | refine zU rfl ?_ | refine qL rfl rfl ?_ | refine qM rfl rfl rfl ?_ | refine qO rfl rfl rfl ?_ | refine zX rfl rfl rfl rfl ?_ | refine zW rfl rfl rfl rfl ?_ | (refine qY rfl rfl rfl rfl ?_ ?_ <;> intro _) | exact zD | exact zL)
        | cons b q =>
          refine enter5 Tryz.func7 Tryz.ntmps7 rfl rfl fun w0 F0 O => ?_
          repeat' (first | refine qErT (id := 6) [2,4,6] [] (by kernel_rfl) (by kernel_rfl) (by repeat (first | exact trivial | refine ⟨⟨rfl, rfl⟩, ?_⟩ | refine ⟨trivial, ?_⟩)) ?_ | (refine reV (id := 6) (i := 0) rfl rfl rfl rfl rfl rfl ?_ ?_; (first | exact True.intro | rfl | assumption | omega | (simp only [inR]; omega) | ((show _ ≤ (9223372036854775807 : Nat)); (try simp only [ByteArray.size_append]); omega) | exact tmod_ok (by omega) (by omega) | exact tdiv_ok (by omega) (by omega) | exact ⟨rfl, by decide, by decide⟩)) | (refine reV (id := 6) (i := 1) rfl rfl rfl rfl rfl rfl ?_ ?_; (first | exact True.intro | rfl | assumption | omega | (simp only [inR]; omega) | ((show _ ≤ (9223372036854775807 : Nat)); (try simp only [ByteArray.size_append]); omega) | exact tmod_ok (by omega) (by omega) | exact tdiv_ok (by omega) (by omega) | exact ⟨rfl, by decide, by decide⟩)) | (refine reV (id := 6) (i := 3) rfl rfl rfl rfl rfl rfl ?_ ?_; (first | exact True.intro | rfl | assumption | omega | (simp only [inR]; omega) | ((show _ ≤ (9223372036854775807 : Nat)); (try simp only [ByteArray.size_append]); omega) | exact tmod_ok (by omega) (by omega) | exact tdiv_ok (by omega) (by omega) | exact ⟨rfl, by decide, by decide⟩)) | (refine reV (id := 6) (i := 5) rfl rfl rfl rfl rfl rfl ?_ ?_; (first | exact True.intro | rfl | assumption | omega | (simp only [inR]; omega) | ((show _ ≤ (9223372036854775807 : Nat)); (try simp only [ByteArray.size_append]); omega) | exact tmod_ok (by omega) (by omega) | exact tdiv_ok (by omega) (by omega) | exact ⟨rfl, by decide, by decide⟩)) | refine reF (id := 6) (i := 7) 1 (by kernel_rfl) rfl ?_ | (refine reV (id := 6) (i := 8) rfl rfl rfl rfl rfl rfl ?_ ?_; (first | exact True.intro | rfl | assumption | omega | (simp only [inR]; omega) | ((show _ ≤ (9223372036854775807 : Nat)); (try simp only [ByteArray.size_append]); omega) | exact tmod_ok (by omega) (by omega) | exact tdiv_ok (by omega) (by omega) | exact ⟨rfl, by decide, by decide⟩)) | refine reF (id := 6) (i := 9) 2 (by kernel_rfl) rfl ?_ | refine reN ?_ | refine zS rfl ?_ | refine qA ?_ | refine qB rfl ?_ | refine qC (by kernel_rfl) ?_ | refine qD ?_ | refine qE ?_ | refine qF ?_ | refine qG ?_ | refine qH rfl ?_ | refine qP (d := 15) rfl rfl rfl rfl rfl rfl b9 (h1) ?_ | refine qP (d := 21) rfl rfl rfl rfl rfl rfl b9 (h2) ?_ | refine qP rfl rfl rfl rfl rfl rfl b10 (alive_ev) ?_ | refine qP (d := 28) rfl rfl rfl rfl rfl rfl b11 (v0) ?_ | refine go_append0 rfl rfl rfl rfl rfl rfl rfl rfl ?_ | refine qP (d := 58) rfl rfl rfl rfl rfl rfl b11 (v2) ?_ | refine qP rfl rfl rfl rfl rfl rfl b13 (vo) ?_ | refine qP (d := 63) rfl rfl rfl rfl rfl rfl b22 (u2) ?_ | refine qP (d := 68) rfl rfl rfl rfl rfl rfl b11 (v3) ?_ | refine qP (d := 36) rfl rfl rfl rfl rfl rfl b22 (u1) ?_ | refine reOwn (id := 6) (i := 2) rfl rfl rfl rfl rfl rfl rfl rfl (by decide) (by decide) (by repeat (first | exact trivial | refine ⟨⟨rfl, rfl⟩, ?_⟩ | refine ⟨trivial, ?_⟩)) ?_ | refine reS (id := 6) (i := 4) rfl rfl rfl rfl (⟨by simp, one6, by show (0 + ((b :: q).map encBd).length) * 80 ≤ 140737488355328; omega, by show 0 + ((b :: q).map encBd).length ≤ 9223372036854775807; omega⟩) (by repeat (first | exact trivial | refine ⟨⟨rfl, rfl⟩, ?_⟩ | refine ⟨trivial, ?_⟩)) ?_ | refine reSD (id := 6) (i := 6) rfl rfl rfl rfl (⟨by simp, one6, by show (((b :: q).map encBd).length + ((b :: q).map encBd).length) * 80 ≤ 140737488355328; omega, by show ((b :: q).map encBd).length + ((b :: q).map encBd).length ≤ 9223372036854775807; omega⟩) rfl rfl rfl rfl (by simp) (by repeat (first | exact trivial | refine ⟨rfl, ?_⟩)) (by repeat (first | exact trivial | refine ⟨⟨rfl, rfl⟩, ?_⟩ | refine ⟨trivial, ?_⟩)) ?_ | refine zT rfl ?_ | refine zU rfl ?_ | refine qL rfl rfl ?_ | refine qM rfl rfl rfl ?_ | refine qO rfl rfl rfl ?_ | refine zX rfl rfl rfl rfl ?_ | refine zW rfl rfl rfl rfl ?_ | (refine qY rfl rfl rfl rfl ?_ ?_ <;> intro _) | exact zD | exact zL)
      | false =>
        rw [n2] at u1
        rw [ub n1 n2] at v1
        cases env with
        | nil =>
          refine enter5 Tryz.func7 Tryz.ntmps7 rfl rfl fun w0 F0 O => ?_
          repeat' (first | refine zS rfl ?_ | refine qA ?_ | refine qB rfl ?_ | refine qC (by kernel_rfl) ?_ | refine qD ?_ | refine qE ?_ | refine qF ?_ | refine qG ?_ | refine qH rfl ?_ | refine qP (d := 15) rfl rfl rfl rfl rfl rfl b9 (h1) ?_ | refine qP (d := 21) rfl rfl rfl rfl rfl rfl b9 (h2) ?_ | refine qP rfl rfl rfl rfl rfl rfl b10 (alive_ev) ?_ | refine qP (d := 28) rfl rfl rfl rfl rfl rfl b11 (v0) ?_ | refine go_append0 rfl rfl rfl rfl rfl rfl rfl rfl ?_ | refine qP (d := 58) rfl rfl rfl rfl rfl rfl b11 (v2) ?_ | refine qP rfl rfl rfl rfl rfl rfl b13 (vo) ?_ | refine qP (d := 63) rfl rfl rfl rfl rfl rfl b22 (u2) ?_ | refine qP (d := 68) rfl rfl rfl rfl rfl rfl b11 (v3) ?_ | refine qP (d := 36) rfl rfl rfl rfl rfl rfl b22 (u1) ?_ | refine qP (d := 46) rfl rfl rfl rfl rfl rfl b11 (v1) ?_ | refine zT rfl ?_ | refine zU rfl ?_ | refine qL rfl rfl ?_ | refine qM rfl rfl rfl ?_ | refine qO rfl rfl rfl ?_ | refine zX rfl rfl rfl rfl ?_ | refine zW rfl rfl rfl rfl ?_ | (refine qY rfl rfl rfl rfl ?_ ?_ <;> intro _) | exact zD | exact zL)
        | cons b q =>
          refine enter5 Tryz.func7 Tryz.ntmps7 rfl rfl fun w0 F0 O => ?_
          repeat' (first | refine go_cutR 4 (fun b' => ⟨[(50, .d (.bool b')), (4, .d (.sl ((b :: q).map encBd))), (5, .ptr 0 0), (6, .ptr 1 0), (7, .ptr 2 0), (8, .ptr 3 0), (10, .d (.bool false)), (11, .ptr 4 0)], [.var 25 (.w (.d (encGr g))), .var 25 (.w (.d (encGr h))), .var 31 (.w (.d (encE e))), .var 47 (.w (.d (encBd x))), .var 28 (.w (.d (enc val)))]⟩) (false) ?_ ?_ | refine qErT (id := 4) [14,16] [] (by kernel_rfl) (by kernel_rfl) (by repeat (first | exact trivial | refine ⟨⟨rfl, rfl⟩, ?_⟩ | refine ⟨trivial, ?_⟩)) ?_ | refine reF (id := 4) (i := 0) 11 (by kernel_rfl) rfl ?_ | (refine reV (id := 4) (i := 11) rfl rfl rfl rfl rfl rfl ?_ ?_; (first | exact True.intro | rfl | assumption | omega | (simp only [inR]; omega) | ((show _ ≤ (9223372036854775807 : Nat)); (try simp only [ByteArray.size_append]); omega) | exact tmod_ok (by omega) (by omega) | exact tdiv_ok (by omega) (by omega) | exact ⟨rfl, by decide, by decide⟩)) | (refine reV (id := 4) (i := 12) rfl rfl rfl rfl rfl rfl ?_ ?_; (first | exact True.intro | rfl | assumption | omega | (simp only [inR]; omega) | ((show _ ≤ (9223372036854775807 : Nat)); (try simp only [ByteArray.size_append]); omega) | exact tmod_ok (by omega) (by omega) | exact tdiv_ok (by omega) (by omega) | exact ⟨rfl, by decide, by decide⟩)) | refine reF (id := 4) (i := 13) 1 (by kernel_rfl) rfl ?_ | (refine reV (id := 4) (i := 15) rfl rfl rfl rfl rfl rfl ?_ ?_; (first | exact True.intro | rfl | assumption | omega | (simp only [inR]; omega) | ((show _ ≤ (9223372036854775807 : Nat)); (try simp only [ByteArray.size_append]); omega) | exact tmod_ok (by omega) (by omega) | exact tdiv_ok (by omega) (by omega) | exact ⟨rfl, by decide, by decide⟩)) | refine reF (id := 4) (i := 17) 1 (by kernel_rfl) rfl ?_ | (refine reV (id := 4) (i := 18) rfl rfl rfl rfl rfl rfl ?_ ?_; (first | exact True.intro | rfl | assumption | omega | (simp only [inR]; omega) | ((show _ ≤ (9223372036854775807 : Nat)); (try simp only [ByteArray.size_append]); omega) | exact tmod_ok (by omega) (by omega) | exact tdiv_ok (by omega) (by omega) | exact ⟨rfl, by decide, by decide⟩)) | refine reF (id := 4) (i := 19) 3 (by kernel_rfl) rfl ?_ | refine reN ?_ | refine qErT (id := 6) [2,4,6] [] (by kernel_rfl) (by kernel_rfl) (by repeat (first | exact trivial | refine ⟨⟨rfl, rfl⟩, ?_⟩ | refine ⟨trivial, ?_⟩)) ?_ | (refine reV (id := 6) (i := 0) rfl rfl rfl rfl rfl rfl ?_ ?_; (first | exact True.intro | rfl | assumption | omega | (simp only [inR]; omega) | ((show _ ≤ (9223372036854775807 : Nat)); (try simp only [ByteArray.size_append]); omega) | exact tmod_ok (by omega) (by omega) | exact tdiv_ok (by omega) (by omega) | exact ⟨rfl, by decide, by decide⟩)) | (refine reV (id := 6) (i := 1) rfl rfl rfl rfl rfl rfl ?_ ?_; (first | exact True.intro | rfl | assumption | omega | (simp only [inR]; omega) | ((show _ ≤ (9223372036854775807 : Nat)); (try simp only [ByteArray.size_append]); omega) | exact tmod_ok (by omega) (by omega) | exact tdiv_ok (by omega) (by omega) | exact ⟨rfl, by decide, by decide⟩)) | (refine reV (id := 6) (i := 3) rfl rfl rfl rfl rfl rfl ?_ ?_; (first | exact True.intro | rfl | assumption | omega | (simp only [inR]; omega) | ((show _ ≤ (9223372036854775807 : Nat)); (try simp only [ByteArray.size_append]); omega) | exact tmod_ok (by omega) (by omega) | exact tdiv_ok (by omega) (by omega) | exact ⟨rfl, by decide, by decide⟩)) | (refine reV (id := 6) (i := 5) rfl rfl rfl rfl rfl rfl ?_ ?_; (first | exact True.intro | rfl | assumption | omega | (simp only [inR]; omega) | ((show _ ≤ (9223372036854775807 : Nat)); (try simp only [ByteArray.size_append]); omega) | exact tmod_ok (by omega) (by omega) | exact tdiv_ok (by omega) (by omega) | exact ⟨rfl, by decide, by decide⟩)) | refine reF (id := 6) (i := 7) 1 (by kernel_rfl) rfl ?_ | (refine reV (id := 6) (i := 8) rfl rfl rfl rfl rfl rfl ?_ ?_; (first | exact True.intro | rfl | assumption | omega | (simp only [inR]; omega) | ((show _ ≤ (9223372036854775807 : Nat)); (try simp only [ByteArray.size_append]); omega) | exact tmod_ok (by omega) (by omega) | exact tdiv_ok (by omega) (by omega) | exact ⟨rfl, by decide, by decide⟩)) | refine reF (id := 6) (i := 9) 2 (by kernel_rfl) rfl ?_ | refine reN ?_ | refine zS rfl ?_ | refine qA ?_ | refine qB rfl ?_ | refine qC (by kernel_rfl) ?_ | refine qD ?_ | refine qE ?_ | refine qF ?_ | refine qG ?_ | refine qH rfl ?_ | refine qP (d := 15) rfl rfl rfl rfl rfl rfl b9 (h1) ?_ | refine qP (d := 21) rfl rfl rfl rfl rfl rfl b9 (h2) ?_ | refine qP rfl rfl rfl rfl rfl rfl b10 (alive_ev) ?_ | refine qP (d := 28) rfl rfl rfl rfl rfl rfl b11 (v0) ?_ | refine go_append0 rfl rfl rfl rfl rfl rfl rfl rfl ?_ | refine qP (d := 58) rfl rfl rfl rfl rfl rfl b11 (v2) ?_ | refine qP rfl rfl rfl rfl rfl rfl b13 (vo) ?_ | refine qP (d := 63) rfl rfl rfl rfl rfl rfl b22 (u2) ?_ | refine qP (d := 68) rfl rfl rfl rfl rfl rfl b11 (v3) ?_ | refine qP (d := 36) rfl rfl rfl rfl rfl rfl b22 (u1) ?_ | refine qP (d := 46) rfl rfl rfl rfl rfl rfl b11 (v1) ?_ | refine reOwn (id := 6) (i := 2) rfl rfl rfl rfl rfl rfl rfl rfl (by decide) (by decide) (by repeat (first | exact trivial | refine ⟨⟨rfl, rfl⟩, ?_⟩ | refine ⟨trivial, ?_⟩)) ?_ | refine reS (id := 6) (i := 4) rfl rfl rfl rfl (⟨by simp, one6, by show (0 + ((b :: q).map encBd).length) * 80 ≤ 140737488355328; omega, by show 0 + ((b :: q).map encBd).length ≤ 9223372036854775807; omega⟩) (by repeat (first | exact trivial | refine ⟨⟨rfl, rfl⟩, ?_⟩ | refine ⟨trivial, ?_⟩)) ?_ | refine reSD (id := 6) (i := 6) rfl rfl rfl rfl (⟨by simp, one6, by show (((b :: q).map encBd).length + ((b :: q).map encBd).length) * 80 ≤ 140737488355328; omega, by show ((b :: q).map encBd).length + ((b :: q).map encBd).length ≤ 9223372036854775807; omega⟩) rfl rfl rfl rfl (by simp) (by repeat (first | exact trivial | refine ⟨rfl, ?_⟩)) (by repeat (first | exact trivial | refine ⟨⟨rfl, rfl⟩, ?_⟩ | refine ⟨trivial, ?_⟩)) ?_ | (refine go_stop ⟨_, ?_, (zle 5)⟩) | (exact (rfl : (_ : Bool) = _)) | refine reOwn (id := 4) (i := 14) rfl rfl rfl rfl rfl rfl rfl rfl (by decide) (by decide) (by repeat (first | exact trivial | refine ⟨⟨rfl, rfl⟩, ?_⟩ | refine ⟨trivial, ?_⟩)) ?_ | refine reSD (id := 4) (i := 16) rfl rfl rfl rfl (⟨by simp, one6, by show (1 + ((b :: q).map encBd).length) * 80 ≤ 140737488355328; omega, by show 1 + ((b :: q).map encBd).length ≤ 9223372036854775807; omega⟩) rfl rfl rfl rfl (by simp) (by repeat (first | exact trivial | refine ⟨rfl, ?_⟩)) (by repeat (first | exact trivial | refine ⟨⟨rfl, rfl⟩, ?_⟩ | refine ⟨trivial, ?_⟩)) ?_ | refine zT rfl ?_ | refine zU rfl ?_ | refine qL rfl rfl ?_ | refine qM rfl rfl rfl ?_ | refine qO rfl rfl rfl ?_ | refine zX rfl rfl rfl rfl ?_ | refine zW rfl rfl rfl rfl ?_ | (refine qY rfl rfl rfl rfl ?_ ?_ <;> intro _) | exact zD | exact zL)
set_option maxRecDepth 100000 in
theorem local_lifted (os : Os) (started : os.Started) (H : Type) (enc : TypeId × Value → H) (F : Stop.Interp) :
    ReturnsInHanded {} Tryz.checked os 7 .any ((Rows.OpenSpec.upto Rows.evalLocalSpec).preRow enc Tryz.prog Tryz.f7 [] false seatLaid)
      (((Rows.OpenSpec.upto Rows.evalLocalSpec).at F).post enc Tryz.prog Tryz.f7 false true false false) := by
  refine lift_cond (C := Tryz.checked) (s0 := Rows.evalLocalSpec) (kf := Rows.uptoSmall) (laid := seatLaid) (tb := 4) F tys2 rfl rfl rfl seat_own started (by kernel_rfl) Tryz.func7
    (witness_cond (kf := Rows.uptoSmall) rfl (wit os) #[.agg #[.slice none 0 0, .slice none 0 0, .int .i64 0, .int .i64 0], .agg #[.slice none 0 0, .slice none 0 0, .int .i64 0, .int .i64 0], .agg #[.int .i64 0, .int .i64 0, .int .i64 0, .int .i64 0, .string ⟨#[]⟩, .slice none 0 0, .string ⟨#[]⟩, .bool false, .slice none 0 0], .agg #[.string ⟨#[]⟩, .int .i64 0, .int .i64 0, .int .i64 0, .string ⟨#[]⟩, .slice none 0 0], .slice none 0 0] 8 rfl (wit_shaped os _) (by kernel_rfl) (by kernel_rfl) (by kernel_rfl) (wit_met os _))
    rfl rfl Tryz.underlying4 (fun ds hl => ?_) seat_out (by kernel_rfl) tys2_ok (by kernel_rfl) (fun W args xs ds hL hS hx hsz hr hty hdl hk => ?_)
  · match ds, hl with
    | [_, _, _, _, _], _ => rfl
  · have hsz' : args.size = 5 := hsz
    have hbk := says_all ds xs (by rw [hdl, hx, hsz]) fun i d x hd hxi => (hty i _ x (by
      rw [Array.getElem?_toList]
      exact Array.getElem?_eq_getElem (by rw [← hsz, ← hx]; exact (List.getElem?_eq_some_iff.1 hxi).1)) hxi).2 d hd
    have hsm : Rows.uptoBulkAll ds ≤ 1048576 := of_decide_eq_true hk
    rw [hsz'] at hx
    match xs, hx with
    | [x0, x1, x2, x3, x4], _ =>
      obtain ⟨a0, rfl⟩ := ty_graph (hty 0 _ x0 rfl rfl).1
      obtain ⟨a1, rfl⟩ := ty_graph (hty 1 _ x1 rfl rfl).1
      obtain ⟨a2, rfl⟩ := ty_expr (hty 2 _ x2 rfl rfl).1
      obtain ⟨a3, rfl⟩ := ty_bind (hty 3 _ x3 rfl rfl).1
      obtain ⟨a4, rfl⟩ := ty_env (hty 4 _ x4 rfl rfl).1
      exact calls_of_ev (gi_of hL hS) (law_local a0 a1 a2 a3 a4 (Nat.le_trans hbk hsm)) (by simp [hsz']) hr
theorem local_holds : Rows.EvalLocalUptoSaid :=
  OpenClaim.holds_of_cond 7 Tryz.f7 rfl rfl rfl rfl rfl rfl rfl ⟨rfl, rfl, rfl, rfl, rfl⟩ rfl rfl rfl rfl rfl (by kernel_rfl) Tryz.func7 (by kernel_rfl)
    (of_decide_eq_true (by kernel_rfl)) (by unfold Func.isWrapper; first | (rw [if_pos (by decide +kernel)]; kernel_rfl) | (rw [if_neg (by decide +kernel)]; exact ⟨rfl, rfl⟩))
    (fun os started H enc _ F => by rw [OpenClaim.pre_eq_preRow]; exact local_lifted os started H enc F)
theorem local_card : Rows.EvalLocalUptoCardSaid := by
  unfold Rows.EvalLocalUptoCardSaid Rows.evalLocalUptoCard
  exact Claim7.holds_tied_plain_at .later [] _ true _ false
    local_holds (fun _ h => by cases h) (by kernel_rfl) (fun _ h => by cases h) evalLocalUpto_row_tie rfl ⟨rfl, rfl⟩ (by kernel_rfl) rfl
    (fun f fn hf hfn => by
      obtain rfl : f = 7 := Option.some.inj ((show Tryz.prog.funcNamed Rows.evalLocalUptoRow.func = some 7 by kernel_rfl).symm.trans hf) |>.symm
      obtain rfl : fn = Tryz.f7 := (Option.some.inj (Tryz.func7.symm.trans hfn)).symm
      exact ⟨by kernel_rfl, fun j t ht => by
        have hall : (Tryz.f7.params.toList.all fun u => !Tryz.prog.wantsStandIn u) = true := by kernel_rfl
        exact (show Tryz.prog.wantsStandIn t = false by simpa using List.all_eq_true.1 hall t (by simpa using Array.mem_of_getElem? ht))⟩)
    (by kernel_rfl)
#print axioms local_card
end Go.Proofs.YthieohigmpfknaaGreatDoor
