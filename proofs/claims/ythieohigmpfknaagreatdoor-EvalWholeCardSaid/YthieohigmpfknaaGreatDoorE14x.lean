/- Changing the environment or the graph: a variable replaced by a constant, other bindings, graphs that are not read. Conditions: none. -/
import Derived.Test.YthieohigmpfknaaGreatDoorGC
import Derived.Test.YthieohigmpfknaaGreatDoorEY
import Derived.Test.YthieohigmpfknaaGreatDoorEC
set_option linter.unusedVariables false
set_option linter.unusedSimpArgs false
namespace Go.Proofs.YthieohigmpfknaaGreatDoor
open Go Go.Abs Go.Val Go.RowKit Go.ChangeShapes Go.WideShapes
attribute [local irreducible] go SGo HasBody Ev ExtEv EvO EvS

theorem truth_rng (v : V) : truthF v = 0 ∨ truthF v = 1 ∨ truthF v = 2 := by
  unfold truthF tt
  cases v.k == 1 && Val.okV v with
  | false => exact .inr (.inl rfl)
  | true => cases v.n == 1 <;> simp
theorem kn_0 {t : Int} (h : kn t = 0) : t = 0 := by
  unfold kn at h
  by_cases h0 : t = 0
  · exact h0
  · by_cases h2 : t = 2
    · subst h2; revert h; decide
    · rw [beq_eq_false_iff_ne.2 h0, beq_eq_false_iff_ne.2 h2] at h; simp at h
theorem kn_2 {t : Int} (h : kn t = 2) : t = 2 := by
  unfold kn at h
  by_cases h2 : t = 2
  · exact h2
  · by_cases h0 : t = 0
    · subst h0; revert h; decide
    · rw [beq_eq_false_iff_ne.2 h0, beq_eq_false_iff_ne.2 h2] at h; simp at h
theorem truth_vT (t : Int) : truthF (giv (vTruth t)) = kn t := by
  rcases kn_cases t with h | h | h
  · obtain rfl := kn_0 h
    decide +kernel
  · have e : vTruth t = vNull := by unfold vTruth; rw [h]; rfl
    rw [e, h]; decide +kernel
  · obtain rfl := kn_2 h
    decide +kernel
theorem kn_rng {t : Int} (h : t = 0 ∨ t = 1 ∨ t = 2) : kn t = t := by rcases h with rfl | rfl | rfl <;> rfl
theorem val_ev {g : Gr} {env : List Bd} {e : Ex} (h : chkF e = 0) : valF g env e = evF g env e := by unfold valF; rw [h]; rfl
mutual
/-- A constant put in the place of a variable. -/
def repE (nm : ByteArray) (v : V) : Ex → Ex
  | .mk op w s ds ks => bif op == 2 && eqS s nm then .mk 1 v ⟨#[]⟩ false [] else .mk op w s ds (repL nm v ks)
def repL (nm : ByteArray) (v : V) : List Ex → List Ex
  | [] => []
  | x :: r => repE nm v x :: repL nm v r
end
theorem eqS_comm (s t : ByteArray) : eqS s t = eqS t s := by unfold eqS; rw [Bool.eq_iff_iff]; simp only [beq_iff_eq]; exact ⟨Eq.symm, Eq.symm⟩
theorem varF_cons (env : List Bd) (nm s : ByteArray) (v : V) : varF (⟨nm, v⟩ :: env) s = bif eqS nm s then v else varF env s := by
  unfold varF
  rw [List.find?_cons]
  show (match (match eqS nm s with | true => some (⟨nm, v⟩ : Bd) | false => env.find? fun b => b.name.toList == s.toList) with | some b => b.v | none => vNull) = _
  cases eqS nm s <;> rfl
theorem apF_env (g : Gr) {env env' : List Bd} (op : Int) (v : V) (nm : ByteArray) (l : List V) (h : op = 2 → varF env nm = varF env' nm) : apF g env op v nm l = apF g env' op v nm l := by
  unfold apF
  cases h2 : op == 2 with
  | true => rw [h (by simpa using h2)]
  | false => rfl
theorem rep_ev (g : Gr) (env : List Bd) (nm : ByteArray) (v : V) (e : Ex) : evF g (⟨nm, v⟩ :: env) e = evF g env (repE nm v e) := by
  refine xind (P := fun e => evF g (⟨nm, v⟩ :: env) e = evF g env (repE nm v e)) (fun op w s ds ks ih => ?_) e
  have key : ∀ l : List Ex, (∀ x ∈ l, evF g (⟨nm, v⟩ :: env) x = evF g env (repE nm v x)) → evL g (⟨nm, v⟩ :: env) l = evL g env (repL nm v l) := by
    intro l
    induction l with
    | nil => intro _; simp only [evL, repL]
    | cons a r ihr => intro h; simp only [evL, repL]; rw [h a (by simp), ihr fun x hx => h x (by simp [hx])]
  rw [repE]
  cases hc : op == 2 && eqS s nm with
  | true =>
    rw [cond_true]
    rw [Bool.and_eq_true] at hc
    obtain ⟨h1, h2⟩ := hc
    obtain rfl : op = 2 := by simpa using h1
    simp only [evF]
    refine congrArg giv ?_
    show varF (⟨nm, v⟩ :: env) s = v
    rw [varF_cons, eqS_comm, h2]
    rfl
  | false =>
    rw [cond_false]
    simp only [evF]
    rw [key ks ih, apF_env g (env' := env)]
    intro h
    subst h
    rw [varF_cons, eqS_comm, show eqS s nm = false by simpa using hc]
    rfl
theorem nd_rep (nm : ByteArray) (v : V) (e : Ex) : nd (repE nm v e) ≤ nd e ∧ dp (repE nm v e) ≤ dp e := by
  refine xind (P := fun e => nd (repE nm v e) ≤ nd e ∧ dp (repE nm v e) ≤ dp e) (fun op w s ds ks ih => ?_) e
  have key : ∀ l : List Ex, (∀ x ∈ l, nd (repE nm v x) ≤ nd x ∧ dp (repE nm v x) ≤ dp x) → ndL (repL nm v l) ≤ ndL l ∧ dpL (repL nm v l) ≤ dpL l := by
    intro l
    induction l with
    | nil => intro _; simp only [repL]; exact ⟨Nat.le_refl _, Nat.le_refl _⟩
    | cons a r ihr =>
      intro h
      have h1 := h a (by simp)
      have h2 := ihr fun x hx => h x (by simp [hx])
      simp only [repL, ndL, dpL]
      omega
  rw [repE, nd_eq (.mk op w s ds ks), dp_eq (.mk op w s ds ks)]
  show _ ≤ ndL ks + 1 ∧ _ ≤ dpL ks + 1
  cases op == 2 && eqS s nm with
  | true => rw [cond_true, nd_eq, dp_eq]; show ndL [] + 1 ≤ _ ∧ dpL [] + 1 ≤ _; simp only [ndL, dpL]; omega
  | false => rw [cond_false, nd_eq, dp_eq]; have := key ks ih; show ndL (repL nm v ks) + 1 ≤ _ ∧ dpL (repL nm v ks) + 1 ≤ _; omega
theorem cE_rep {C : Nat} (nm : ByteArray) (v : V) (hv : cost v ≤ C) (e : Ex) : cE C e → cE C (repE nm v e) := by
  refine xind (P := fun e => cE C e → cE C (repE nm v e)) (fun op w s ds ks ih => ?_) e
  have key : ∀ l : List Ex, (∀ x ∈ l, cE C x → cE C (repE nm v x)) → cEL C l → cEL C (repL nm v l) := by
    intro l
    induction l with
    | nil => intro _ _; simp only [repL, cEL]
    | cons a r ihr => intro h hc; simp only [repL, cEL] at hc ⊢; exact ⟨h a (by simp) hc.1, ihr (fun x hx => h x (by simp [hx])) hc.2⟩
  intro hc
  simp only [cE] at hc
  rw [repE]
  cases op == 2 && eqS s nm with
  | true => rw [cond_true]; simp only [cE, cEL]; exact ⟨hv, trivial⟩
  | false => rw [cond_false]; simp only [cE]; exact ⟨hc.1, key ks ih hc.2⟩
/-! ## Other bindings and other graphs -/
def readsF (s : ByteArray) : Bool := eqS s nmType || (eqS s nmLabels || (eqS s nmStart || eqS s nmEnd))
def usF (nm : ByteArray) (op : Int) (s : ByteArray) : Bool :=
  !(eqS nm ⟨#[]⟩) && (op == 2 && eqS s nm) || eqS nm ⟨#[]⟩ && (op == 3 || (op == 4 || (op == 23 && readsF s)))
mutual
def usesF (nm : ByteArray) : Ex → Bool
  | .mk op _ s _ ks => usF nm op s || usesL nm ks
def usesL (nm : ByteArray) : List Ex → Bool
  | [] => false
  | x :: r => usesF nm x || usesL nm r
end
theorem evL_cong {g h : Gr} {env env' : List Bd} : ∀ l : List Ex, (∀ x ∈ l, evF g env x = evF h env' x) → evL g env l = evL h env' l
  | [], _ => by simp only [evL]
  | a :: r, hx => by simp only [evL]; rw [hx a (by simp), evL_cong r fun x h => hx x (by simp [h])]
theorem usesL_mem {nm : ByteArray} : ∀ {l : List Ex}, usesL nm l = false → ∀ x ∈ l, usesF nm x = false
  | a :: r, h, x, hx => by
    rw [usesL, Bool.or_eq_false_iff] at h
    rcases List.mem_cons.1 hx with rfl | hx
    · exact h.1
    · exact usesL_mem h.2 x hx
theorem uses_bind (g : Gr) (env : List Bd) {nm : ByteArray} (v : V) (hn : eqS nm ⟨#[]⟩ = false) (e : Ex) : usesF nm e = false → evF g (⟨nm, v⟩ :: env) e = evF g env e := by
  refine xind (P := fun e => usesF nm e = false → evF g (⟨nm, v⟩ :: env) e = evF g env e) (fun op w s ds ks ih hu => ?_) e
  rw [usesF, Bool.or_eq_false_iff] at hu
  have hl := evL_cong (g := g) (h := g) (env := ⟨nm, v⟩ :: env) (env' := env) ks fun x hx => ih x hx (usesL_mem hu.2 x hx)
  simp only [evF]
  rw [hl, apF_env g (env' := env)]
  intro h
  subst h
  have : eqS s nm = false := by
    have := hu.1
    unfold usF at this
    rw [hn] at this
    simpa using this
  rw [varF_cons, eqS_comm, this]
  rfl
theorem twice_env (g : Gr) (env : List Bd) (e : Ex) : evF g (env ++ env) e = evF g env e := by
  refine xind (P := fun e => evF g (env ++ env) e = evF g env e) (fun op w s ds ks ih => ?_) e
  have hl := evL_cong (g := g) (h := g) (env := env ++ env) (env' := env) ks ih
  simp only [evF]
  rw [hl, apF_env g (env' := env)]
  intro _
  unfold varF
  rw [List.find?_append]
  cases env.find? fun b => b.name.toList == s.toList <;> rfl
theorem fn_graph (g h : Gr) (nm : ByteArray) (l : List V) (hr : readsF nm = false) : fnF g nm l = fnF h nm l := by
  unfold readsF at hr
  simp only [Bool.or_eq_false_iff] at hr
  unfold fnF
  rw [hr.1, hr.2.1, hr.2.2.1, hr.2.2.2]
  rfl
theorem uses_graph (g h : Gr) (env : List Bd) (e : Ex) : usesF ⟨#[]⟩ e = false → evF g env e = evF h env e := by
  refine xind (P := fun e => usesF ⟨#[]⟩ e = false → evF g env e = evF h env e) (fun op w s ds ks ih hu => ?_) e
  rw [usesF, Bool.or_eq_false_iff] at hu
  have hl := evL_cong (g := g) (h := h) (env := env) (env' := env) ks fun x hx => ih x hx (usesL_mem hu.2 x hx)
  simp only [evF]
  rw [hl]
  refine congrArg giv ?_
  have h0 : eqS ⟨#[]⟩ ⟨#[]⟩ = true := by unfold eqS; exact beq_self_eq_true _
  have hu1 := hu.1
  unfold usF at hu1
  rw [h0] at hu1
  simp only [Bool.not_true, Bool.false_and, Bool.false_or, Bool.true_and, Bool.or_eq_false_iff] at hu1
  obtain ⟨h3, h4, h23⟩ := hu1
  unfold apF
  rw [h3, h4]
  cases h9 : op == 23 with
  | true =>
    rw [h9, Bool.true_and] at h23
    rw [fn_graph g h s _ h23]
    rfl
  | false => rfl
end Go.Proofs.YthieohigmpfknaaGreatDoor
