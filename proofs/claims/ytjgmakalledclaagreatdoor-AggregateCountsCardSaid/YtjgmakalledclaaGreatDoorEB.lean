/- The reference's evaluation of expressions; The reference's functions and its evaluation; Eval and Test of both texts; The reference's functions; The reference's evaluation; Eval and Test of both texts; How large the values of expressions can get; what the bound on the reading gives; The law's own small functions: Size, few, op, number; and when an evaluation is within bounds; From rows' readings to graphs, expressions and bindings. Conditions: each part's own, as it says. -/
import Derived.Test.YtjgmakalledclaaGreatDoorEA
import Derived.Test.YtjgmakalledclaaGreatDoorMC
import Derived.Test.YtjgmakalledclaaGreatDoorND
import Derived.Test.YtjgmakalledclaaGreatDoorGC
import Derived.Test.YtjgmakalledclaaGreatDoorRows
set_option linter.unusedVariables false
set_option linter.unusedSimpArgs false
namespace Go.Proofs.YtjgmakalledclaaGreatDoor
set_option maxRecDepth 4000
open Go Go.Abs Go.Val Go.RowKit Go.Proofs.Tryz
attribute [local irreducible] go SGo HasBody Ev ExtEv EvO EvS binOp RGo
theorem eclone_ev (v : V) : nar v = true → Ev E 107 [enc v] (.d (enc v)) := by
 refine vind (P := fun v => nar v = true → Ev E 107 [enc v] (.d (enc v))) (fun k n d s l ih hn => ?_) v
 obtain ⟨hl, hm⟩ := nar_l hn
 simp only [V.l] at hl hm
 show Ev E 107 [.agg [.int k, .int n, .int d, .str s, .sl (encL l)]] (.d (.agg [.int k, .int n, .int d, .str s, .sl (encL l)]))
 have hle : (encL l).length = l.length := encL_len _
 refine ye1 func107 ntmps107 fun _ _ _=>?_
 repeat' (first | refine yz ?_ | refine yx ?_ | (refine yy ?_ ?_ <;> intro _) | exact zD | exact zL)
 refine go_loop_ (α := Fin (l.length + 1)) (fun p => ⟨[(3, rowK 2 (encL (l.take p.val))), (1, .ptr 0 0), (2, .ptr 1 0), (7, .d (.sl (encL l))), (8, .d (.int (encL l).length)), (9, .d (.int p.val))], [.var 35 (.w (.d (.agg [.int k, .int n, .int d, .str s, .sl (encL l)]))), zVal] ++ rowO 35 5 (encL (l.take p.val))⟩) (fun p => l.length - p.val) ⟨0, by omega⟩ (zle 2) ?_
 rintro ⟨i, hi⟩
 dsimp only
 rcases Nat.lt_or_ge i l.length with hlt | hge
 ·have g1 : decide ((i : Int) < ((encL l).length : Int)) = true := by rw [hle]; simpa using hlt
  have hx0 := List.getElem?_eq_getElem hlt
  generalize l[i] = x at hx0
  have hx : (encL l)[(i : Int).toNat]? = some (enc x) := encL_get (by rw [Int.toNat_natCast]; exact hx0)
  have hmem := List.mem_of_getElem? hx0
  have hcx := ih x hmem (narL_mem hm x hmem)
  have hta := encL_take hx0
  have hll : (encL (l.take i)).length ≤ i := by rw [encL_len]; simp; omega
  match ho' : encL (l.take i), hll with
  | [], hll =>
   dsimp only [rowK, rowO, List.append, HAppend.hAppend, Append.append]
   repeat' (first | refine yz ?_ | refine yi (enc x) hx ?_ | refine yp b107 hcx ?_ | (refine qS rfl ⟨by simp, enc_one _, by first | (show (0 + 1) * 64 ≤ 140737488355328; omega) | (show ((b :: q).length + 1) * 64 ≤ 140737488355328; omega), by first | (show 0 + 1 ≤ 9223372036854775807; omega) | (show (b :: q).length + 1 ≤ 9223372036854775807; omega)⟩ ?_) | refine yx ?_ | (refine yy ?_ ?_ <;> intro _) | exact zD | exact zL)
   refine go_stop ?_
   refine ⟨⟨i + 1, by omega⟩, by dsimp only; omega, ?_⟩
   dsimp only
   rw [hta, ho']
   exact (zren [0, 1, 3])
  | b :: q, hll =>
   dsimp only [rowK, rowO, List.append, HAppend.hAppend, Append.append]
   repeat' (first | refine yz ?_ | refine yi (enc x) hx ?_ | refine yp b107 hcx ?_ | (refine qS rfl ⟨by simp, enc_one _, by first | (show (0 + 1) * 64 ≤ 140737488355328; omega) | (show ((b :: q).length + 1) * 64 ≤ 140737488355328; omega), by first | (show 0 + 1 ≤ 9223372036854775807; omega) | (show (b :: q).length + 1 ≤ 9223372036854775807; omega)⟩ ?_) | refine yx ?_ | (refine yy ?_ ?_ <;> intro _) | exact zD | exact zL)
   refine go_stop ?_
   refine ⟨⟨i + 1, by omega⟩, by dsimp only; omega, ?_⟩
   dsimp only
   rw [hta, ho']
   exact (zren [0, 1, 4])
 ·have g1 : decide ((i : Int) < ((encL l).length : Int)) = false := by rw [hle]; simp; omega
  rw [List.take_of_length_le hge]
  refine go_rowD rfl rfl (by repeat (first | exact trivial | refine ⟨rfl, ?_⟩)) (by repeat (first | exact trivial | refine ⟨rfl, ?_⟩)) ?_
  repeat' (first | refine yz ?_ | refine yx ?_ | (refine yy ?_ ?_ <;> intro _) | exact zD | exact zL)
def valF (g : Gr) (env : List Bd) (e : Ex) : V := bif chkF e != 0 then vNull else evF g env e
theorem evF_ok (g : Gr) (env : List Bd) (e : Ex) : Val.okV (evF g env e) = true := by
 cases e
 simp only [evF]
 exact giv_ok _
theorem valF_ok (g : Gr) (env : List Bd) (e : Ex) : Val.okV (valF g env e) = true := by
 unfold valF
 cases chkF e != 0 with
 | true => show Val.okV vNull = true; decide +kernel
 | false => exact evF_ok g env e
structure EvOK (g : Gr) (env : List Bd) (e : Ex) : Prop where
 hg : narG g
 henv : env.length ≤ 2000000
 hd : dp e ≤ 1000000
 hn : nd e ≤ 1000000
 hok : chkF e = 0 → okE g env e
theorem Eval_ev (g : Gr) (env : List Bd) (e : Ex) (h : EvOK g env e) : Ev E 66 [encGr g, encE e, .sl (env.map encBd)] (.d (enc (valF g env e))) := by
 obtain ⟨hg, henv, hd, hn, hok⟩ := h
 have hc := check_ev e hd hn
 unfold valF
 cases hz : chkF e != 0 with
 | true =>
  refine ye3 func66 ntmps66 fun _ _ _=>?_
  repeat' (first | refine yz ?_ | refine yp b105 hc ?_ | refine yp b32 null_ev ?_ | refine yx ?_ | (refine yy ?_ ?_ <;> intro _) | exact zD | exact zL)
 | false =>
  have hv := value_evS g env hg henv e (hok (by simpa using hz))
  have hcl := eclone_ev (evF g env e) (okV_nar (evF_ok g env e))
  refine ye3 func66 ntmps66 fun _ _ _=>?_
  repeat' (first | refine yz ?_ | refine yp b105 hc ?_ | refine go_makeBound rfl rfl rfl rfl rfl ?_ | refine yc [3] b108 (hv) ?_ | refine yp b107 hcl ?_ | refine yx ?_ | (refine yy ?_ ?_ <;> intro _) | exact zD | exact zL)
end Go.Proofs.YtjgmakalledclaaGreatDoor
namespace Go.Proofs.YtjgmakalledclaaGreatDoor
set_option maxRecDepth 4000
open Go Go.Abs Go.Val Go.RowKit Go.Proofs.Tryz
theorem dp_nd (e : Ex) : dp e ≤ nd e := by
 refine xind (P := fun e => dp e ≤ nd e) (fun op v nm ds ks ih => ?_) e
 rw [dp_eq, nd_eq]
 show dpL ks + 1 ≤ ndL ks + 1
 have key : ∀ l : List Ex, (∀ x ∈ l, dp x ≤ nd x) → dpL l ≤ ndL l := by
  intro l
  induction l with
  | nil => intro _; simp [dpL]
  | cons a r ihr =>
   intro h
   have h1 := h a (by simp)
   have h2 := ihr fun x hx => h x (by simp [hx])
   simp only [dpL, ndL]
   omega
 have := key ks ih
 omega
theorem nd_pos (e : Ex) : 1 ≤ nd e := by rw [nd_eq]; omega
mutual
def cE (C : Nat) : Ex → Prop
 | .mk _ v _ _ ks => cost v ≤ C ∧ cEL C ks
def cEL (C : Nat) : List Ex → Prop
 | [] => True
 | x :: r => cE C x ∧ cEL C r
end
theorem cEL_mem {C : Nat} : ∀ {l : List Ex}, cEL C l → ∀ x ∈ l, cE C x
 | a :: r, h, x, hx => by
  simp only [cEL] at h
  rcases List.mem_cons.1 hx with rfl | hx
  ·exact h.1
  ·exact cEL_mem h.2 x hx
theorem s0_size {s : ByteArray} (h : s0 s = true) : s.size = 0 := by
 unfold s0 at h
 have h1 : s.toList = (⟨#[]⟩ : ByteArray).toList := beq_iff_eq.1 h
 rw [ByteArray.toList_eq, ByteArray.toList_eq] at h1
 have h2 := congrArg List.length h1
 rw [Array.length_toList] at h2
 exact h2
theorem flat_s {v : V} (h : okFlat v = true) : v.s.size ≤ 100 ∧ v.l = [] := by
 have l0 : v.l.length = 0 → v.l = [] := List.eq_nil_of_length_eq_zero
 unfold okFlat at h
 simp only [Bool.or_eq_true, Bool.and_eq_true, beq_iff_eq] at h
 rcases h with ((((h | h) | h) | h) | h) | h
 ·exact ⟨by have := s0_size h.1.2.1.2; omega, l0 h.1.2.2⟩
 ·exact ⟨by have := s0_size h.1.2.1.2; omega, l0 h.1.2.2⟩
 ·exact ⟨by have := s0_size h.1.2.1.2; omega, l0 h.1.2.2⟩
 ·exact ⟨by have := s0_size h.1.2.1; omega, l0 h.1.2.2⟩
 ·refine ⟨?_, l0 h.1.2.2⟩
  have h5 := h.2.2
  unfold strOK at h5
  rw [Bool.and_eq_true] at h5
  exact of_decide_eq_true h5.2
 ·exact ⟨by have := s0_size h.1.2.1.2; omega, l0 h.1.2.2⟩
theorem okN_s : ∀ (m : Nat) (v : V), okN m v = true → v.s.size ≤ 100 := by
 intro m v h
 cases m with
 | zero =>
  simp only [okN, Bool.or_eq_true, Bool.and_eq_true] at h
  rcases h with h | h
  ·exact (flat_s h).1
  ·have := s0_size h.1.2.2; omega
 | succ m =>
  simp only [okN, Bool.or_eq_true, Bool.and_eq_true] at h
  rcases h with (h | h) | h
  ·exact (flat_s h).1
  ·have := s0_size h.1.2.2; omega
  ·have := s0_size h.1.2.2; omega
def sm (B : Nat) (w : V) : Prop := cost (giv w) ≤ B
theorem cost_null : cost vNull = 1 := by decide +kernel
theorem sm_if {B : Nat} {b : Bool} {x y : V} (hx : sm B x) (hy : sm B y) : sm B (bif b then x else y) := by cases b; exact hy; exact hx
theorem sm_of {B : Nat} {w : V} (h1 : 1 ≤ B) (h : cost w ≤ B) : sm B w := by
 unfold sm giv
 cases Val.okV w with
 | true => exact h
 | false => rw [cond_false, cost_null]; exact h1
theorem sm_flat {B : Nat} {w : V} (h3 : 3 ≤ B) (h : w.l = []) : sm B w := by
 unfold sm giv
 cases hv : Val.okV w with
 | true =>
  have := okN_s 8 w hv
  rw [cond_true, cost_eq, h]
  simp only [costL]
  omega
 | false => rw [cond_false, cost_null]; omega
theorem sm_rat {B : Nat} {n d : Int} (h3 : 3 ≤ B) : sm B (vRat n d) := by
 refine sm_flat h3 ?_
 unfold vRat
 cases d == 1 <;> rfl
theorem costL_app : ∀ (a b : List V), costL (a ++ b) = costL a + costL b
 | [], b => by simp [costL]
 | x :: r, b => by simp only [List.cons_append, costL, costL_app r b]; omega
theorem costL_drop (l : List V) (n : Nat) : costL (l.drop n) ≤ costL l := by
 have h := costL_app (l.take n) (l.drop n)
 rw [List.take_append_drop] at h
 omega
theorem costL_evens : ∀ l : List V, costL (evens l) ≤ costL l
 | [] => Nat.le_refl _
 | [_] => Nat.le_refl _
 | x :: y :: r => by have := costL_evens r; simp only [evens, costL]; omega
theorem labels_cost : ∀ l : List ByteArray, ((l.map vStr).all (okN 7)) = true → costL (l.map vStr) ≤ 3 * l.length := by
 intro l
 induction l with
 | nil => intro _; simp [costL]
 | cons s r ih =>
  intro h
  rw [List.map_cons, List.all_cons, Bool.and_eq_true] at h
  have h1 := okN_s 7 _ h.1
  have h2 := ih h.2
  have h4 : cost (vStr s) = 1 + s.size / 50 + 0 := by rw [cost_eq]; rfl
  have h5 : s.size ≤ 100 := h1
  rw [List.map_cons, costL, h4, List.length_cons]
  omega
theorem ok_vList {l : List V} (h : Val.okV (vList l) = true) : l.length ≤ 64 ∧ l.all (okN 7) = true := by
 have h' : okN 8 (.mk 8 0 0 ⟨#[]⟩ l) = true := h
 rw [okN_8] at h'
 simp only [Bool.and_eq_true, decide_eq_true_eq] at h'
 exact ⟨h'.2.1.2, h'.2.2⟩
theorem sm_labels {B : Nat} (hB : 300 ≤ B) (l : List ByteArray) : sm B (vList (l.map vStr)) := by
 unfold sm giv
 cases hv : Val.okV (vList (l.map vStr)) with
 | false => rw [cond_false, cost_null]; omega
 | true =>
  rw [cond_true, cost_eq]
  obtain ⟨h2, h3⟩ := ok_vList hv
  have h9 := labels_cost l h3
  rw [List.length_map] at h2
  have e1 : (vList (l.map vStr)).s.size = 0 := rfl
  have e2 : (vList (l.map vStr)).l = l.map vStr := rfl
  rw [e1, e2]
  omega
structure Bnd (C : Nat) (g : Gr) (env : List Bd) : Prop where
 hC : 300 ≤ C
 env : ∀ b ∈ env, cost b.v ≤ C
 nod : ∀ n ∈ g.nodes, ∀ p ∈ n.props, cost p.v ≤ C
 edg : ∀ e ∈ g.edges, ∀ p ∈ e.props, cost p.v ≤ C
theorem find_cost {C : Nat} (h1 : 1 ≤ C) {l : List Pr} (h : ∀ p ∈ l, cost p.v ≤ C) (key : ByteArray) : cost (findP l key) ≤ C := by
 unfold findP
 cases hf : l.find? fun p => p.key.toList == key.toList with
 | none => show cost vNull ≤ C; rw [cost_null]; exact h1
 | some p => exact h p (List.mem_of_find?_eq_some hf)
theorem prop_cost {C : Nat} {g : Gr} {env : List Bd} (h : Bnd C g env) (a : V) (key : ByteArray) : cost (propF g a key) ≤ C := by
 have hC := h.hC
 unfold propF
 cases hb : nodB g a with
 | true =>
  rw [cond_true]
  refine find_cost (by omega) ?_ key
  unfold nodF
  cases a.k == 5 with
  | false => intro p hp; simp [nd0] at hp
  | true =>
   rw [cond_true]
   cases hf : findN g.nodes a.n with
   | none => intro p hp; simp [nd0] at hp
   | some n => exact h.nod n (List.mem_of_find?_eq_some hf)
 | false =>
  rw [cond_false]
  cases hb2 : edgB g a with
  | true =>
   rw [cond_true]
   refine find_cost (by omega) ?_ key
   unfold edgF
   cases a.k == 6 with
   | false => intro p hp; simp [ed0] at hp
   | true =>
    rw [cond_true]
    cases hf : findE g.edges a.n with
    | none => intro p hp; simp [ed0] at hp
    | some n => exact h.edg n (List.mem_of_find?_eq_some hf)
  | false => rw [cond_false, cost_null]; omega
theorem sm_ratF {B : Nat} {b : Bool} {n d : Int} (h3 : 3 ≤ B) : sm B (ratF b n d) := sm_if (sm_rat h3) (sm_flat h3 rfl)
theorem sm_truth {B : Nat} {t : Int} (h3 : 3 ≤ B) : sm B (vTruth t) := by
 refine sm_flat h3 ?_
 unfold vTruth
 cases kn t == 1 <;> rfl
theorem sm_ar {B : Nat} (op : Int) (a b : V) (h3 : 3 ≤ B) : sm B (arF op a b) := by
 have nl : sm B vNull := sm_flat h3 rfl
 unfold arF
 exact sm_if (sm_flat h3 rfl) (sm_if nl (sm_if (sm_ratF h3) (sm_if (sm_ratF h3) (sm_if (sm_ratF h3) (sm_if (sm_ratF h3) (sm_if (sm_flat h3 rfl) nl))))))
theorem a0_cost (l : List V) : cost (a0 l) ≤ 1 + costL l := by
 cases l with
 | nil => show cost vNull ≤ _; rw [cost_null]; omega
 | cons a r => show cost a ≤ _; simp only [costL]; omega
theorem a0_costL (l : List V) : costL (a0 l).l ≤ costL l := by
 cases l with
 | nil => show costL vNull.l ≤ _; decide +kernel
 | cons a r =>
  have := cost_eq a
  show costL a.l ≤ costL (a :: r)
  simp only [costL]
  omega
theorem getLast_mem {l : List V} (h : l ≠ []) : l.getLastD vNull ∈ l := by
 cases l with
 | nil => exact absurd rfl h
 | cons a r => rw [List.getLastD_cons]; exact List.getLastD_mem_cons ..
theorem sm_part {B : Nat} (nm : ByteArray) (a : V) (hB : 3 ≤ B) (h : 1 + costL a.l ≤ B) : sm B (pthF nm a.l) := by
 unfold pthF
 refine sm_if (sm_flat hB rfl) (sm_of (by omega) ?_)
 have h1 := costL_drop a.l (bif eqS nm nmEdges then 1 else 0)
 have h2 := costL_evens (a.l.drop (bif eqS nm nmEdges then 1 else 0))
 rw [cost_eq]
 show 1 + (⟨#[]⟩ : ByteArray).size / 50 + costL (evens (a.l.drop (bif eqS nm nmEdges then 1 else 0))) ≤ B
 have : (⟨#[]⟩ : ByteArray).size = 0 := rfl
 omega
theorem sm_fn {B : Nat} (g : Gr) (nm : ByteArray) (l : List V) (hB : 300 ≤ B) (h : 1 + costL l ≤ B) : sm B (fnF g nm l) := by
 have h3 : 3 ≤ B := by omega
 have hl := a0_costL l
 have nl : sm B vNull := sm_flat h3 rfl
 have hi : ∀ n, sm B (vInt n) := fun n => sm_flat h3 rfl
 have hst : ∀ s, sm B (vStr s) := fun s => sm_flat h3 rfl
 have hn : ∀ n, sm B (vNode n) := fun n => sm_flat h3 rfl
 have p1 : sm B (firstNN l) := by
  unfold firstNN
  cases hf : l.find? fun v => v.k != 0 with
  | none => exact nl
  | some v => exact sm_of (by omega) (by have := costL_mem (List.mem_of_find?_eq_some hf); show cost v ≤ B; omega)
 have p3 : sm B (absV (a0 l)) := sm_if (sm_rat h3) nl
 have p5 : sm B (ofE nm (edgF g (a0 l))) := sm_if (hst _) (sm_if (hn _) (hn _))
 have p7 : sm B (szF (a0 l)) := sm_if (hi _) (sm_if (hi _) nl)
 have p9 : sm B ((a0 l).l.headD vNull) := by
  refine sm_of (by omega) ?_
  cases hh : (a0 l).l with
  | nil => show cost vNull ≤ B; rw [cost_null]; omega
  | cons b q =>
   have : cost b ≤ costL (a0 l).l := costL_mem (by rw [hh]; simp)
   show cost b ≤ B
   omega
 have p10 : sm B ((a0 l).l.getLastD vNull) := by
  refine sm_of (by omega) ?_
  by_cases hh : (a0 l).l = []
  ·rw [hh]; show cost vNull ≤ B; rw [cost_null]; omega
  ·have := costL_mem (getLast_mem hh); omega
 unfold fnF
 exact sm_if p1 (sm_if (sm_if (hi _) nl) (sm_if p3 (sm_if (sm_if (hst _) nl) (sm_if (sm_if p5 nl) (sm_if (sm_if (sm_labels hB _) nl) (sm_if p7 (sm_if (sm_if (sm_part nm (a0 l) h3 (by omega)) nl) (sm_if (sm_if (sm_if p9 p10) nl) nl))))))))
theorem sm_ap {C B : Nat} {g : Gr} {env : List Bd} (hb : Bnd C g env) (op : Int) (v : V) (nm : ByteArray) (l : List V) (hv : cost v ≤ C) (hC : C ≤ B) (hl : 1 + costL l ≤ B) : sm B (apF g env op v nm l) := by
 have h300 := hb.hC
 have h3 : 3 ≤ B := by omega
 have nl : sm B vNull := sm_flat h3 rfl
 have hbo : ∀ b, sm B (vBool b) := fun b => sm_flat h3 rfl
 have pv : sm B (varF env nm) := by
  refine sm_of (by omega) ?_
  unfold varF
  cases hf : env.find? fun b => b.name.toList == nm.toList with
  | none => show cost vNull ≤ B; rw [cost_null]; omega
  | some b => have := hb.env b (List.mem_of_find?_eq_some hf); show cost b.v ≤ B; omega
 have pp : sm B (propF g (a0 l) nm) := sm_of (by omega) (by have := prop_cost hb (a0 l) nm; omega)
 have pl : sm B (vList l) := by
  refine sm_of (by omega) ?_
  rw [cost_eq]
  have e1 : (vList l).s.size = 0 := rfl
  have e2 : (vList l).l = l := rfl
  rw [e1, e2]
  omega
 unfold apF
 exact sm_if (sm_of (by omega) (by omega)) (sm_if pv (sm_if pp (sm_if (sm_if (hbo _) nl) (sm_if (sm_truth h3) (sm_if (sm_truth h3) (sm_if (sm_truth h3) (sm_if (sm_if (sm_rat h3) nl) (sm_if (sm_ar _ _ _ h3) (sm_if (hbo _) (sm_if pl (sm_if (sm_fn g nm l (by omega) hl) (sm_if nl (sm_truth h3)))))))))))))
theorem ev_cost {C : Nat} {g : Gr} {env : List Bd} (hb : Bnd C g env) (e : Ex) : cE C e → cost (evF g env e) ≤ nd e * C := by
 refine xind (P := fun e => cE C e → cost (evF g env e) ≤ nd e * C) (fun op v nm ds ks ih hc => ?_) e
 simp only [cE] at hc
 have h300 := hb.hC
 have key : ∀ l : List Ex, (∀ x ∈ l, cE C x → cost (evF g env x) ≤ nd x * C) → cEL C l → costL (evL g env l) ≤ ndL l * C := by
  intro l
  induction l with
  | nil => intro _ _; simp [evL, costL]
  | cons a r ihr =>
   intro hx h
   simp only [cEL] at h
   have h1 := hx a (by simp) h.1
   have h2 := ihr (fun x hm => hx x (by simp [hm])) h.2
   simp only [evL, costL, ndL, Nat.add_mul]
   omega
 have h1 := key ks ih hc.2
 rw [nd_eq]
 show cost (evF g env (.mk op v nm ds ks)) ≤ (ndL ks + 1) * C
 simp only [evF]
 refine sm_ap (B := (ndL ks + 1) * C) hb op v nm (evL g env ks) hc.1 ?_ ?_
 ·rw [Nat.add_mul]; omega
 ·rw [Nat.add_mul]; omega
theorem visM_zero {w : Bool} : ∀ {l : List Ex}, visM l w = 0 → ∀ x ∈ l, visF x w = 0
 | a :: r, h, x, hx => by
  rw [visM] at h
  cases hc : visF a w != 0 with
  | true => rw [hc, cond_true] at h; rw [h] at hc; cases hc
  | false =>
   rw [hc, cond_false] at h
   rcases List.mem_cons.1 hx with rfl | hx
   ·simpa using hc
   ·exact visM_zero h x hx
theorem vis_self {e : Ex} {w : Bool} (h : visF e w = 0) : selfF e w = 0 := by
 cases hc : selfF e w != 0 with
 | true => have := visF_bad rfl hc; rw [h] at this; rw [this] at hc; cases hc
 | false => simpa using hc
theorem self_shp {e : Ex} {w : Bool} (h : selfF e w = 0) : shp e.op e.ks.length := by
 have hk : kn0 e = (e.ks.length : Int) := by unfold kn0; rw [kidsE_len]
 unfold selfF at h
 cases c1 : (decide (e.op < 1) || decide (e.op > 24)) || (!opdF e || !spareF e) with
 | true => rw [c1] at h; simp at h
 | false =>
  rw [c1, cond_false] at h
  simp only [Bool.or_eq_false_iff, decide_eq_false_iff_not, Bool.not_eq_false'] at c1
  obtain ⟨⟨o1, o2⟩, hop, -⟩ := c1
  cases c2 : (e.op == 1 && !constF e.v) with
  | true => rw [c2] at h; simp at h
  | false =>
   rw [c2, cond_false] at h
   cases c3 : nlF e with
   | true => rw [c3] at h; simp at h
   | false =>
    unfold opdF at hop
    rw [hk] at hop
    refine ⟨⟨by omega, by omega⟩, fun ho => ?_, fun ho => ?_, fun ho => ?_⟩
    ·rcases ho with ho | ho | ho | ho | ho <;> rw [ho] at hop <;> simp at hop <;> omega
    ·have : e.op = 7 ∨ e.op = 8 ∨ e.op = 9 ∨ e.op = 10 ∨ e.op = 11 ∨ e.op = 12 ∨ e.op = 13 ∨ e.op = 14 ∨ e.op = 15 ∨ e.op = 16 ∨ e.op = 17 ∨ e.op = 18 ∨ e.op = 19 ∨ e.op = 20 := by omega
     rcases this with ho | ho | ho | ho | ho | ho | ho | ho | ho | ho | ho | ho | ho | ho <;> rw [ho] at hop <;> simp at hop <;> omega
    ·rw [ho] at hop
     unfold nlF at c3
     rw [ho] at c3
     simp at hop c3
     have hlo : ariLo e.nm = 1 ∨ ariLo e.nm = 2 ∨ ariLo e.nm = 0 := by
      unfold ariLo
      cases fun1 e.nm <;> cases fun2 e.nm <;> simp
     rcases hop with hop | hop
     ·exact absurd hop c3
     ·omega
theorem okE_of {C : Nat} {g : Gr} {env : List Bd} (hb : Bnd C g env) (hC : C ≤ 1048576) (e : Ex) : ∀ w, visF e w = 0 → nd e ≤ 1000 → cE C e → okE g env e := by
 refine xind (P := fun e => ∀ w, visF e w = 0 → nd e ≤ 1000 → cE C e → okE g env e) (fun op v nm ds ks ih w hv hn hc => ?_) e
 have hs := vis_self hv
 have hsh := self_shp hs
 have hk := visF_ok hs
 rw [hv] at hk
 have hz := visM_zero hk.symm
 rw [nd_eq] at hn
 have hn' : ndL ks + 1 ≤ 1000 := hn
 have hkc : cEL C ks := by simp only [cE] at hc; exact hc.2
 have hlen : ks.length ≤ ndL ks := by
  have : ∀ l : List Ex, l.length ≤ ndL l := by
   intro l
   induction l with
   | nil => simp
   | cons a r ihr => have := nd_pos a; simp only [List.length_cons, ndL]; omega
  exact this ks
 simp only [okE]
 refine ⟨hsh, by omega, fun _ _ => ?_, ?_⟩
 ·have h1 : cost (a0 (evL g env ks)) ≤ 1 + ndL ks * C := by
   have h2 := a0_cost (evL g env ks)
   have key : ∀ l : List Ex, cEL C l → costL (evL g env l) ≤ ndL l * C := by
    intro l
    induction l with
    | nil => intro _; simp [evL, costL]
    | cons a r ihr =>
     intro h
     simp only [cEL] at h
     have h1 := ev_cost hb a h.1
     have h2 := ihr h.2
     simp only [evL, costL, ndL, Nat.add_mul]
     omega
   have := key ks hkc
   omega
  have h2 := txt_len (a0 (evL g env ks))
  have h3 : ndL ks * C ≤ 1000 * 1048576 := Nat.mul_le_mul (by omega) hC
  omega
 ·have key : ∀ l : List Ex, (∀ x ∈ l, x ∈ ks) → ndL l ≤ 999 → okEL g env l := by
   intro l
   induction l with
   | nil => intro _ _; simp only [okEL]
   | cons a r ihr =>
    intro hm hnl
    simp only [ndL] at hnl
    simp only [okEL]
    exact ⟨ih a (hm a (by simp)) _ (hz a (hm a (by simp))) (by omega) (cEL_mem hkc a (hm a (by simp))), ihr (fun x hx => hm x (by simp [hx])) (by omega)⟩
  exact key ks (fun _ h => h) (by omega)
end Go.Proofs.YtjgmakalledclaaGreatDoor
namespace Go.Proofs.YtjgmakalledclaaGreatDoor
set_option maxRecDepth 4000
open Go Go.Abs Go.Val Go.RowKit Go.Proofs.Tryz
attribute [local irreducible] go SGo HasBody Ev ExtEv EvO EvS binOp RGo
theorem chk_vis {e : Ex} (h : chkF e = 0) : visF e false = 0 := by
 unfold chkF at h
 cases h1 : decide (dp e > 24) with
 | true => rw [h1] at h; simp at h
 | false =>
  rw [h1, cond_false] at h
  cases h2 : decide (nd e > 300) with
  | true => rw [h2] at h; simp at h
  | false => rw [h2, cond_false] at h; exact h
end Go.Proofs.YtjgmakalledclaaGreatDoor
namespace Go.Proofs.YtjgmakalledclaaGreatDoor
set_option maxRecDepth 4000
open Go Go.Abs Go.Val Go.RowKit Go.ChangeShapes Go.WideShapes Go.Proofs.Tryz
theorem ty_E : ∀ {t : TypeId} {x : D}, HasTy Tryz.prog t x → (t = 52 → ∃ v, x = encE v) ∧ (t = 50 → ∃ l, x = .sl (encEL l)) := by
 intro t x h
 induction h with
 | bool b h => exact ⟨fun e => (by subst e; rw [underlying52] at h; cases h), fun e => (by subst e; rw [underlying50] at h; cases h)⟩
 | int n h => exact ⟨fun e => (by subst e; rw [underlying52] at h; cases h), fun e => (by subst e; rw [underlying50] at h; cases h)⟩
 | str s h => exact ⟨fun e => (by subst e; rw [underlying52] at h; cases h), fun e => (by subst e; rw [underlying50] at h; cases h)⟩
 | arr ps h _ _ => exact ⟨fun e => (by subst e; rw [underlying52] at h; cases h), fun e => (by subst e; rw [underlying50] at h; cases h)⟩
 | sl xs h hx ih =>
  refine ⟨fun e => (by subst e; rw [underlying52] at h; cases h), fun e => ?_⟩
  subst e
  rw [underlying50] at h
  cases h
  have : ∀ ys : List D, (∀ y ∈ ys, ∃ v, y = encE v) → ∃ l, ys = encEL l := by
   intro ys
   induction ys with
   | nil => exact fun _ => ⟨[], by simp [encEL]⟩
   | cons y r ihr =>
    intro hy
    obtain ⟨v, rfl⟩ := hy y (by simp)
    obtain ⟨l, rfl⟩ := ihr fun z hz => hy z (by simp [hz])
    exact ⟨v :: l, by simp [encEL, encE]⟩
  obtain ⟨l, rfl⟩ := this xs fun y hy => (ih y hy).1 rfl
  exact ⟨l, rfl⟩
 | struct parts h hl hp ih =>
  refine ⟨fun e => ?_, fun e => (by subst e; rw [underlying50] at h; cases h)⟩
  subst e
  rw [underlying52] at h
  cases h
  match parts, hl with
  | [p0, p1, p2, p3, p4], _ =>
   obtain ⟨k, rfl⟩ := HasTy.int_inv underlying3 (hp 0 _ p0 rfl rfl)
   obtain ⟨v, rfl⟩ := ty_val (hp 1 _ p1 rfl rfl)
   obtain ⟨s, rfl⟩ := HasTy.str_inv underlying9 (hp 2 _ p2 rfl rfl)
   obtain ⟨b, rfl⟩ := HasTy.bool_inv underlying4 (hp 3 _ p3 rfl rfl)
   obtain ⟨l, rfl⟩ := (ih 4 _ p4 rfl rfl).2 rfl
   exact ⟨.mk k v s b l, rfl⟩
theorem ty_expr {x : D} (h : HasTy Tryz.prog 52 x) : ∃ v, x = encE v := (ty_E h).1 rfl
theorem map_all {α : Type} {f : α → D} : ∀ {ys : List D}, (∀ y ∈ ys, ∃ v, y = f v) → ∃ l : List α, ys = l.map f
 | [], _ => ⟨[], rfl⟩
 | y :: r, h => by
  obtain ⟨v, hv⟩ := h y (by simp)
  obtain ⟨l, hl⟩ := map_all (ys := r) fun z hz => h z (by simp [hz])
  exact ⟨v :: l, by rw [hv, hl]; rfl⟩
theorem ty_strs {x : D} (h : HasTy Tryz.prog 43 x) : ∃ l : List ByteArray, x = .sl (l.map .str) := by
 obtain ⟨xs, rfl, hx⟩ := HasTy.sl_inv underlying43 h
 obtain ⟨l, rfl⟩ := map_all (f := D.str) fun y hy => HasTy.str_inv underlying9 (hx y hy)
 exact ⟨l, rfl⟩
theorem ty_pr {x : D} (h : HasTy Tryz.prog 163 x) : ∃ p, x = encPr p := by
 obtain ⟨parts, rfl, hl, hp⟩ := HasTy.struct_inv underlying163 h
 match parts, hl with
 | [p0, p1], _ =>
  obtain ⟨k, rfl⟩ := HasTy.str_inv underlying9 (hp 0 _ p0 rfl rfl)
  obtain ⟨v, rfl⟩ := ty_val (hp 1 _ p1 rfl rfl)
  exact ⟨⟨k, v⟩, rfl⟩
theorem ty_prs {x : D} (h : HasTy Tryz.prog 113 x) : ∃ l : List Pr, x = .sl (l.map encPr) := by
 obtain ⟨xs, rfl, hx⟩ := HasTy.sl_inv underlying113 h
 obtain ⟨l, rfl⟩ := map_all (f := encPr) fun y hy => ty_pr (hx y hy)
 exact ⟨l, rfl⟩
theorem ty_node {x : D} (h : HasTy Tryz.prog 115 x) : ∃ p, x = encNd p := by
 obtain ⟨parts, rfl, hl, hp⟩ := HasTy.struct_inv underlying115 h
 match parts, hl with
 | [p0, p1, p2], _ =>
  obtain ⟨k, rfl⟩ := HasTy.int_inv underlying3 (hp 0 _ p0 rfl rfl)
  obtain ⟨l, rfl⟩ := ty_strs (hp 1 _ p1 rfl rfl)
  obtain ⟨v, rfl⟩ := ty_prs (hp 2 _ p2 rfl rfl)
  exact ⟨⟨k, l, v⟩, rfl⟩
theorem ty_edge {x : D} (h : HasTy Tryz.prog 118 x) : ∃ p, x = encEd p := by
 obtain ⟨parts, rfl, hl, hp⟩ := HasTy.struct_inv underlying118 h
 match parts, hl with
 | [p0, p1, p2, p3, p4], _ =>
  obtain ⟨k, rfl⟩ := HasTy.int_inv underlying3 (hp 0 _ p0 rfl rfl)
  obtain ⟨m, rfl⟩ := HasTy.int_inv underlying3 (hp 1 _ p1 rfl rfl)
  obtain ⟨n, rfl⟩ := HasTy.int_inv underlying3 (hp 2 _ p2 rfl rfl)
  obtain ⟨s, rfl⟩ := HasTy.str_inv underlying9 (hp 3 _ p3 rfl rfl)
  obtain ⟨v, rfl⟩ := ty_prs (hp 4 _ p4 rfl rfl)
  exact ⟨⟨k, m, n, s, v⟩, rfl⟩
theorem ty_graph {x : D} (h : HasTy Tryz.prog 41 x) : ∃ p, x = encGr p := by
 obtain ⟨parts, rfl, hl, hp⟩ := HasTy.struct_inv underlying41 h
 match parts, hl with
 | [p0, p1, p2, p3], _ =>
  obtain ⟨xs, rfl, hx⟩ := HasTy.sl_inv underlying38 (hp 0 _ p0 rfl rfl)
  obtain ⟨l, rfl⟩ := map_all (f := encNd) fun y hy => ty_node (hx y hy)
  obtain ⟨ys, rfl, hy⟩ := HasTy.sl_inv underlying39 (hp 1 _ p1 rfl rfl)
  obtain ⟨m, rfl⟩ := map_all (f := encEd) fun z hz => ty_edge (hy z hz)
  obtain ⟨k, rfl⟩ := HasTy.int_inv underlying3 (hp 2 _ p2 rfl rfl)
  obtain ⟨n, rfl⟩ := HasTy.int_inv underlying3 (hp 3 _ p3 rfl rfl)
  exact ⟨⟨l, m, k, n⟩, rfl⟩
def tys2 : List TypeId := [3, 9, 4, 43, 22, 35, 50, 52, 163, 113, 120, 81, 115, 38, 118, 39, 41]
end Go.Proofs.YtjgmakalledclaaGreatDoor
