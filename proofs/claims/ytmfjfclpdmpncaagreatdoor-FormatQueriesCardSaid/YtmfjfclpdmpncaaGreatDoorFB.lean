/- Words of the language and the checking of expressions, by both texts; The checking of expressions, by both texts; The checking of expressions by the reference; and what both checks answer; Expressions as canonical text: what both texts write; constants and signs; Expressions as canonical text, by both texts; Lists of expressions and operands as text, given the expressions' own texts, by both texts; Expressions as canonical text, by both texts. Conditions: each part's own, as it says. -/
import Derived.Test.YtmfjfclpdmpncaaGreatDoorGC
import Derived.Test.YtmfjfclpdmpncaaGreatDoorFA
import Derived.Test.YtmfjfclpdmpncaaGreatDoorMB
set_option linter.unusedVariables false
set_option linter.unusedSimpArgs false
/- Words of the language and the checking of expressions, by both texts. Conditions: at most a million parts. -/
namespace Go.Proofs.YtmfjfclpdmpncaaGreatDoor
set_option maxRecDepth 4000
open Go Go.Abs Go.Val Go.RowKit
attribute [local irreducible] go SGo HasBody Ev ExtEv EvO EvS

theorem upF_size (s : ByteArray) : (upF s).size = s.size := by unfold upF; rw [strOf_size, upL_len]
set_option maxRecDepth 10000 in
attribute [local irreducible] upF resF joinW wordsB in
theorem res_ev (s : ByteArray) (hs : s.size ≤ 1000) : Ev E 228 [.str s] (.d (.bool (resF s))) := by
  have hu := upper_ev s
  have hus := upF_size s
  have h1 : (⟨#[32]⟩ : ByteArray).size = 1 := rfl
  have hc1 := contains_ev s ⟨#[32]⟩ (by omega)
  cases h0 : !(s.toList == (⟨#[]⟩ : ByteArray).toList) with
  | false =>
    have e : resF s = false := by
      rw [resF_data, upF_list]
      have : s.data.toList = [] := by rw [Bool.not_eq_false', beq_iff_eq, ByteArray.toList_eq, ByteArray.toList_eq] at h0; exact h0
      rw [this]
      unfold wordsB
      decide +kernel
    rw [e]
    refine enter1 Tryz.func228 Tryz.ntmps228 rfl rfl fun w0 F0 O => ?_
    repeat' (first | refine zS rfl ?_ | refine qA ?_ | refine qB rfl ?_ | refine qD ?_ | refine qL rfl rfl ?_ | refine zW rfl rfl rfl rfl ?_ | exact zD)
  | true =>
    cases hb : Lib.contains s.data.toList [32] with
    | true =>
      rw [show (⟨#[32]⟩ : ByteArray).data.toList = [32] from rfl, hb] at hc1
      rw [res_blank s hb]
      refine enter1 Tryz.func228 Tryz.ntmps228 rfl rfl fun w0 F0 O => ?_
      repeat' (first | refine zS rfl ?_ | refine qA ?_ | refine qB rfl ?_ | refine qD ?_ | refine qP rfl rfl rfl rfl rfl rfl b302 (hc1) ?_ | refine qL rfl rfl ?_ | refine zX rfl rfl rfl rfl ?_ | exact zD)
    | false =>
      rw [show (⟨#[32]⟩ : ByteArray).data.toList = [32] from rfl, hb] at hc1
      have hr := res_eq s hb
      refine enter1 Tryz.func228 Tryz.ntmps228 rfl rfl fun w0 F0 O => ?_
      repeat' (first | refine zS rfl ?_ | refine qA ?_ | refine qB rfl ?_ | refine qD ?_ | refine qP (d := 7) rfl rfl rfl rfl rfl rfl b302 (hc1) ?_ | refine qP rfl rfl rfl rfl rfl rfl b303 (hu) ?_ | refine qP (d := 15) rfl rfl rfl rfl rfl rfl b302 ((contains_ev _ _ (by decide +kernel))) ?_ | refine qL rfl rfl ?_ | refine zX rfl rfl rfl rfl ?_)
      rw [show ∀ x, (cond (bif true then !false else false) x false) = x from fun _ => rfl]
      refine congrArg D.bool (Eq.trans (congr (congrArg Lib.contains ?_) ?_) hr)
      · unfold joinW wordsB
        decide +kernel
      · simp only [ByteArray.data_append, Array.toList_append]
        simp
def wordF (s : ByteArray) : Bool := nameF s && !resF s
theorem nameF_size {s : ByteArray} (h : nameF s = true) : s.size ≤ 1000 := by
  unfold nameF at h
  simp only [Bool.and_eq_true, decide_eq_true_eq] at h
  omega
theorem word_ev (s : ByteArray) : Ev E 136 [.str s] (.d (.bool (wordF s))) := by
  have h1 := name_ev s
  unfold wordF
  cases hn : nameF s with
  | false =>
    rw [hn] at h1
    refine enter1 Tryz.func136 Tryz.ntmps136 rfl rfl fun w0 F0 O => ?_
    repeat' (first | refine zS rfl ?_ | refine qA ?_ | refine qB rfl ?_ | refine qD ?_ | refine qP rfl rfl rfl rfl rfl rfl b171 (h1) ?_ | refine qL rfl rfl ?_ | exact zD)
  | true =>
    rw [hn] at h1
    have h2 := res_ev s (nameF_size hn)
    refine enter1 Tryz.func136 Tryz.ntmps136 rfl rfl fun w0 F0 O => ?_
    repeat' (first | refine zS rfl ?_ | refine qA ?_ | refine qB rfl ?_ | refine qD ?_ | refine qP rfl rfl rfl rfl rfl rfl b171 (h1) ?_ | refine qP rfl rfl rfl rfl rfl rfl b228 (h2) ?_ | refine qL rfl rfl ?_ | exact zD)
theorem rword_ev (s : ByteArray) : Ev E 214 [.str s] (.d (.bool (wordF s))) := by
  have h1 := rname_ev s
  have h2 := rres_ev s
  unfold wordF
  cases hn : nameF s with
  | false =>
    rw [hn] at h1
    refine enter1 Tryz.func214 Tryz.ntmps214 rfl rfl fun w0 F0 O => ?_
    repeat' (first | refine zS rfl ?_ | refine qA ?_ | refine qB rfl ?_ | refine qD ?_ | refine qP rfl rfl rfl rfl rfl rfl b179 (h1) ?_ | refine qL rfl rfl ?_ | exact zD)
  | true =>
    rw [hn] at h1
    refine enter1 Tryz.func214 Tryz.ntmps214 rfl rfl fun w0 F0 O => ?_
    repeat' (first | refine zS rfl ?_ | refine qA ?_ | refine qB rfl ?_ | refine qD ?_ | refine qP rfl rfl rfl rfl rfl rfl b179 (h1) ?_ | refine qP rfl rfl rfl rfl rfl rfl b294 (h2) ?_ | refine qL rfl rfl ?_ | exact zD)
def nlF (e : Ex) : Bool :=
  bif e.op == 2 || (e.op == 3 || e.op == 4) then !wordF e.nm else
  bif e.op == 23 then ariLo e.nm == 0 else
  bif e.op == 24 then !aggF e.nm else false
theorem nameless_ev (e : Ex) : Ev E 287 [encE e] (.d (.bool (nlF e))) := by
  have h1 := word_ev e.nm
  have h2 := arity_ev e.nm
  have h3 := agg_ev e.nm
  refine enter1 Tryz.func287 Tryz.ntmps287 rfl rfl fun w0 F0 O => ?_
  repeat' (first | refine zS rfl ?_ | refine qA ?_ | refine qB rfl ?_ | refine qD ?_ | refine qE ?_ | refine qF ?_ | refine qG ?_ | refine qP rfl rfl rfl rfl rfl rfl b136 (h1) ?_ | refine qP rfl rfl rfl rfl rfl rfl b348 (h2) ?_ | refine qP rfl rfl rfl rfl rfl rfl b349 (h3) ?_ | refine zT rfl ?_ | refine qL rfl rfl ?_ | (refine qV rfl ?_ ?_ <;> intro _))
  all_goals (refine congrArg D.bool ?_; simp_all [nlF, Bool.cond_eq_ite])
end Go.Proofs.YtmfjfclpdmpncaaGreatDoor

/- The checking of expressions, by both texts. Conditions: at most a million parts. -/
namespace Go.Proofs.YtmfjfclpdmpncaaGreatDoor
set_option maxRecDepth 4000
open Go Go.Abs Go.Val Go.RowKit
attribute [local irreducible] go SGo HasBody Ev ExtEv EvO EvS

/-- The error of an expression without its operands. -/
def selfF (e : Ex) (w : Bool) : Int :=
  bif (decide (e.op < 1) || decide (e.op > 24)) || (!opdF e || !spareF e) then 1 else
  bif e.op == 1 && !constF e.v then 8 else
  bif nlF e then 6 else
  bif e.op == 24 && w then 9 else 0
mutual
def visF : Ex → Bool → Int
  | .mk op v nm ds ks, w => bif selfF (.mk op v nm ds ks) w != 0 then selfF (.mk op v nm ds ks) w else visM ks (w || op == 24)
def visM : List Ex → Bool → Int
  | [], _ => 0
  | x :: r, w => bif visF x w != 0 then visF x w else visM r w
end
theorem visM_at {l : List Ex} {i : Nat} {x : Ex} {w : Bool} (h : l[i]? = some x) : visM (l.drop i) w = bif visF x w != 0 then visF x w else visM (l.drop (i + 1)) w := by
  rw [drop_at h, visM]
structure SVs (l : List Ex) (w : Bool) where
  i : Nat
  hi : i ≤ l.length
  ok : visM l w = visM (l.drop i) w
theorem visF_ok {e : Ex} {w : Bool} (h : selfF e w = 0) : visF e w = visM e.ks (w || e.op == 24) := by
  cases e
  rw [visF, h]; rfl
theorem visF_bad {e : Ex} {w : Bool} {c : Int} (h : selfF e w = c) (hc : (c != 0) = true) : c = visF e w := by
  cases e
  rw [visF, h, hc]; rfl
set_option maxHeartbeats 4000000 in
theorem visit_ev (e : Ex) : ∀ w, Ev E 199 [encE e, .bool w] (.d (.int (visF e w))) := by
  refine xind (P := fun e => ∀ w, Ev E 199 [encE e, .bool w] (.d (.int (visF e w)))) (fun op v nm ds ks ih w => ?_) e
  refine Ev.fit fun hfit => ?_
  obtain ⟨-, -, -, hmax, -⟩ := fit_encE (hfit (encE (.mk op v nm ds ks)) (by simp))
  have hlen : (kidsE (.mk op v nm ds ks)).length = ks.length := kidsE_len _
  have hkg : ∀ (i : Nat) (x : Ex), ks[i]? = some x → (kidsE (.mk op v nm ds ks))[(i : Int).toNat]? = some (encE x) := fun i x h => kidsE_get (e := .mk op v nm ds ks) (by rw [Int.toNat_natCast]; exact h)
  have hks : Ex.ks (.mk op v nm ds ks) = ks := rfl
  generalize Ex.mk op v nm ds ks = e at *
  rw [hks] at hmax
  have h1 := operands_ev e
  have h2 := spare_ev e
  have h3 := constant_ev e.v
  have h4 := nameless_ev e
  have hsf : ∀ c, (bif (decide (e.op < 1) || decide (e.op > 24)) || (!opdF e || !spareF e) then 1 else bif e.op == 1 && !constF e.v then 8 else bif nlF e then 6 else bif e.op == 24 && w then 9 else 0) = c → selfF e w = c := fun c h => h
  have hbad := fun c (h : selfF e w = c) => visF_bad h
  have hok := visF_ok (e := e) (w := w)
  rw [hks] at hok
  clear hks
  generalize hW : (w || e.op == 24) = W at hok
  cases w
  all_goals
    refine enter2 Tryz.func199 Tryz.ntmps199 rfl rfl fun w0 F0 O => ?_
    repeat' (first | refine zS rfl ?_ | refine qA ?_ | refine qB rfl ?_ | refine qD ?_ | refine qE ?_ | refine qF ?_ | refine qG ?_ | refine qP rfl rfl rfl rfl rfl rfl b284 (h1) ?_ | refine qP rfl rfl rfl rfl rfl rfl b285 (h2) ?_ | refine qP rfl rfl rfl rfl rfl rfl b286 (h3) ?_ | refine qP rfl rfl rfl rfl rfl rfl b287 (h4) ?_ | refine zT rfl ?_ | refine zU rfl ?_ | refine qL rfl rfl ?_ | (refine qY rfl rfl rfl rfl ?_ ?_ <;> intro _) | (refine qV rfl ?_ ?_ <;> intro _))
    any_goals (refine congrArg D.int (hbad _ (hsf _ ?_) rfl); clear ih hkg hfit hsf hbad hok h1 h2 h3 h4; simp_all [Bool.cond_eq_ite]; done)
  all_goals
    rw [hok (hsf _ (by clear ih hkg hfit hsf hbad hok h1 h2 h3 h4; simp_all [Bool.cond_eq_ite]))]
    clear hsf hbad hok h1 h2 h3 h4
    refine go_loop_ (α := SVs ks W) (fun p => ⟨[(1, .d (.bool _)), (2, .ptr 0 0), (44, .d (.sl (kidsE e))), (45, .d (.int (kidsE e).length)), (46, .d (.int p.i))], [.var 40 (.w (.d (encE e)))]⟩) (fun p => ks.length - p.i) ⟨0, by omega, rfl⟩ ((zle 1)) ?_
    rintro ⟨i, hi, ok⟩
    dsimp only
    rcases Nat.lt_or_ge i ks.length with hlt | hge
    · have hd1 : decide ((i : Int) < ((kidsE e).length : Int)) = true := by rw [hlen]; simpa using hlt
      have hx0 := List.getElem?_eq_getElem hlt
      generalize ks[i] = x at hx0
      have hx := hkg i x hx0
      have hv := ih x (List.mem_of_getElem? hx0) W
      rw [← hW] at hv
      rw [ok, visM_at hx0]
      cases hz : visF x W != 0 with
      | true =>
        rw [← hW] at hz ⊢
        repeat' (first | refine zS rfl ?_ | refine qA ?_ | refine qB rfl ?_ | refine qD ?_ | refine qE ?_ | refine qF ?_ | refine qI (encE x) rfl (guardX_ok rfl) rfl rfl rfl rfl rfl rfl (by first | omega | decide) hx ?_ | refine qP rfl rfl rfl rfl rfl rfl b199 (hv) ?_ | refine zT rfl ?_ | refine qL rfl rfl ?_ | exact zD)
      | false =>
        rw [← hW] at hz
        repeat' (first | refine zS rfl ?_ | refine qA ?_ | refine qB rfl ?_ | refine qD ?_ | refine qE ?_ | refine qF ?_ | refine qG ?_ | refine qI (encE x) rfl (guardX_ok rfl) rfl rfl rfl rfl rfl rfl (by first | omega | decide) hx ?_ | refine qP rfl rfl rfl rfl rfl rfl b199 (hv) ?_ | refine zT rfl ?_ | refine zU rfl ?_)
        refine go_stop ?_
        exact ⟨⟨i + 1, by omega, by rw [ok, visM_at hx0, ← hW, hz]; rfl⟩, by dsimp only; omega, (zle 1)⟩
    · have hd1 : decide ((i : Int) < ((kidsE e).length : Int)) = false := by rw [hlen]; simp; omega
      rw [ok, List.drop_eq_nil_of_le hge, visM]
      repeat' (first | refine zS rfl ?_ | refine qA ?_ | refine qB rfl ?_ | refine qD ?_ | refine qH rfl ?_ | refine zU rfl ?_ | refine qL rfl rfl ?_ | exact zD)
end Go.Proofs.YtmfjfclpdmpncaaGreatDoor

/- The checking of expressions by the reference; and what both checks answer. Conditions: at most a million parts. -/
namespace Go.Proofs.YtmfjfclpdmpncaaGreatDoor
set_option maxRecDepth 4000
open Go Go.Abs Go.Val Go.RowKit
attribute [local irreducible] go SGo HasBody Ev ExtEv EvO EvS

set_option maxHeartbeats 4000000 in
theorem self_ev (e : Ex) (w : Bool) : Ev E 306 [encE e, .bool w] (.d (.int (selfF e w))) := by
  have h1 := roperands_ev e
  have h2 := rzero_ev e.v
  have h3 := RValid_ev e.v
  have h4 := named_ev e.op
  have h5 := rword_ev e.nm
  have h6 := rarity_ev e.nm
  have h7 := ragg_ev e.nm
  have hz := ari_zero e.nm
  generalize hc1 : ((decide (e.op < 1) || decide (e.op > 24)) || (!opdF e || !spareF e)) = c1
  generalize hc2 : (e.op == 1 && !constF e.v) = c2
  generalize hc3 : ((bif e.op == 2 || (e.op == 3 || e.op == 4) then !wordF e.nm else bif e.op == 24 then !aggF e.nm else false)) = c3
  refine enter2 Tryz.func306 Tryz.ntmps306 rfl rfl fun w0 F0 O => ?_
  repeat' (first | refine go_cutR 1 (fun b => ⟨[(50, .d (.bool b)), (1, .d (.bool w)), (2, .ptr 0 0)], [.var 40 (.w (.d (encE e)))]⟩) (c1) ?_ ?_ | refine go_cutR 3 (fun b => ⟨[(83, .d (.bool b)), (1, .d (.bool w)), (2, .ptr 0 0)], [.var 40 (.w (.d (encE e)))]⟩) (c2) ?_ ?_ | refine go_cutR 5 (fun b => ⟨[(113, .d (.bool b)), (1, .d (.bool w)), (2, .ptr 0 0)], [.var 40 (.w (.d (encE e)))]⟩) (c3) ?_ ?_ | refine zS rfl ?_ | refine qA ?_ | refine qB rfl ?_ | refine qD ?_ | refine qE ?_ | refine go_stop ⟨_, ?_, (zle 1)⟩ | refine qP rfl rfl rfl rfl rfl rfl b364 (h1) ?_ | refine qP rfl rfl rfl rfl rfl rfl b293 (h2) ?_ | refine qP rfl rfl rfl rfl rfl rfl b246 (h3) ?_ | refine qP rfl rfl rfl rfl rfl rfl b365 (h4) ?_ | refine qP rfl rfl rfl rfl rfl rfl b214 (h5) ?_ | refine qP rfl rfl rfl rfl rfl rfl b367 (h6) ?_ | refine qP rfl rfl rfl rfl rfl rfl b366 (h7) ?_ | refine zU rfl ?_ | refine qL rfl rfl ?_ | (refine qY rfl rfl rfl rfl ?_ ?_ <;> intro _) | (refine qV rfl ?_ ?_ <;> intro _))
  all_goals clear h1 h2 h3 h4 h5 h6 h7
  any_goals (refine Eq.trans ?_ hc1; clear hc1 hc2 hc3; simp_all [spareF, constF, nlF, isS, Bool.cond_eq_ite])
  any_goals (refine Eq.trans ?_ hc2; clear hc1 hc2 hc3; simp_all [spareF, constF, nlF, isS, Bool.cond_eq_ite])
  any_goals (refine Eq.trans ?_ hc3; clear hc1 hc2 hc3; simp_all [spareF, constF, nlF, isS, Bool.cond_eq_ite])
  any_goals (refine congrArg D.int ?_; unfold selfF; rw [hc1, hc2]; clear hc1 hc2; simp_all [nlF, Bool.cond_eq_ite])
  all_goals first
    | (have o1 : ¬ e.op < 1 := (by omega); have o2 : ¬ 24 < e.op := (by omega); simp_all; done)
    | (rw [Bool.eq_iff_iff]; simp_all; done)
    | (split at hc3 <;> simp_all; done)
theorem rvisit_ev (e : Ex) : ∀ w, Ev E 242 [encE e, .bool w] (.d (.int (visF e w))) := by
  refine xind (P := fun e => ∀ w, Ev E 242 [encE e, .bool w] (.d (.int (visF e w)))) (fun op v nm ds ks ih w => ?_) e
  refine Ev.fit fun hfit => ?_
  obtain ⟨-, -, -, hmax, -⟩ := fit_encE (hfit (encE (.mk op v nm ds ks)) (by simp))
  have hlen : (kidsE (.mk op v nm ds ks)).length = ks.length := kidsE_len _
  have hkg : ∀ (i : Nat) (x : Ex), ks[i]? = some x → (kidsE (.mk op v nm ds ks))[(i : Int).toNat]? = some (encE x) := fun i x h => kidsE_get (e := .mk op v nm ds ks) (by rw [Int.toNat_natCast]; exact h)
  have hks : Ex.ks (.mk op v nm ds ks) = ks := rfl
  generalize Ex.mk op v nm ds ks = e at *
  rw [hks] at hmax
  have h1 := self_ev e w
  have hbad := visF_bad (e := e) (w := w) rfl
  have hok := visF_ok (e := e) (w := w)
  rw [hks] at hok
  clear hks
  generalize hW : (w || e.op == 24) = W at hok
  cases hsf : selfF e w != 0 with
  | true =>
    rw [← hbad hsf]
    refine enter2 Tryz.func242 Tryz.ntmps242 rfl rfl fun w0 F0 O => ?_
    repeat' (first | refine zS rfl ?_ | refine qA ?_ | refine qB rfl ?_ | refine qD ?_ | refine qP rfl rfl rfl rfl rfl rfl b306 (h1) ?_ | refine zT rfl ?_ | refine qL rfl rfl ?_ | exact zD)
  | false =>
    rw [hok (by simpa using hsf)]
    cases w
    all_goals
      refine enter2 Tryz.func242 Tryz.ntmps242 rfl rfl fun w0 F0 O => ?_
      repeat' (first | refine zS rfl ?_ | refine qA ?_ | refine qB rfl ?_ | refine qD ?_ | refine qE ?_ | refine qF ?_ | refine qP rfl rfl rfl rfl rfl rfl b306 (h1) ?_ | refine zU rfl ?_)
      refine go_loop_ (α := SVs ks W) (fun p => ⟨[(1, .d (.bool _)), (2, .ptr 0 0), (6, .d (.int p.i))], [.var 40 (.w (.d (encE e)))]⟩) (fun p => ks.length - p.i) ⟨0, by omega, rfl⟩ ((zle 1)) ?_
      rintro ⟨i, hi, ok⟩
      dsimp only
      rcases Nat.lt_or_ge i ks.length with hlt | hge
      · have hd1 : decide ((i : Int) < ((kidsE e).length : Int)) = true := by rw [hlen]; simpa using hlt
        have hx0 := List.getElem?_eq_getElem hlt
        generalize ks[i] = x at hx0
        have hx := hkg i x hx0
        have hv := ih x (List.mem_of_getElem? hx0) W
        rw [← hW] at hv
        rw [ok, visM_at hx0]
        cases hz : visF x W != 0 with
        | true =>
          rw [← hW] at hz ⊢
          repeat' (first | refine zS rfl ?_ | refine qA ?_ | refine qB rfl ?_ | refine qC (by kernel_rfl) ?_ | refine qD ?_ | refine qE ?_ | refine qF ?_ | refine qI (encE x) rfl (guardX_ok rfl) rfl rfl rfl rfl rfl rfl (by first | omega | decide) hx ?_ | refine qP rfl rfl rfl rfl rfl rfl b242 (hv) ?_ | refine zT rfl ?_ | refine qL rfl rfl ?_ | exact zD)
        | false =>
          rw [← hW] at hz
          repeat' (first | refine zS rfl ?_ | refine qA ?_ | refine qB rfl ?_ | refine qC (by kernel_rfl) ?_ | refine qD ?_ | refine qE ?_ | refine qF ?_ | refine qG ?_ | refine qI (encE x) rfl (guardX_ok rfl) rfl rfl rfl rfl rfl rfl (by first | omega | decide) hx ?_ | refine qP rfl rfl rfl rfl rfl rfl b242 (hv) ?_ | refine zT rfl ?_ | refine zU rfl ?_)
          refine go_stop ?_
          exact ⟨⟨i + 1, by omega, by rw [ok, visM_at hx0, ← hW, hz]; rfl⟩, by dsimp only; omega, (zle 1)⟩
      · have hd1 : decide ((i : Int) < ((kidsE e).length : Int)) = false := by rw [hlen]; simp; omega
        rw [ok, List.drop_eq_nil_of_le hge, visM]
        repeat' (first | refine zS rfl ?_ | refine qA ?_ | refine qB rfl ?_ | refine qD ?_ | refine qH rfl ?_ | refine zU rfl ?_ | refine qL rfl rfl ?_ | exact zD)
/-- The error of an expression. -/
def chkF (e : Ex) : Int := bif decide (dp e > 24) then 5 else bif decide (nd e > 300) then 4 else visF e false
theorem check_ev (e : Ex) (h1 : dp e ≤ 1000000) (h2 : nd e ≤ 1000000) : Ev E 108 [encE e] (.d (.int (chkF e))) := by
  have a1 := depth_ev e h1
  have a2 := sizeE_ev e h2
  have a3 := visit_ev e false
  unfold chkF
  cases g1 : decide (dp e > 24) with
  | true =>
    have b1 : decide ((dp e : Int) > 24) = true := by simp at g1 ⊢; omega
    refine enter1 Tryz.func108 Tryz.ntmps108 rfl rfl fun w0 F0 O => ?_
    repeat' (first | refine zS rfl ?_ | refine qA ?_ | refine qB rfl ?_ | refine qD ?_ | refine qF ?_ | refine qP rfl rfl rfl rfl rfl rfl b197 (a1) ?_ | refine zT rfl ?_ | refine qL rfl rfl ?_ | exact zD)
  | false =>
    have b1 : decide ((dp e : Int) > 24) = false := by simp at g1 ⊢; omega
    cases g2 : decide (nd e > 300) with
    | true =>
      have b2 : decide ((nd e : Int) > 300) = true := by simp at g2 ⊢; omega
      refine enter1 Tryz.func108 Tryz.ntmps108 rfl rfl fun w0 F0 O => ?_
      repeat' (first | refine zS rfl ?_ | refine qA ?_ | refine qB rfl ?_ | refine qD ?_ | refine qF ?_ | refine qP rfl rfl rfl rfl rfl rfl b197 (a1) ?_ | refine qP rfl rfl rfl rfl rfl rfl b198 (a2) ?_ | refine zT rfl ?_ | refine zU rfl ?_ | refine qL rfl rfl ?_ | exact zD)
    | false =>
      have b2 : decide ((nd e : Int) > 300) = false := by simp at g2 ⊢; omega
      refine enter1 Tryz.func108 Tryz.ntmps108 rfl rfl fun w0 F0 O => ?_
      repeat' (first | refine zS rfl ?_ | refine qA ?_ | refine qB rfl ?_ | refine qD ?_ | refine qE ?_ | refine qF ?_ | refine qG ?_ | refine qP rfl rfl rfl rfl rfl rfl b197 (a1) ?_ | refine qP rfl rfl rfl rfl rfl rfl b198 (a2) ?_ | refine qP rfl rfl rfl rfl rfl rfl b199 (a3) ?_ | refine zU rfl ?_ | refine qL rfl rfl ?_ | exact zD)
theorem rcheck_ev (e : Ex) (h1 : dp e ≤ 1000000) (h2 : nd e ≤ 1000000) : Ev E 153 [encE e] (.d (.int (chkF e))) := by
  have a1 := rdepth_ev e h1
  have a2 := rsizeE_ev e h2
  have a3 := rvisit_ev e false
  unfold chkF
  cases g1 : decide (dp e > 24) with
  | true =>
    have b1 : decide ((dp e : Int) > 24) = true := by simp at g1 ⊢; omega
    refine enter1 Tryz.func153 Tryz.ntmps153 rfl rfl fun w0 F0 O => ?_
    repeat' (first | refine zS rfl ?_ | refine qA ?_ | refine qB rfl ?_ | refine qD ?_ | refine qP rfl rfl rfl rfl rfl rfl b240 (a1) ?_ | refine zT rfl ?_ | refine qL rfl rfl ?_ | exact zD)
  | false =>
    have b1 : decide ((dp e : Int) > 24) = false := by simp at g1 ⊢; omega
    cases g2 : decide (nd e > 300) with
    | true =>
      have b2 : decide ((nd e : Int) > 300) = true := by simp at g2 ⊢; omega
      refine enter1 Tryz.func153 Tryz.ntmps153 rfl rfl fun w0 F0 O => ?_
      repeat' (first | refine zS rfl ?_ | refine qA ?_ | refine qB rfl ?_ | refine qD ?_ | refine qE ?_ | refine qP rfl rfl rfl rfl rfl rfl b240 (a1) ?_ | refine qP rfl rfl rfl rfl rfl rfl b241 (a2) ?_ | refine zT rfl ?_ | refine zU rfl ?_ | refine qL rfl rfl ?_ | exact zD)
    | false =>
      have b2 : decide ((nd e : Int) > 300) = false := by simp at g2 ⊢; omega
      refine enter1 Tryz.func153 Tryz.ntmps153 rfl rfl fun w0 F0 O => ?_
      repeat' (first | refine zS rfl ?_ | refine qA ?_ | refine qB rfl ?_ | refine qD ?_ | refine qE ?_ | refine qP rfl rfl rfl rfl rfl rfl b240 (a1) ?_ | refine qP rfl rfl rfl rfl rfl rfl b241 (a2) ?_ | refine qP rfl rfl rfl rfl rfl rfl b242 (a3) ?_ | refine zU rfl ?_ | refine qL rfl rfl ?_ | exact zD)
end Go.Proofs.YtmfjfclpdmpncaaGreatDoor

/- Expressions as canonical text: what both texts write; constants and signs. Conditions: a valid constant. -/
namespace Go.Proofs.YtmfjfclpdmpncaaGreatDoor
set_option maxRecDepth 4000
open Go Go.Abs Go.Val Go.RowKit
attribute [local irreducible] go SGo HasBody Ev ExtEv EvO EvS

def cstT (v : V) : List UInt8 :=
  bif v.k == 1 then (bif v.n == 1 then [84, 82, 85, 69] else [70, 65, 76, 83, 69]) else
  bif v.k == 2 then (bif decide (v.n < 0) then [40] ++ Lib.itoa v.n ++ [41] else Lib.itoa v.n) else
  bif v.k == 4 then txt v else [78, 85, 76, 76]
def sgT (op : Int) : List UInt8 :=
  bif op == 7 then [43] else bif op == 8 then [45] else bif op == 9 then [42] else bif op == 10 then [47] else bif op == 11 then [37] else bif op == 12 then [61] else
  bif op == 13 then [60, 62] else bif op == 14 then [60] else bif op == 15 then [60, 61] else bif op == 16 then [62] else bif op == 17 then [62, 61] else
  bif op == 18 then [65, 78, 68] else bif op == 19 then [79, 82] else [73, 78]
def oprF (op : Int) : Bool := decide (op ≥ 5) && decide (op ≤ 21)
theorem txt_4 {v : V} (h : constF v = true) (h4 : v.k = 4) : (txt v).length ≤ 202 := by
  obtain ⟨k, n, d, s, l⟩ := v
  simp only [V.k] at h4
  subst h4
  have hok : Val.okV (.mk 4 n d s l) = true := by simpa [constF, blankF, V.k] using h
  have h4 := okV_4 hok
  have hl2 := dbl_len s.data.toList
  have hsl : s.data.toList.length = s.size := by simp
  have : txt (.mk 4 n d s l) = [39] ++ dbl s.data.toList ++ [39] := by simp only [txt, hok]; rfl
  rw [this]
  simp only [List.length_append, List.length_cons, List.length_nil]
  omega
theorem cst_len {v : V} (h : constF v = true) (hn : inR .i64 v.n) : (cstT v).length ≤ 202 := by
  have h1 := itoa_len hn
  unfold cstT
  cases h4 : v.k == 4 with
  | true =>
    have h4' : v.k = 4 := by simpa using h4
    have := txt_4 h h4'
    simp only [h4', cond_true]
    simp
    exact this
  | false =>
    cases v.k == 1 <;> cases v.k == 2 <;> cases v.n == 1 <;> cases decide (v.n < 0) <;> simp only [cond_true, cond_false, List.length_append, List.length_cons, List.length_nil] <;> omega
theorem fconst_ev (v : V) (h : constF v = true) : Ev E 200 [enc v] (.d (.str (bs (cstT v)))) := Ev.fit fun hfit => by
  obtain ⟨-, hn, -⟩ := fit_enc (hfit (enc v) (by simp))
  have h1 := itoa_ev v.n
  have ln := itoa_len hn
  have z1 : (⟨(Lib.itoa v.n).toArray⟩ : ByteArray).size ≤ 21 := ln
  have z2 : (⟨#[40]⟩ : ByteArray).size = 1 := rfl
  have z3 : (⟨#[41]⟩ : ByteArray).size = 1 := rfl
  cases h4 : v.k == 4 with
  | true =>
    have h4' : v.k = 4 := by simpa using h4
    have h2 := txt_ev v (by have := txt_4 h h4'; omega)
    have e : cstT v = txt v := by simp [cstT, h4']
    have g1 : (v.k == 1) = false := by rw [h4']; rfl
    have g2 : (v.k == 2) = false := by rw [h4']; rfl
    rw [e]
    refine enter1 Tryz.func200 Tryz.ntmps200 rfl rfl fun w0 F0 O => ?_
    repeat' (first | refine zS rfl ?_ | refine qA ?_ | refine qB rfl ?_ | refine qC (by kernel_rfl) ?_ | refine qD ?_ | refine qE ?_ | refine qF ?_ | refine qG ?_ | refine qH rfl ?_ | refine qP rfl rfl rfl rfl rfl rfl b288 (h2) ?_ | refine zT rfl ?_ | refine zU rfl ?_ | refine qL rfl rfl ?_ | refine qM rfl rfl rfl ?_ | refine qO rfl rfl rfl ?_ | refine zX rfl rfl rfl rfl ?_ | refine zW rfl rfl rfl rfl ?_ | (refine qY rfl rfl rfl rfl ?_ ?_ <;> intro _) | exact zD | exact zL)
  | false =>
    refine enter1 Tryz.func200 Tryz.ntmps200 rfl rfl fun w0 F0 O => ?_
    repeat' (first | refine zS rfl ?_ | refine qA ?_ | refine qB rfl ?_ | refine qC (by kernel_rfl) ?_ | refine qD ?_ | refine qE ?_ | refine qF ?_ | refine qG ?_ | refine qH rfl ?_ | refine qP rfl rfl rfl rfl rfl rfl b211 (h1) ?_ | refine zT rfl ?_ | refine zU rfl ?_ | refine qL rfl rfl ?_ | refine qM rfl rfl rfl ?_ | refine qO rfl rfl rfl ?_ | refine zX rfl rfl rfl rfl ?_ | refine zW rfl rfl rfl rfl ?_ | (refine qY rfl rfl rfl rfl ?_ ?_ <;> intro _) | (refine qV rfl ?_ ?_ <;> intro _) | exact zD | exact zL)
    all_goals (refine congrArg D.str ?_; simp_all [cstT, Bool.cond_eq_ite]; first | rfl | (rw [if_neg (by omega)]; first | done | rfl))
theorem digits_ev (n : Int) (h : Val.okV (vInt n) = true) : Ev E 297 [.int n] (.d (.str (bs (Lib.itoa n)))) := Ev.fit fun hfit => by
  have hn := (hfit (.int n) (by simp)).int
  have ln := itoa_len hn
  have h1 := rint_ev n
  have e : txt (vInt n) = Lib.itoa n := by unfold vInt at h ⊢; simp only [txt, h]; rfl
  have h2 := rtxt_ev (vInt n) (by rw [e]; omega)
  rw [e] at h2
  refine enter1 Tryz.func297 Tryz.ntmps297 rfl rfl fun w0 F0 O => ?_
  repeat' (first | refine zS rfl ?_ | refine qA ?_ | refine qB rfl ?_ | refine qC (by kernel_rfl) ?_ | refine qD ?_ | refine qE ?_ | refine qF ?_ | refine qG ?_ | refine qH rfl ?_ | refine qP rfl rfl rfl rfl rfl rfl b307 (h1) ?_ | refine qP rfl rfl rfl rfl rfl rfl b298 (h2) ?_ | refine zT rfl ?_ | refine zU rfl ?_ | refine qL rfl rfl ?_ | refine qM rfl rfl rfl ?_ | refine qO rfl rfl rfl ?_ | refine zX rfl rfl rfl rfl ?_ | refine zW rfl rfl rfl rfl ?_ | (refine qY rfl rfl rfl rfl ?_ ?_ <;> intro _) | exact zD | exact zL)
theorem vInt_ok {v : V} (h : constF v = true) (hk : v.k = 2) : Val.okV (vInt v.n) = true := by
  obtain ⟨k, n, d, s, l⟩ := v
  simp only [V.k] at hk
  subst hk
  have hok : Val.okV (.mk 2 n d s l) = true := by simpa [constF, blankF, V.k] using h
  unfold Val.okV at hok ⊢
  rw [okN_flat 8 2 n d s l (by omega) (by omega)] at hok
  unfold vInt
  rw [okN_flat 8 2 _ _ _ _ (by omega) (by omega)]
  simp only [okFlat, V.k, V.n, V.d, V.s, V.l] at hok ⊢
  simp_all
  exact beq_self_eq_true ByteArray.empty.toList
theorem rconst_ev (v : V) (h : constF v = true) : Ev E 218 [enc v] (.d (.str (bs (cstT v)))) := Ev.fit fun hfit => by
  obtain ⟨-, hn, -⟩ := fit_enc (hfit (enc v) (by simp))
  have ln := itoa_len hn
  have z1 : (bs (Lib.itoa v.n)).size ≤ 21 := by rw [bs_size]; exact ln
  have z2 : (⟨#[40]⟩ : ByteArray).size = 1 := rfl
  have z3 : (⟨#[41]⟩ : ByteArray).size = 1 := rfl
  have hk : v.k = 0 ∨ v.k = 1 ∨ v.k = 2 ∨ v.k = 4 := by
    have : blankF v = true ∨ ((v.k = 1 ∨ v.k = 2 ∨ v.k = 4) ∧ Val.okV v = true) := by simpa [constF] using h
    rcases this with h | h
    · unfold blankF at h
      simp at h
      omega
    · omega
  rcases hk with hk | hk | hk | hk
  · have e : cstT v = [78, 85, 76, 76] := by simp [cstT, hk]
    have g : (v.k == 0) = true := by rw [hk]; rfl
    rw [e]
    refine enter1 Tryz.func218 Tryz.ntmps218 rfl rfl fun w0 F0 O => ?_
    repeat' (first | refine zS rfl ?_ | refine qA ?_ | refine qB rfl ?_ | refine qC (by kernel_rfl) ?_ | refine qD ?_ | refine qE ?_ | refine qF ?_ | refine qG ?_ | refine qH rfl ?_ | refine zT rfl ?_ | refine zU rfl ?_ | refine qL rfl rfl ?_ | refine qM rfl rfl rfl ?_ | refine qO rfl rfl rfl ?_ | refine zX rfl rfl rfl rfl ?_ | refine zW rfl rfl rfl rfl ?_ | (refine qY rfl rfl rfl rfl ?_ ?_ <;> intro _) | exact zD | exact zL)
  · have g : (v.k == 0) = false := by rw [hk]; rfl
    have g1 : (v.k == 1) = true := by rw [hk]; rfl
    refine enter1 Tryz.func218 Tryz.ntmps218 rfl rfl fun w0 F0 O => ?_
    repeat' (first | refine zS rfl ?_ | refine qA ?_ | refine qB rfl ?_ | refine qC (by kernel_rfl) ?_ | refine qD ?_ | refine qE ?_ | refine qF ?_ | refine qG ?_ | refine qH rfl ?_ | refine zT rfl ?_ | refine zU rfl ?_ | refine qL rfl rfl ?_ | refine qM rfl rfl rfl ?_ | refine qO rfl rfl rfl ?_ | refine zX rfl rfl rfl rfl ?_ | refine zW rfl rfl rfl rfl ?_ | (refine qY rfl rfl rfl rfl ?_ ?_ <;> intro _) | (refine qV rfl ?_ ?_ <;> intro _) | exact zD | exact zL)
    all_goals (refine congrArg D.str ?_; simp_all [cstT, Bool.cond_eq_ite]; rfl)
  · have g : (v.k == 0) = false := by rw [hk]; rfl
    have g1 : (v.k == 1) = false := by rw [hk]; rfl
    have g2 : (v.k == 2) = true := by rw [hk]; rfl
    have h1 := digits_ev v.n (vInt_ok h hk)
    refine enter1 Tryz.func218 Tryz.ntmps218 rfl rfl fun w0 F0 O => ?_
    repeat' (first | refine zS rfl ?_ | refine qA ?_ | refine qB rfl ?_ | refine qC (by kernel_rfl) ?_ | refine qD ?_ | refine qE ?_ | refine qF ?_ | refine qG ?_ | refine qH rfl ?_ | refine qP rfl rfl rfl rfl rfl rfl b297 (h1) ?_ | refine zT rfl ?_ | refine zU rfl ?_ | refine qL rfl rfl ?_ | refine qM rfl rfl rfl ?_ | refine qO rfl rfl rfl ?_ | refine zX rfl rfl rfl rfl ?_ | refine zW rfl rfl rfl rfl ?_ | (refine qY rfl rfl rfl rfl ?_ ?_ <;> intro _) | (refine qV rfl ?_ ?_ <;> intro _) | exact zD | exact zL)
    all_goals (refine congrArg D.str ?_; simp_all [cstT, Bool.cond_eq_ite]; first | rfl | (rw [if_neg (by omega)]; first | done | rfl))
  · have g : (v.k == 0) = false := by rw [hk]; rfl
    have g1 : (v.k == 1) = false := by rw [hk]; rfl
    have g2 : (v.k == 2) = false := by rw [hk]; rfl
    have h1 := rtxt_ev v (by have := txt_4 h hk; omega)
    have e : cstT v = txt v := by simp [cstT, hk]
    rw [e]
    refine enter1 Tryz.func218 Tryz.ntmps218 rfl rfl fun w0 F0 O => ?_
    repeat' (first | refine zS rfl ?_ | refine qA ?_ | refine qB rfl ?_ | refine qC (by kernel_rfl) ?_ | refine qD ?_ | refine qE ?_ | refine qF ?_ | refine qG ?_ | refine qH rfl ?_ | refine qP rfl rfl rfl rfl rfl rfl b298 (h1) ?_ | refine zT rfl ?_ | refine zU rfl ?_ | refine qL rfl rfl ?_ | refine qM rfl rfl rfl ?_ | refine qO rfl rfl rfl ?_ | refine zX rfl rfl rfl rfl ?_ | refine zW rfl rfl rfl rfl ?_ | (refine qY rfl rfl rfl rfl ?_ ?_ <;> intro _) | exact zD | exact zL)
theorem sign_ev (op : Int) : Ev E 203 [.int op] (.d (.str (bs (sgT op)))) := by
  refine enter1 Tryz.func203 Tryz.ntmps203 rfl rfl fun w0 F0 O => ?_
  repeat' (first | refine zS rfl ?_ | refine qA ?_ | refine qB rfl ?_ | refine qC (by kernel_rfl) ?_ | refine qD ?_ | refine qE ?_ | refine qF ?_ | refine qG ?_ | refine qH rfl ?_ | refine zT rfl ?_ | refine zU rfl ?_ | refine qL rfl rfl ?_ | refine qM rfl rfl rfl ?_ | refine qO rfl rfl rfl ?_ | refine zX rfl rfl rfl rfl ?_ | refine zW rfl rfl rfl rfl ?_ | (refine qY rfl rfl rfl rfl ?_ ?_ <;> intro _) | (refine qV rfl ?_ ?_ <;> intro _) | exact zD | exact zL)
  all_goals (refine congrArg D.str ?_; simp_all [sgT, Bool.cond_eq_ite]; rfl)
theorem rsignE_ev (op : Int) (h : 7 ≤ op ∧ op ≤ 20) : Ev E 221 [.int op] (.d (.str (bs (sgT op)))) := by
  refine enter1 Tryz.func221 Tryz.ntmps221 rfl rfl fun w0 F0 O => ?_
  repeat' (first | refine zS rfl ?_ | refine qA ?_ | refine qB rfl ?_ | refine qC (by kernel_rfl) ?_ | refine qD ?_ | refine qE ?_ | refine qF ?_ | refine qG ?_ | refine qH rfl ?_ | refine zT rfl ?_ | refine zU rfl ?_ | refine qL rfl rfl ?_ | refine qM rfl rfl rfl ?_ | refine qO rfl rfl rfl ?_ | refine zX rfl rfl rfl rfl ?_ | refine zW rfl rfl rfl rfl ?_ | (refine qY rfl rfl rfl rfl ?_ ?_ <;> intro _) | (refine qV rfl ?_ ?_ <;> intro _) | exact zD | exact zL)
  all_goals (first | (exfalso; simp_all; omega) | (refine congrArg D.str ?_; simp_all [sgT, Bool.cond_eq_ite]; rfl))
theorem sg_len (op : Int) : (sgT op).length ≤ 3 := by
  unfold sgT
  repeat' (rw [Bool.cond_eq_ite]; split)
  all_goals simp
theorem roperator_ev (op : Int) : Ev E 299 [.int op] (.d (.bool (oprF op))) := by
  refine enter1 Tryz.func299 Tryz.ntmps299 rfl rfl fun w0 F0 O => ?_
  repeat' (first | refine zS rfl ?_ | refine qA ?_ | refine qB rfl ?_ | refine qC (by kernel_rfl) ?_ | refine qD ?_ | refine qE ?_ | refine qF ?_ | refine qG ?_ | refine qH rfl ?_ | refine zT rfl ?_ | refine zU rfl ?_ | refine qL rfl rfl ?_ | refine qM rfl rfl rfl ?_ | refine qO rfl rfl rfl ?_ | refine zX rfl rfl rfl rfl ?_ | refine zW rfl rfl rfl rfl ?_ | (refine qY rfl rfl rfl rfl ?_ ?_ <;> intro _) | (refine qV rfl ?_ ?_ <;> intro _) | exact zD | exact zL)
  all_goals (refine congrArg D.bool ?_; simp_all [oprF] <;> first | omega | (rw [Bool.eq_iff_iff]; simp; omega))
end Go.Proofs.YtmfjfclpdmpncaaGreatDoor

/- Expressions as canonical text, by both texts. Conditions: a valid expression of at most 1000 parts with names of at most 200 bytes. -/
namespace Go.Proofs.YtmfjfclpdmpncaaGreatDoor
set_option maxRecDepth 4000
open Go Go.Abs Go.Val Go.RowKit
attribute [local irreducible] go SGo HasBody Ev ExtEv EvO EvS

def txN (op : Int) (v : V) (nm : List UInt8) (ds : Bool) (ts os : List (List UInt8)) : List UInt8 :=
  bif op == 1 then cstT v else
  bif op == 2 then nm else
  bif op == 3 then os.getD 0 [] ++ [46] ++ nm else
  bif op == 4 then os.getD 0 [] ++ [58] ++ nm else
  bif op == 5 then [78, 79, 84, 32] ++ os.getD 0 [] else
  bif op == 6 then [45] ++ os.getD 0 [] else
  bif op == 21 then os.getD 0 [] ++ [32, 73, 83, 32, 78, 85, 76, 76] else
  bif op == 22 then [91] ++ Lib.join ts [44, 32] ++ [93] else
  bif op == 23 then nm ++ [40] ++ Lib.join ts [44, 32] ++ [41] else
  bif op == 24 then (bif ts.isEmpty then nm ++ [40, 42, 41] else bif ds then nm ++ [40, 68, 73, 83, 84, 73, 78, 67, 84, 32] ++ ts.getD 0 [] ++ [41] else nm ++ [40] ++ ts.getD 0 [] ++ [41]) else
  os.getD 0 [] ++ [32] ++ sgT op ++ [32] ++ os.getD 1 []
mutual
def txE : Ex → List UInt8
  | .mk op v nm ds ks => txN op v nm.data.toList ds (txL ks) (opL ks)
def txL : List Ex → List (List UInt8)
  | [] => []
  | x :: r => txE x :: txL r
def opL : List Ex → List (List UInt8)
  | [] => []
  | x :: r => (bif oprF x.op then [40] ++ txE x ++ [41] else txE x) :: opL r
end
def opT (x : Ex) : List UInt8 := bif oprF x.op then [40] ++ txE x ++ [41] else txE x
theorem txL_map (l : List Ex) : txL l = l.map txE := by
  induction l with
  | nil => simp [txL]
  | cons v r ih => simp [txL, ih]
theorem opL_map (l : List Ex) : opL l = l.map opT := by
  induction l with
  | nil => simp [opL]
  | cons v r ih => simp [opL, ih, opT]
mutual
def alE (P : Ex → Prop) : Ex → Prop
  | .mk op v nm ds ks => P (.mk op v nm ds ks) ∧ alL P ks
def alL (P : Ex → Prop) : List Ex → Prop
  | [] => True
  | x :: r => alE P x ∧ alL P r
end
theorem alL_mem {P : Ex → Prop} : ∀ {l : List Ex}, alL P l → ∀ x ∈ l, alE P x
  | [], _, x, hx => by simp at hx
  | y :: r, h, x, hx => by
    rcases List.mem_cons.1 hx with e | e
    · rw [e]; exact h.1
    · exact alL_mem h.2 x e
theorem alL_of {P : Ex → Prop} : ∀ {l : List Ex}, (∀ x ∈ l, alE P x) → alL P l
  | [], _ => trivial
  | y :: r, h => ⟨h y (by simp), alL_of fun x hx => h x (by simp [hx])⟩
theorem alE_imp {P Q : Ex → Prop} (hpq : ∀ e, P e → Q e) : ∀ e, alE P e → alE Q e :=
  xind (P := fun e => alE P e → alE Q e) fun op v nm ds ks ih h => ⟨hpq _ h.1, alL_of fun x hx => ih x hx (alL_mem h.2 x hx)⟩
theorem alE_and {P Q : Ex → Prop} : ∀ e, alE P e → alE Q e → alE (fun e => P e ∧ Q e) e :=
  xind (P := fun e => alE P e → alE Q e → alE (fun e => P e ∧ Q e) e) fun op v nm ds ks ih h h' => ⟨⟨h.1, h'.1⟩, alL_of fun x hx => ih x hx (alL_mem h.2 x hx) (alL_mem h'.2 x hx)⟩
/-- What the check grants of every part. -/
def okN (e : Ex) : Prop := 1 ≤ e.op ∧ e.op ≤ 24 ∧ opdF e = true ∧ (e.op = 1 → constF e.v = true)
theorem visM_zero : ∀ {l : List Ex} {w : Bool}, visM l w = 0 → ∀ x ∈ l, visF x w = 0
  | [], _, _, x, hx => by simp at hx
  | y :: r, w, h, x, hx => by
    rw [visM] at h
    cases hz : visF y w != 0 with
    | true =>
      rw [hz] at h
      simp at hz
      exact absurd h hz
    | false =>
      rw [hz] at h
      rcases List.mem_cons.1 hx with e | e
      · rw [e]; simpa using hz
      · exact visM_zero h x e
theorem vis_ok : ∀ (e : Ex) (w : Bool), visF e w = 0 → alE okN e := by
  refine xind (P := fun e => ∀ (w : Bool), visF e w = 0 → alE okN e) fun op v nm ds ks ih w h => ?_
  rw [visF] at h
  cases hs : selfF (.mk op v nm ds ks) w != 0 with
  | true =>
    rw [hs] at h
    simp at hs
    exact absurd h hs
  | false =>
    rw [hs] at h
    refine ⟨?_, alL_of fun x hx => ih x hx _ (visM_zero h x hx)⟩
    have hs' : selfF (.mk op v nm ds ks) w = 0 := by simpa using hs
    unfold selfF at hs'
    cases h1 : (decide ((Ex.mk op v nm ds ks).op < 1) || decide ((Ex.mk op v nm ds ks).op > 24)) || (!opdF (.mk op v nm ds ks) || !spareF (.mk op v nm ds ks)) with
    | true => rw [h1] at hs'; simp at hs'
    | false =>
      rw [h1] at hs'
      simp only [Bool.or_eq_false_iff, decide_eq_false_iff_not, Bool.not_eq_false'] at h1
      refine ⟨by omega, by omega, h1.2.1, fun h2 => ?_⟩
      cases h3 : constF (Ex.mk op v nm ds ks).v with
      | true => rfl
      | false =>
        have h4 : ((Ex.mk op v nm ds ks).op == 1 && !constF (Ex.mk op v nm ds ks).v) = true := by rw [h2, h3]; rfl
        rw [h4] at hs'
        simp at hs'
/-- Sizes of texts. -/
def smN (e : Ex) : Prop := okN e ∧ e.nm.size ≤ 200 ∧ inR .i64 e.v.n
theorem join_le (sep : List UInt8) (hs : sep.length ≤ 2) : ∀ (xs : List (List UInt8)), (Lib.join xs sep).length ≤ (xs.map fun x => x.length + 2).sum
  | [] => Nat.le_refl _
  | a :: r => by
    rw [Lib.join_cons, List.length_append]
    have key : ∀ q : List (List UInt8), (Lib.joinTail sep q).length ≤ (q.map fun x => x.length + 2).sum := by
      intro q
      induction q with
      | nil => exact Nat.le_refl _
      | cons b q ih =>
        have hc : Lib.joinTail sep (b :: q) = (sep ++ b) ++ Lib.joinTail sep q := rfl
        rw [hc, List.length_append, List.length_append, List.map_cons, List.sum_cons]
        omega
    have := key r
    rw [List.map_cons, List.sum_cons]
    omega
theorem opT_len (x : Ex) : (opT x).length ≤ (txE x).length + 2 := by
  unfold opT
  cases oprF x.op <;> simp only [cond_true, cond_false, List.length_append, List.length_cons, List.length_nil] <;> omega
theorem tx_le : ∀ e : Ex, alE smN e → (txE e).length + 4 ≤ 1000 * nd e := by
  refine xind (P := fun e => alE smN e → (txE e).length + 4 ≤ 1000 * nd e) fun op v nm ds ks ih h => ?_
  obtain ⟨⟨⟨h1, h2, h3, h4⟩, h5, h6⟩, -⟩ := h.1, h.2
  have hk := alL_mem h.2
  have hnl : nm.data.toList.length ≤ 200 := by simpa [Ex.nm] using h5
  have hsum : (ks.map fun x => (txE x).length + 4).sum ≤ 1000 * ndL ks := by
    clear h h1 h2 h3 h4 h5 h6
    induction ks with
    | nil => exact Nat.zero_le _
    | cons a r ihr =>
      have := ih a (by simp) (hk a (by simp))
      have := ihr (fun x hx => ih x (by simp [hx])) (fun x hx => hk x (by simp [hx]))
      rw [List.map_cons, List.sum_cons, ndL]
      omega
  have hj : (Lib.join (txL ks) [44, 32]).length ≤ 1000 * ndL ks := by
    refine Nat.le_trans (join_le [44, 32] (by simp) _) (Nat.le_trans ?_ hsum)
    rw [txL_map]
    clear h h1 h2 h3 h4 h5 h6 hsum ih hk
    induction ks with
    | nil => exact Nat.le_refl _
    | cons a r ihr => simp only [List.map_cons, List.sum_cons]; omega
  have hgt : ∀ j, ((txL ks).getD j []).length ≤ 1000 * ndL ks := by
    intro j
    rw [txL_map, List.getD_eq_getElem?_getD, List.getElem?_map]
    cases hx : ks[j]? with
    | none => simp
    | some x =>
      have hm := List.mem_of_getElem? hx
      have h1 := ih x hm (hk x hm)
      have h2 := ndL_mem hm
      simp only [Option.map_some, Option.getD_some]
      omega
  have h01 : ((opL ks).getD 0 []).length + ((opL ks).getD 1 []).length ≤ 1000 * ndL ks := by
    rw [opL_map]
    match ks, ih, hk with
    | [], _, _ => simp
    | [a], ih, hk =>
      have := ih a (by simp) (hk a (by simp))
      have := opT_len a
      simp [ndL]
      omega
    | a :: b :: r, ih, hk =>
      have := ih a (by simp) (hk a (by simp))
      have := ih b (by simp) (hk b (by simp))
      have := opT_len a
      have := opT_len b
      simp [ndL]
      omega
  have hcst : op = 1 → (cstT v).length ≤ 202 := fun e => cst_len (h4 e) h6
  have hsg := sg_len op
  have ht0 := hgt 0
  rw [nd, txE, txN]
  repeat' (rw [Bool.cond_eq_ite]; split)
  all_goals (try simp only [List.length_append, List.length_cons, List.length_nil])
  all_goals first | omega | (have := hcst (by simpa using ‹(op == 1) = true›); omega)
end Go.Proofs.YtmfjfclpdmpncaaGreatDoor

/- Lists of expressions and operands as text, given the expressions' own texts, by both texts. Conditions: a text of at most 2^30 bytes. -/
namespace Go.Proofs.YtmfjfclpdmpncaaGreatDoor
set_option maxRecDepth 4000
open Go Go.Abs Go.Val Go.RowKit
attribute [local irreducible] go SGo HasBody Ev ExtEv EvO EvS

theorem otake_at {l : List Ex} {i : Nat} {x : Ex} (h : l[i]? = some x) : strD ((l.take (i + 1)).map txE) = strD ((l.take i).map txE) ++ [.str (bs (txE x))] := by
  have hi := (List.getElem?_eq_some_iff.1 h).1
  rw [List.take_succ_eq_append_getElem hi]
  rw [List.getElem?_eq_getElem hi] at h
  cases h
  simp only [strD, List.map_append, List.map_cons, List.map_nil]
structure STe (l : List Ex) where
  i : Nat
  hi : i ≤ l.length
theorem exprs_ev (l : List Ex) (hT : ∀ x ∈ l, Ev E 109 [encE x] (.d (.str (bs (txE x))))) (hn : l.length ≤ 1000000) (hlen : (Lib.join (l.map txE) [44, 32]).length ≤ 1073741824) :
    Ev E 202 [.sl (encEL l)] (.d (.str (bs (Lib.join (l.map txE) [44, 32])))) := by
  have hle : (encEL l).length = l.length := encEL_len l
  have e1 : (l.map fun x => bs (txE x)).map D.str = strD (l.map txE) := by simp [strD]
  have e2 : (l.map fun x => bs (txE x)).map (·.data.toList) = l.map txE := by simp [bs_data]
  have hj := join_ev (l.map fun x => bs (txE x)) (bs [44, 32]) (by simp; omega) (by rw [e2, bs_data]; omega)
  rw [e1, e2, bs_data] at hj
  refine enter1 Tryz.func202 Tryz.ntmps202 rfl rfl fun w0 F0 O => ?_
  repeat' (first | refine zS rfl ?_ | refine qA ?_ | refine qB rfl ?_ | refine qC (by kernel_rfl) ?_ | refine qD ?_ | refine qE ?_ | refine qF ?_ | refine qG ?_ | refine qH rfl ?_ | refine zT rfl ?_ | refine zU rfl ?_ | refine qL rfl rfl ?_ | refine qM rfl rfl rfl ?_ | refine qO rfl rfl rfl ?_ | refine zX rfl rfl rfl rfl ?_ | refine zW rfl rfl rfl rfl ?_ | (refine qY rfl rfl rfl rfl ?_ ?_ <;> intro _) | exact zD | exact zL)
  refine go_loop_ (α := STe l) (fun p => ⟨[(3, rowX (strD ((l.take p.i).map txE))), (6, .d (.sl (encEL l))), (7, .d (.int (encEL l).length)), (8, .d (.int p.i))], rowO 9 1 (strD ((l.take p.i).map txE))⟩) (fun p => l.length - p.i) ⟨0, by omega⟩ (by rw [List.take_zero]; exact (zle 0)) ?_
  rintro ⟨i, hi⟩
  dsimp only
  rcases Nat.lt_or_ge i l.length with hlt | hge
  · have g1 : decide ((i : Int) < ((encEL l).length : Int)) = true := by rw [hle]; simpa using hlt
    have hx0 := List.getElem?_eq_getElem hlt
    generalize l[i] = x at hx0
    have hx : (encEL l)[(i : Int).toNat]? = some (encE x) := encEL_get (by rw [Int.toNat_natCast]; exact hx0)
    have ht := hT x (List.mem_of_getElem? hx0)
    have hta := otake_at hx0
    have hll : (strD ((l.take i).map txE)).length ≤ i := by simp [strD]; omega
    generalize strD ((l.take i).map txE) = out at *
    match out, hll with
    | [], hll =>
      dsimp only [rowX, rowO]
      repeat' (first | refine zS rfl ?_ | refine qA ?_ | refine qB rfl ?_ | refine qC (by kernel_rfl) ?_ | refine qD ?_ | refine qE ?_ | refine qF ?_ | refine qG ?_ | refine qH rfl ?_ | refine qI (encE x) rfl (guardX_ok rfl) rfl rfl rfl rfl rfl rfl (by first | omega | decide) hx ?_ | refine qP rfl rfl rfl rfl rfl rfl b109 (ht) ?_ | (refine qS rfl ⟨by simp, by simp [D.cells]; rfl, by (show (0 + 1) * 16 ≤ 140737488355328; omega), by (show 0 + 1 ≤ 9223372036854775807; omega)⟩ ?_) | refine zT rfl ?_ | refine zU rfl ?_ | refine qL rfl rfl ?_ | refine qM rfl rfl rfl ?_ | refine qO rfl rfl rfl ?_ | refine zX rfl rfl rfl rfl ?_ | refine zW rfl rfl rfl rfl ?_ | (refine qY rfl rfl rfl rfl ?_ ?_ <;> intro _) | exact zD | exact zL)
      refine go_stop ?_
      refine ⟨⟨i + 1, by omega⟩, by dsimp only; omega, ?_⟩
      dsimp only
      rw [hta]
      exact (zren [1])
    | a :: q, hll =>
      dsimp only [rowX, rowO]
      repeat' (first | refine zS rfl ?_ | refine qA ?_ | refine qB rfl ?_ | refine qC (by kernel_rfl) ?_ | refine qD ?_ | refine qE ?_ | refine qF ?_ | refine qG ?_ | refine qH rfl ?_ | refine qI (encE x) rfl (guardX_ok rfl) rfl rfl rfl rfl rfl rfl (by first | omega | decide) hx ?_ | refine qP rfl rfl rfl rfl rfl rfl b109 (ht) ?_ | (refine qS rfl ⟨by simp, by simp [D.cells]; rfl, by (show ((a :: q).length + 1) * 16 ≤ 140737488355328; omega), by (show (a :: q).length + 1 ≤ 9223372036854775807; omega)⟩ ?_) | refine zT rfl ?_ | refine zU rfl ?_ | refine qL rfl rfl ?_ | refine qM rfl rfl rfl ?_ | refine qO rfl rfl rfl ?_ | refine zX rfl rfl rfl rfl ?_ | refine zW rfl rfl rfl rfl ?_ | (refine qY rfl rfl rfl rfl ?_ ?_ <;> intro _) | exact zD | exact zL)
      refine go_stop ?_
      refine ⟨⟨i + 1, by omega⟩, by dsimp only; omega, ?_⟩
      dsimp only
      rw [hta]
      exact (zren [2])
  · have g1 : decide ((i : Int) < ((encEL l).length : Int)) = false := by rw [hle]; simp; omega
    rw [List.take_of_length_le hge]
    generalize strD (l.map txE) = out at *
    match out, hj with
    | [], hj =>
      dsimp only [rowX, rowO]
      repeat' (first | refine zS rfl ?_ | refine qA ?_ | refine qB rfl ?_ | refine qC (by kernel_rfl) ?_ | refine qD ?_ | refine qE ?_ | refine qF ?_ | refine qG ?_ | refine qH rfl ?_ | refine qP rfl rfl rfl rfl rfl rfl b57 (hj) ?_ | refine zT rfl ?_ | refine zU rfl ?_ | refine qL rfl rfl ?_ | refine qM rfl rfl rfl ?_ | refine qO rfl rfl rfl ?_ | refine zX rfl rfl rfl rfl ?_ | refine zW rfl rfl rfl rfl ?_ | (refine qY rfl rfl rfl rfl ?_ ?_ <;> intro _) | exact zD | exact zL)
    | a :: q, hj =>
      dsimp only [rowX, rowO]
      refine qA ?_
      refine go_frz 0 rfl ?_
      repeat' (first | refine zS rfl ?_ | refine qA ?_ | refine qB rfl ?_ | refine qC (by kernel_rfl) ?_ | refine qD ?_ | refine qE ?_ | refine qF ?_ | refine qG ?_ | refine qH rfl ?_ | refine qP rfl rfl rfl rfl rfl rfl b57 (hj) ?_ | refine zT rfl ?_ | refine zU rfl ?_ | refine qL rfl rfl ?_ | refine qM rfl rfl rfl ?_ | refine qO rfl rfl rfl ?_ | refine zX rfl rfl rfl rfl ?_ | refine zW rfl rfl rfl rfl ?_ | (refine qY rfl rfl rfl rfl ?_ ?_ <;> intro _) | exact zD | exact zL)
theorem list_ev' (l : List Ex) (hT : ∀ x ∈ l, Ev E 124 [encE x] (.d (.str (bs (txE x))))) (hlen : (Lib.join (l.map txE) [44, 32]).length ≤ 1073741824) :
    Ev E 220 [.sl (encEL l)] (.d (.str (bs (Lib.join (l.map txE) [44, 32])))) := Ev.fit fun hfit => by
  obtain ⟨hmax, -⟩ := fit_encEL (hfit (.sl (encEL l)) (by simp))
  have hle : (encEL l).length = l.length := encEL_len l
  have hml : (l.map txE).length = l.length := by simp
  have hsep : (⟨#[44, 32]⟩ : ByteArray).size = 2 := rfl
  refine enter1 Tryz.func220 Tryz.ntmps220 rfl rfl fun w0 F0 O => ?_
  repeat' (first | refine zS rfl ?_ | refine qA ?_ | refine qB rfl ?_ | refine qC (by kernel_rfl) ?_ | refine qD ?_ | refine qE ?_ | refine qF ?_ | refine qG ?_ | refine qH rfl ?_ | refine zT rfl ?_ | refine zU rfl ?_ | refine qL rfl rfl ?_ | refine qM rfl rfl rfl ?_ | refine qO rfl rfl rfl ?_ | refine zX rfl rfl rfl rfl ?_ | refine zW rfl rfl rfl rfl ?_ | (refine qY rfl rfl rfl rfl ?_ ?_ <;> intro _) | exact zD | exact zL)
  refine go_loop_ (α := SJ (l.map txE) [44, 32]) (fun p => ⟨[(0, .d (.sl (encEL l))), (3, .d (.str (bs p.s))), (4, .d (.int p.i))], []⟩) (fun p => l.length - p.i) ⟨0, [], by omega, fun _ => rfl, fun h => absurd rfl h⟩ ((zle 0)) ?_
  rintro ⟨i, s, hi, h0, h1⟩
  dsimp only
  rcases Nat.lt_or_ge i l.length with hlt | hge
  · have g1 : decide ((i : Int) < ((encEL l).length : Int)) = true := by rw [hle]; simpa using hlt
    have hx0 := List.getElem?_eq_getElem hlt
    generalize l[i] = x at hx0
    have hx : (encEL l)[(i : Int).toNat]? = some (encE x) := encEL_get (by rw [Int.toNat_natCast]; exact hx0)
    have hm : (l.map txE)[i]? = some (txE x) := by rw [List.getElem?_map, hx0]; rfl
    have ht := hT x (List.mem_of_getElem? hx0)
    by_cases hi0 : i = 0
    · subst hi0
      have hs0 := h0 rfl
      subst hs0
      have g2 : decide (((0 : Nat) : Int) > 0) = false := rfl
      have hl2 : (txE x).length ≤ 1073741824 := Nat.le_trans (join_len [44, 32] _ _ (List.mem_of_getElem? hm)) hlen
      have z1 : (bs (txE x)).size ≤ 1073741824 := by rw [bs_size]; exact hl2
      have z2 : (bs []).size = 0 := rfl
      repeat' (first | refine zS rfl ?_ | refine qA ?_ | refine qB rfl ?_ | refine qC (by kernel_rfl) ?_ | refine qD ?_ | refine qE ?_ | refine qF ?_ | refine qG ?_ | refine qH rfl ?_ | refine qI (encE x) rfl (guardX_ok rfl) rfl rfl rfl rfl rfl rfl (by first | omega | decide) hx ?_ | refine qP rfl rfl rfl rfl rfl rfl b124 (ht) ?_ | refine zT rfl ?_ | refine zU rfl ?_ | refine qL rfl rfl ?_ | refine qM rfl rfl rfl ?_ | refine qO rfl rfl rfl ?_ | refine zX rfl rfl rfl rfl ?_ | refine zW rfl rfl rfl rfl ?_ | (refine qY rfl rfl rfl rfl ?_ ?_ <;> intro _) | exact zD | exact zL)
      refine go_stop ?_
      rw [bs_append]
      exact ⟨⟨1, [] ++ txE x, by omega, fun h => by omega, fun _ => by have := drop_at hm; rw [List.drop_zero] at this; rw [List.nil_append]; conv => rhs; rw [this, Lib.join_cons]⟩, by dsimp only; omega, (zle 0)⟩
    · have g2 : decide ((i : Int) > 0) = true := by simp; omega
      have h1' := h1 hi0
      rw [joinTail_at hm] at h1'
      have hll : s.length + (2 + (txE x).length) ≤ 1073741824 := by
        have := congrArg List.length h1'
        simp only [List.length_append, List.length_cons, List.length_nil] at this
        omega
      have z1 : (bs (txE x)).size = (txE x).length := bs_size _
      have z2 : (bs s).size = s.length := bs_size _
      have z3 : (bs [44, 32]).size = 2 := rfl
      repeat' (first | refine zS rfl ?_ | refine qA ?_ | refine qB rfl ?_ | refine qC (by kernel_rfl) ?_ | refine qD ?_ | refine qE ?_ | refine qF ?_ | refine qG ?_ | refine qH rfl ?_ | refine qI (encE x) rfl (guardX_ok rfl) rfl rfl rfl rfl rfl rfl (by first | omega | decide) hx ?_ | refine qP rfl rfl rfl rfl rfl rfl b124 (ht) ?_ | refine zT rfl ?_ | refine zU rfl ?_ | refine qL rfl rfl ?_ | refine qM rfl rfl rfl ?_ | refine qO rfl rfl rfl ?_ | refine zX rfl rfl rfl rfl ?_ | refine zW rfl rfl rfl rfl ?_ | (refine qY rfl rfl rfl rfl ?_ ?_ <;> intro _) | exact zD | exact zL)
      refine go_stop ?_
      rw [show (⟨#[44, 32]⟩ : ByteArray) = bs [44, 32] from rfl, bs_append, bs_append]
      exact ⟨⟨i + 1, s ++ [44, 32] ++ txE x, by omega, fun h => by omega, fun _ => by rw [← h1']; simp only [List.append_assoc]⟩, by dsimp only; omega, (zle 0)⟩
  · have g1 : decide ((i : Int) < ((encEL l).length : Int)) = false := by rw [hle]; simp; omega
    have e : Lib.join (l.map txE) [44, 32] = s := by
      by_cases hi0 : i = 0
      · have : l = [] := List.eq_nil_of_length_eq_zero (by omega)
        rw [this, h0 hi0]
        rfl
      · rw [← h1 hi0, List.drop_eq_nil_of_le (by omega)]
        simp [Lib.joinTail]
    rw [e]
    repeat' (first | refine zS rfl ?_ | refine qA ?_ | refine qB rfl ?_ | refine qC (by kernel_rfl) ?_ | refine qD ?_ | refine qE ?_ | refine qF ?_ | refine qG ?_ | refine qH rfl ?_ | refine zT rfl ?_ | refine zU rfl ?_ | refine qL rfl rfl ?_ | refine qM rfl rfl rfl ?_ | refine qO rfl rfl rfl ?_ | refine zX rfl rfl rfl rfl ?_ | refine zW rfl rfl rfl rfl ?_ | (refine qY rfl rfl rfl rfl ?_ ?_ <;> intro _) | exact zD | exact zL)
theorem operand_ev (x : Ex) (hl : (txE x).length ≤ 1073741824) (h1 : Ev E 109 [encE x] (.d (.str (bs (txE x))))) : Ev E 201 [encE x] (.d (.str (bs (opT x)))) := by
  have z1 : (bs (txE x)).size = (txE x).length := bs_size _
  have z2 : (⟨#[40]⟩ : ByteArray).size = 1 := rfl
  have z3 : (⟨#[41]⟩ : ByteArray).size = 1 := rfl
  refine enter1 Tryz.func201 Tryz.ntmps201 rfl rfl fun w0 F0 O => ?_
  repeat' (first | refine zS rfl ?_ | refine qA ?_ | refine qB rfl ?_ | refine qC (by kernel_rfl) ?_ | refine qD ?_ | refine qE ?_ | refine qF ?_ | refine qG ?_ | refine qH rfl ?_ | refine qP rfl rfl rfl rfl rfl rfl b109 (h1) ?_ | refine zT rfl ?_ | refine zU rfl ?_ | refine qL rfl rfl ?_ | refine qM rfl rfl rfl ?_ | refine qO rfl rfl rfl ?_ | refine zX rfl rfl rfl rfl ?_ | refine zW rfl rfl rfl rfl ?_ | (refine qY rfl rfl rfl rfl ?_ ?_ <;> intro _) | (refine qV rfl ?_ ?_ <;> intro _) | exact zD | exact zL)
  all_goals (refine congrArg D.str ?_; simp_all [opT, oprF, Bool.cond_eq_ite]; first | done | rfl | (rw [if_neg (by omega)]; first | done | rfl))
theorem roperand_ev (x : Ex) (hl : (txE x).length ≤ 1073741824) (h1 : Ev E 124 [encE x] (.d (.str (bs (txE x))))) : Ev E 219 [encE x] (.d (.str (bs (opT x)))) := by
  have z1 : (bs (txE x)).size = (txE x).length := bs_size _
  have z2 : (⟨#[40]⟩ : ByteArray).size = 1 := rfl
  have z3 : (⟨#[41]⟩ : ByteArray).size = 1 := rfl
  have h2 := roperator_ev x.op
  refine enter1 Tryz.func219 Tryz.ntmps219 rfl rfl fun w0 F0 O => ?_
  repeat' (first | refine zS rfl ?_ | refine qA ?_ | refine qB rfl ?_ | refine qC (by kernel_rfl) ?_ | refine qD ?_ | refine qE ?_ | refine qF ?_ | refine qG ?_ | refine qH rfl ?_ | refine qP rfl rfl rfl rfl rfl rfl b124 (h1) ?_ | refine qP rfl rfl rfl rfl rfl rfl b299 (h2) ?_ | refine zT rfl ?_ | refine zU rfl ?_ | refine qL rfl rfl ?_ | refine qM rfl rfl rfl ?_ | refine qO rfl rfl rfl ?_ | refine zX rfl rfl rfl rfl ?_ | refine zW rfl rfl rfl rfl ?_ | (refine qY rfl rfl rfl rfl ?_ ?_ <;> intro _) | (refine qV rfl ?_ ?_ <;> intro _) | exact zD | exact zL)
  all_goals (refine congrArg D.str ?_; simp_all [opT, Bool.cond_eq_ite]; first | done | rfl | (rw [if_neg (by omega)]; first | done | rfl))
end Go.Proofs.YtmfjfclpdmpncaaGreatDoor

/- Expressions as canonical text, by both texts. Conditions: a valid expression of at most 1000 parts with names of at most 200 bytes. -/
namespace Go.Proofs.YtmfjfclpdmpncaaGreatDoor
set_option maxRecDepth 4000
open Go Go.Abs Go.Val Go.RowKit
attribute [local irreducible] go SGo HasBody Ev ExtEv EvO EvS

set_option maxHeartbeats 4000000 in
theorem expr_ev : ∀ e : Ex, alE smN e → nd e ≤ 1000 → Ev E 109 [encE e] (.d (.str (bs (txE e)))) := by
  refine xind (P := fun e => alE smN e → nd e ≤ 1000 → Ev E 109 [encE e] (.d (.str (bs (txE e))))) fun op v nm ds ks ih h hn => ?_
  obtain ⟨⟨⟨h1, h2, h3, h4⟩, h5, h6⟩, -⟩ := h.1, h.2
  have hk := alL_mem h.2
  rw [nd] at hn
  have hT : ∀ x ∈ ks, Ev E 109 [encE x] (.d (.str (bs (txE x)))) := fun x hx => ih x hx (hk x hx) (by have := ndL_mem hx; omega)
  have hZ : ∀ x ∈ ks, (txE x).length ≤ 1000000 := fun x hx => by
    have := tx_le x (hk x hx)
    have := ndL_mem hx
    omega
  have hO : ∀ x ∈ ks, Ev E 201 [encE x] (.d (.str (bs (opT x)))) := fun x hx => operand_ev x (by have := hZ x hx; omega) (hT x hx)
  have hOz : ∀ x ∈ ks, (bs (opT x)).size ≤ 1000002 := fun x hx => by
    rw [bs_size]
    have := opT_len x
    have := hZ x hx
    omega
  simp only [Ex.op] at h1 h2
  have h5' := h5
  replace h5 : nm.size ≤ 200 := h5
  have hnm : bs nm.data.toList = nm := bs_list nm
  have hkl : kn0 (.mk op v nm ds ks) = (ks.length : Int) := by unfold kn0; rw [kidsE_len]; rfl
  have hle := kidsE_len (.mk op v nm ds ks)
  have hks : (Ex.mk op v nm ds ks).ks = ks := rfl
  unfold opdF at h3
  rw [hkl] at h3
  simp only [Ex.op, Ex.nm, Ex.ds] at h3
  clear h hk ih hkl
  have hnn : ks.length ≤ ndL ks := by
    have key : ∀ l : List Ex, l.length ≤ ndL l := by
      intro l
      induction l with
      | nil => exact Nat.zero_le _
      | cons a r ihr => rw [ndL, List.length_cons, nd_eq]; omega
    exact key ks
  have hJ : (Lib.join (ks.map txE) [44, 32]).length ≤ 1073741824 := by
    refine Nat.le_trans (join_le [44, 32] (by simp) _) ?_
    have key : ∀ l : List Ex, (∀ x ∈ l, (txE x).length ≤ 1000000) → ((l.map txE).map fun x => x.length + 2).sum ≤ 1000002 * l.length := by
      intro l
      induction l with
      | nil => intro _; exact Nat.zero_le _
      | cons a r ihr =>
        intro hl
        have := hl a (by simp)
        have := ihr fun x hx => hl x (by simp [hx])
        simp only [List.map_cons, List.sum_cons, List.length_cons]
        omega
    have := key ks hZ
    omega
  have q1 : (⟨#[46]⟩ : ByteArray).size = 1 := rfl
  have q2 : (⟨#[58]⟩ : ByteArray).size = 1 := rfl
  have q3 : (⟨#[78, 79, 84, 32]⟩ : ByteArray).size = 4 := rfl
  have q4 : (⟨#[45]⟩ : ByteArray).size = 1 := rfl
  have q5 : (⟨#[32, 73, 83, 32, 78, 85, 76, 76]⟩ : ByteArray).size = 8 := rfl
  have q6 : (⟨#[91]⟩ : ByteArray).size = 1 := rfl
  have q7 : (⟨#[93]⟩ : ByteArray).size = 1 := rfl
  have q8 : (⟨#[40]⟩ : ByteArray).size = 1 := rfl
  have q9 : (⟨#[41]⟩ : ByteArray).size = 1 := rfl
  have q10 : (⟨#[40, 42, 41]⟩ : ByteArray).size = 3 := rfl
  have q11 : (⟨#[40, 68, 73, 83, 84, 73, 78, 67, 84, 32]⟩ : ByteArray).size = 10 := rfl
  have q12 : (⟨#[32]⟩ : ByteArray).size = 1 := rfl
  have hcase : op = 1 ∨ op = 2 ∨ op = 3 ∨ op = 4 ∨ op = 5 ∨ op = 6 ∨ op = 21 ∨ op = 22 ∨ op = 23 ∨ op = 24 ∨ (7 ≤ op ∧ op ≤ 20) := by omega
  rcases hcase with rfl | rfl | rfl | rfl | rfl | rfl | rfl | rfl | rfl | rfl | hop
  · have hc := fconst_ev v (h4 rfl)
    rw [txE]
    refine enter1 Tryz.func109 Tryz.ntmps109 rfl rfl fun w0 F0 O => ?_
    repeat' (first | refine zS rfl ?_ | refine qA ?_ | refine qB rfl ?_ | refine qC (by kernel_rfl) ?_ | refine qD ?_ | refine qE ?_ | refine qF ?_ | refine qG ?_ | refine qH rfl ?_ | refine qP rfl rfl rfl rfl rfl rfl b200 (hc) ?_ | refine zT rfl ?_ | refine zU rfl ?_ | refine qL rfl rfl ?_ | refine qM rfl rfl rfl ?_ | refine qO rfl rfl rfl ?_ | refine zX rfl rfl rfl rfl ?_ | refine zW rfl rfl rfl rfl ?_ | (refine qY rfl rfl rfl rfl ?_ ?_ <;> intro _) | exact zD | exact zL)
  · rw [txE, show txN 2 v nm.data.toList ds (txL ks) (opL ks) = nm.data.toList from rfl, hnm]
    refine enter1 Tryz.func109 Tryz.ntmps109 rfl rfl fun w0 F0 O => ?_
    repeat' (first | refine zS rfl ?_ | refine qA ?_ | refine qB rfl ?_ | refine qC (by kernel_rfl) ?_ | refine qD ?_ | refine qE ?_ | refine qF ?_ | refine qG ?_ | refine qH rfl ?_ | refine zT rfl ?_ | refine zU rfl ?_ | refine qL rfl rfl ?_ | refine qM rfl rfl rfl ?_ | refine qO rfl rfl rfl ?_ | refine zX rfl rfl rfl rfl ?_ | refine zW rfl rfl rfl rfl ?_ | (refine qY rfl rfl rfl rfl ?_ ?_ <;> intro _) | exact zD | exact zL)
  · have hks2 : ∃ x, ks = [x] := by
      have : ks.length = 1 := by
        have : ((ks.length : Int) == 1) = true := h3
        simp at this; omega
      match ks, this with
      | [x], _ => exact ⟨x, rfl⟩
    obtain ⟨x, rfl⟩ := hks2
    have hx : (kidsE (.mk 3 v nm ds [x]))[(0 : Int).toNat]? = some (encE x) := rfl
    have hl1 : (kidsE (.mk 3 v nm ds [x])).length = 1 := rfl
    have a1 := hO x (by simp)
    have z1 := hOz x (by simp)
    rw [txE, show txN 3 v nm.data.toList ds (txL [x]) (opL [x]) = opT x ++ [46] ++ nm.data.toList from rfl, ← bs_append, ← bs_append, hnm]
    refine enter1 Tryz.func109 Tryz.ntmps109 rfl rfl fun w0 F0 O => ?_
    repeat' (first | refine zS rfl ?_ | refine qA ?_ | refine qB rfl ?_ | refine qC (by kernel_rfl) ?_ | refine qD ?_ | refine qE ?_ | refine qF ?_ | refine qG ?_ | refine qH rfl ?_ | refine qI (encE x) rfl (guardX_ok rfl) rfl rfl rfl rfl rfl rfl (by first | omega | decide) hx ?_ | refine qP rfl rfl rfl rfl rfl rfl b201 (a1) ?_ | refine zT rfl ?_ | refine zU rfl ?_ | refine qL rfl rfl ?_ | refine qM rfl rfl rfl ?_ | refine qO rfl rfl rfl ?_ | refine zX rfl rfl rfl rfl ?_ | refine zW rfl rfl rfl rfl ?_ | (refine qY rfl rfl rfl rfl ?_ ?_ <;> intro _) | exact zD | exact zL)
  · have hks2 : ∃ x, ks = [x] := by
      have : ks.length = 1 := by
        have : ((ks.length : Int) == 1) = true := h3
        simp at this; omega
      match ks, this with
      | [x], _ => exact ⟨x, rfl⟩
    obtain ⟨x, rfl⟩ := hks2
    have hx : (kidsE (.mk 4 v nm ds [x]))[(0 : Int).toNat]? = some (encE x) := rfl
    have hl1 : (kidsE (.mk 4 v nm ds [x])).length = 1 := rfl
    have a1 := hO x (by simp)
    have z1 := hOz x (by simp)
    rw [txE, show txN 4 v nm.data.toList ds (txL [x]) (opL [x]) = opT x ++ [58] ++ nm.data.toList from rfl, ← bs_append, ← bs_append, hnm]
    refine enter1 Tryz.func109 Tryz.ntmps109 rfl rfl fun w0 F0 O => ?_
    repeat' (first | refine zS rfl ?_ | refine qA ?_ | refine qB rfl ?_ | refine qC (by kernel_rfl) ?_ | refine qD ?_ | refine qE ?_ | refine qF ?_ | refine qG ?_ | refine qH rfl ?_ | refine qI (encE x) rfl (guardX_ok rfl) rfl rfl rfl rfl rfl rfl (by first | omega | decide) hx ?_ | refine qP rfl rfl rfl rfl rfl rfl b201 (a1) ?_ | refine zT rfl ?_ | refine zU rfl ?_ | refine qL rfl rfl ?_ | refine qM rfl rfl rfl ?_ | refine qO rfl rfl rfl ?_ | refine zX rfl rfl rfl rfl ?_ | refine zW rfl rfl rfl rfl ?_ | (refine qY rfl rfl rfl rfl ?_ ?_ <;> intro _) | exact zD | exact zL)
  · have hks2 : ∃ x, ks = [x] := by
      have : ks.length = 1 := by
        have : ((ks.length : Int) == 1) = true := h3
        simp at this; omega
      match ks, this with
      | [x], _ => exact ⟨x, rfl⟩
    obtain ⟨x, rfl⟩ := hks2
    have hx : (kidsE (.mk 5 v nm ds [x]))[(0 : Int).toNat]? = some (encE x) := rfl
    have hl1 : (kidsE (.mk 5 v nm ds [x])).length = 1 := rfl
    have a1 := hO x (by simp)
    have z1 := hOz x (by simp)
    rw [txE, show txN 5 v nm.data.toList ds (txL [x]) (opL [x]) = [78, 79, 84, 32] ++ opT x from rfl, ← bs_append]
    refine enter1 Tryz.func109 Tryz.ntmps109 rfl rfl fun w0 F0 O => ?_
    repeat' (first | refine zS rfl ?_ | refine qA ?_ | refine qB rfl ?_ | refine qC (by kernel_rfl) ?_ | refine qD ?_ | refine qE ?_ | refine qF ?_ | refine qG ?_ | refine qH rfl ?_ | refine qI (encE x) rfl (guardX_ok rfl) rfl rfl rfl rfl rfl rfl (by first | omega | decide) hx ?_ | refine qP rfl rfl rfl rfl rfl rfl b201 (a1) ?_ | refine zT rfl ?_ | refine zU rfl ?_ | refine qL rfl rfl ?_ | refine qM rfl rfl rfl ?_ | refine qO rfl rfl rfl ?_ | refine zX rfl rfl rfl rfl ?_ | refine zW rfl rfl rfl rfl ?_ | (refine qY rfl rfl rfl rfl ?_ ?_ <;> intro _) | exact zD | exact zL)
  · have hks2 : ∃ x, ks = [x] := by
      have : ks.length = 1 := by
        have : ((ks.length : Int) == 1) = true := h3
        simp at this; omega
      match ks, this with
      | [x], _ => exact ⟨x, rfl⟩
    obtain ⟨x, rfl⟩ := hks2
    have hx : (kidsE (.mk 6 v nm ds [x]))[(0 : Int).toNat]? = some (encE x) := rfl
    have hl1 : (kidsE (.mk 6 v nm ds [x])).length = 1 := rfl
    have a1 := hO x (by simp)
    have z1 := hOz x (by simp)
    rw [txE, show txN 6 v nm.data.toList ds (txL [x]) (opL [x]) = [45] ++ opT x from rfl, ← bs_append]
    refine enter1 Tryz.func109 Tryz.ntmps109 rfl rfl fun w0 F0 O => ?_
    repeat' (first | refine zS rfl ?_ | refine qA ?_ | refine qB rfl ?_ | refine qC (by kernel_rfl) ?_ | refine qD ?_ | refine qE ?_ | refine qF ?_ | refine qG ?_ | refine qH rfl ?_ | refine qI (encE x) rfl (guardX_ok rfl) rfl rfl rfl rfl rfl rfl (by first | omega | decide) hx ?_ | refine qP rfl rfl rfl rfl rfl rfl b201 (a1) ?_ | refine zT rfl ?_ | refine zU rfl ?_ | refine qL rfl rfl ?_ | refine qM rfl rfl rfl ?_ | refine qO rfl rfl rfl ?_ | refine zX rfl rfl rfl rfl ?_ | refine zW rfl rfl rfl rfl ?_ | (refine qY rfl rfl rfl rfl ?_ ?_ <;> intro _) | exact zD | exact zL)
  · have hks2 : ∃ x, ks = [x] := by
      have : ks.length = 1 := by
        have : ((ks.length : Int) == 1) = true := h3
        simp at this; omega
      match ks, this with
      | [x], _ => exact ⟨x, rfl⟩
    obtain ⟨x, rfl⟩ := hks2
    have hx : (kidsE (.mk 21 v nm ds [x]))[(0 : Int).toNat]? = some (encE x) := rfl
    have hl1 : (kidsE (.mk 21 v nm ds [x])).length = 1 := rfl
    have a1 := hO x (by simp)
    have z1 := hOz x (by simp)
    rw [txE, show txN 21 v nm.data.toList ds (txL [x]) (opL [x]) = opT x ++ [32, 73, 83, 32, 78, 85, 76, 76] from rfl, ← bs_append]
    refine enter1 Tryz.func109 Tryz.ntmps109 rfl rfl fun w0 F0 O => ?_
    repeat' (first | refine zS rfl ?_ | refine qA ?_ | refine qB rfl ?_ | refine qC (by kernel_rfl) ?_ | refine qD ?_ | refine qE ?_ | refine qF ?_ | refine qG ?_ | refine qH rfl ?_ | refine qI (encE x) rfl (guardX_ok rfl) rfl rfl rfl rfl rfl rfl (by first | omega | decide) hx ?_ | refine qP rfl rfl rfl rfl rfl rfl b201 (a1) ?_ | refine zT rfl ?_ | refine zU rfl ?_ | refine qL rfl rfl ?_ | refine qM rfl rfl rfl ?_ | refine qO rfl rfl rfl ?_ | refine zX rfl rfl rfl rfl ?_ | refine zW rfl rfl rfl rfl ?_ | (refine qY rfl rfl rfl rfl ?_ ?_ <;> intro _) | exact zD | exact zL)
  · have hj : Ev E 202 [.sl (kidsE (.mk 22 v nm ds ks))] (.d (.str (bs (Lib.join (ks.map txE) [44, 32])))) := exprs_ev ks hT (by omega) hJ
    rw [txE, txL_map, show txN 22 v nm.data.toList ds (ks.map txE) (opL ks) = [91] ++ Lib.join (ks.map txE) [44, 32] ++ [93] from rfl, ← bs_append, ← bs_append]
    have z1 : (bs (Lib.join (ks.map txE) [44, 32])).size ≤ 1073741824 := by rw [bs_size]; exact hJ
    refine enter1 Tryz.func109 Tryz.ntmps109 rfl rfl fun w0 F0 O => ?_
    repeat' (first | refine zS rfl ?_ | refine qA ?_ | refine qB rfl ?_ | refine qC (by kernel_rfl) ?_ | refine qD ?_ | refine qE ?_ | refine qF ?_ | refine qG ?_ | refine qH rfl ?_ | refine qP rfl rfl rfl rfl rfl rfl b202 (hj) ?_ | refine zT rfl ?_ | refine zU rfl ?_ | refine qL rfl rfl ?_ | refine qM rfl rfl rfl ?_ | refine qO rfl rfl rfl ?_ | refine zX rfl rfl rfl rfl ?_ | refine zW rfl rfl rfl rfl ?_ | (refine qY rfl rfl rfl rfl ?_ ?_ <;> intro _) | exact zD | exact zL)
  · have hj : Ev E 202 [.sl (kidsE (.mk 23 v nm ds ks))] (.d (.str (bs (Lib.join (ks.map txE) [44, 32])))) := exprs_ev ks hT (by omega) hJ
    rw [txE, txL_map, show txN 23 v nm.data.toList ds (ks.map txE) (opL ks) = nm.data.toList ++ [40] ++ Lib.join (ks.map txE) [44, 32] ++ [41] from rfl, ← bs_append, ← bs_append, ← bs_append, hnm]
    have z1 : (bs (Lib.join (ks.map txE) [44, 32])).size ≤ 1073741824 := by rw [bs_size]; exact hJ
    refine enter1 Tryz.func109 Tryz.ntmps109 rfl rfl fun w0 F0 O => ?_
    repeat' (first | refine zS rfl ?_ | refine qA ?_ | refine qB rfl ?_ | refine qC (by kernel_rfl) ?_ | refine qD ?_ | refine qE ?_ | refine qF ?_ | refine qG ?_ | refine qH rfl ?_ | refine qP rfl rfl rfl rfl rfl rfl b202 (hj) ?_ | refine zT rfl ?_ | refine zU rfl ?_ | refine qL rfl rfl ?_ | refine qM rfl rfl rfl ?_ | refine qO rfl rfl rfl ?_ | refine zX rfl rfl rfl rfl ?_ | refine zW rfl rfl rfl rfl ?_ | (refine qY rfl rfl rfl rfl ?_ ?_ <;> intro _) | exact zD | exact zL)
  · have hks2 : ks = [] ∨ ∃ x, ks = [x] := by
      have : ks.length = 1 ∨ ks.length = 0 := by
        have : ((ks.length : Int) == 1 || ((ks.length : Int) == 0 && (isS nm ⟨#[99, 111, 117, 110, 116]⟩ && !ds))) = true := h3
        simp at this
        rcases this with h | h
        · left; omega
        · right; exact List.length_eq_zero_iff.2 h.1
      match ks, this with
      | [], _ => exact .inl rfl
      | [x], _ => exact .inr ⟨x, rfl⟩
    rcases hks2 with rfl | ⟨x, rfl⟩
    · rw [txE, show txN 24 v nm.data.toList ds (txL []) (opL []) = nm.data.toList ++ [40, 42, 41] from rfl, ← bs_append, hnm]
      refine enter1 Tryz.func109 Tryz.ntmps109 rfl rfl fun w0 F0 O => ?_
      repeat' (first | refine zS rfl ?_ | refine qA ?_ | refine qB rfl ?_ | refine qC (by kernel_rfl) ?_ | refine qD ?_ | refine qE ?_ | refine qF ?_ | refine qG ?_ | refine qH rfl ?_ | refine zT rfl ?_ | refine zU rfl ?_ | refine qL rfl rfl ?_ | refine qM rfl rfl rfl ?_ | refine qO rfl rfl rfl ?_ | refine zX rfl rfl rfl rfl ?_ | refine zW rfl rfl rfl rfl ?_ | (refine qY rfl rfl rfl rfl ?_ ?_ <;> intro _) | exact zD | exact zL)
    · have hx : (kidsE (.mk 24 v nm ds [x]))[(0 : Int).toNat]? = some (encE x) := rfl
      have ht := hT x (by simp)
      have z1 : (bs (txE x)).size ≤ 1000000 := by rw [bs_size]; exact hZ x (by simp)
      skip
      cases ds with
      | true =>
        rw [txE, show txN 24 v nm.data.toList true (txL [x]) (opL [x]) = nm.data.toList ++ [40, 68, 73, 83, 84, 73, 78, 67, 84, 32] ++ txE x ++ [41] by simp [txN, txL], ← bs_append, ← bs_append, ← bs_append, hnm]
        refine enter1 Tryz.func109 Tryz.ntmps109 rfl rfl fun w0 F0 O => ?_
        repeat' (first | refine zS rfl ?_ | refine qA ?_ | refine qB rfl ?_ | refine qC (by kernel_rfl) ?_ | refine qD ?_ | refine qE ?_ | refine qF ?_ | refine qG ?_ | refine qH rfl ?_ | refine qI (encE x) rfl (guardX_ok rfl) rfl rfl rfl rfl rfl rfl (by first | omega | decide) hx ?_ | refine qP rfl rfl rfl rfl rfl rfl b109 (ht) ?_ | refine zT rfl ?_ | refine zU rfl ?_ | refine qL rfl rfl ?_ | refine qM rfl rfl rfl ?_ | refine qO rfl rfl rfl ?_ | refine zX rfl rfl rfl rfl ?_ | refine zW rfl rfl rfl rfl ?_ | (refine qY rfl rfl rfl rfl ?_ ?_ <;> intro _) | exact zD | exact zL)
      | false =>
        rw [txE, show txN 24 v nm.data.toList false (txL [x]) (opL [x]) = nm.data.toList ++ [40] ++ txE x ++ [41] by simp [txN, txL], ← bs_append, ← bs_append, ← bs_append, hnm]
        refine enter1 Tryz.func109 Tryz.ntmps109 rfl rfl fun w0 F0 O => ?_
        repeat' (first | refine zS rfl ?_ | refine qA ?_ | refine qB rfl ?_ | refine qC (by kernel_rfl) ?_ | refine qD ?_ | refine qE ?_ | refine qF ?_ | refine qG ?_ | refine qH rfl ?_ | refine qI (encE x) rfl (guardX_ok rfl) rfl rfl rfl rfl rfl rfl (by first | omega | decide) hx ?_ | refine qP rfl rfl rfl rfl rfl rfl b109 (ht) ?_ | refine zT rfl ?_ | refine zU rfl ?_ | refine qL rfl rfl ?_ | refine qM rfl rfl rfl ?_ | refine qO rfl rfl rfl ?_ | refine zX rfl rfl rfl rfl ?_ | refine zW rfl rfl rfl rfl ?_ | (refine qY rfl rfl rfl rfl ?_ ?_ <;> intro _) | exact zD | exact zL)
  · have n1 : (op == 1) = false := by simp; omega
    have n2 : (op == 2) = false := by simp; omega
    have n3 : (op == 3) = false := by simp; omega
    have n4 : (op == 4) = false := by simp; omega
    have n5 : (op == 5) = false := by simp; omega
    have n6 : (op == 6) = false := by simp; omega
    have n21 : (op == 21) = false := by simp; omega
    have n22 : (op == 22) = false := by simp; omega
    have n23 : (op == 23) = false := by simp; omega
    have n24 : (op == 24) = false := by simp; omega
    have hks2 : ∃ x y, ks = [x, y] := by
      rw [n1, n2, n3, n4, n5, n6, n21, n22, n23, n24] at h3
      have : ks.length = 2 := by simp at h3; omega
      match ks, this with
      | [x, y], _ => exact ⟨x, y, rfl⟩
    obtain ⟨x, y, rfl⟩ := hks2
    have hx : (kidsE (.mk op v nm ds [x, y]))[(0 : Int).toNat]? = some (encE x) := rfl
    have hy : (kidsE (.mk op v nm ds [x, y]))[(1 : Int).toNat]? = some (encE y) := rfl
    have hl2 : (kidsE (.mk op v nm ds [x, y])).length = 2 := rfl
    have a1 := hO x (by simp)
    have a2 := hO y (by simp)
    have z1 := hOz x (by simp)
    have z2 := hOz y (by simp)
    have a3 := sign_ev op
    have z3 : (bs (sgT op)).size ≤ 3 := by rw [bs_size]; exact sg_len op
    rw [txE, show txN op v nm.data.toList ds (txL [x, y]) (opL [x, y]) = opT x ++ [32] ++ sgT op ++ [32] ++ opT y by simp [txN, opL, opT, n1, n2, n3, n4, n5, n6, n21, n22, n23, n24], ← bs_append, ← bs_append, ← bs_append, ← bs_append]
    refine enter1 Tryz.func109 Tryz.ntmps109 rfl rfl fun w0 F0 O => ?_
    repeat' (first | refine zS rfl ?_ | refine qA ?_ | refine qB rfl ?_ | refine qC (by kernel_rfl) ?_ | refine qD ?_ | refine qE ?_ | refine qF ?_ | refine qG ?_ | refine qH rfl ?_ | refine qI (encE x) rfl (guardX_ok rfl) rfl rfl rfl rfl rfl rfl (by first | omega | decide) hx ?_ | refine qI (encE y) rfl (guardX_ok rfl) rfl rfl rfl rfl rfl rfl (by first | omega | decide) hy ?_ | refine qP rfl rfl rfl rfl rfl rfl b201 (a1) ?_ | refine qP rfl rfl rfl rfl rfl rfl b201 (a2) ?_ | refine qP rfl rfl rfl rfl rfl rfl b203 (a3) ?_ | refine zT rfl ?_ | refine zU rfl ?_ | refine qL rfl rfl ?_ | refine qM rfl rfl rfl ?_ | refine qO rfl rfl rfl ?_ | refine zX rfl rfl rfl rfl ?_ | refine zW rfl rfl rfl rfl ?_ | (refine qY rfl rfl rfl rfl ?_ ?_ <;> intro _) | exact zD | exact zL)

set_option maxHeartbeats 4000000 in
theorem rexpr_ev : ∀ e : Ex, alE smN e → nd e ≤ 1000 → Ev E 124 [encE e] (.d (.str (bs (txE e)))) := by
  refine xind (P := fun e => alE smN e → nd e ≤ 1000 → Ev E 124 [encE e] (.d (.str (bs (txE e))))) fun op v nm ds ks ih h hn => ?_
  obtain ⟨⟨⟨h1, h2, h3, h4⟩, h5, h6⟩, -⟩ := h.1, h.2
  have hk := alL_mem h.2
  rw [nd] at hn
  have hT : ∀ x ∈ ks, Ev E 124 [encE x] (.d (.str (bs (txE x)))) := fun x hx => ih x hx (hk x hx) (by have := ndL_mem hx; omega)
  have hZ : ∀ x ∈ ks, (txE x).length ≤ 1000000 := fun x hx => by
    have := tx_le x (hk x hx)
    have := ndL_mem hx
    omega
  have hO : ∀ x ∈ ks, Ev E 219 [encE x] (.d (.str (bs (opT x)))) := fun x hx => roperand_ev x (by have := hZ x hx; omega) (hT x hx)
  have hOz : ∀ x ∈ ks, (bs (opT x)).size ≤ 1000002 := fun x hx => by
    rw [bs_size]
    have := opT_len x
    have := hZ x hx
    omega
  simp only [Ex.op] at h1 h2
  have h5' := h5
  replace h5 : nm.size ≤ 200 := h5
  have hnm : bs nm.data.toList = nm := bs_list nm
  have hkl : kn0 (.mk op v nm ds ks) = (ks.length : Int) := by unfold kn0; rw [kidsE_len]; rfl
  have hle := kidsE_len (.mk op v nm ds ks)
  have hks : (Ex.mk op v nm ds ks).ks = ks := rfl
  unfold opdF at h3
  rw [hkl] at h3
  simp only [Ex.op, Ex.nm, Ex.ds] at h3
  clear h hk ih hkl
  have hnn : ks.length ≤ ndL ks := by
    have key : ∀ l : List Ex, l.length ≤ ndL l := by
      intro l
      induction l with
      | nil => exact Nat.zero_le _
      | cons a r ihr => rw [ndL, List.length_cons, nd_eq]; omega
    exact key ks
  have hJ : (Lib.join (ks.map txE) [44, 32]).length ≤ 1073741824 := by
    refine Nat.le_trans (join_le [44, 32] (by simp) _) ?_
    have key : ∀ l : List Ex, (∀ x ∈ l, (txE x).length ≤ 1000000) → ((l.map txE).map fun x => x.length + 2).sum ≤ 1000002 * l.length := by
      intro l
      induction l with
      | nil => intro _; exact Nat.zero_le _
      | cons a r ihr =>
        intro hl
        have := hl a (by simp)
        have := ihr fun x hx => hl x (by simp [hx])
        simp only [List.map_cons, List.sum_cons, List.length_cons]
        omega
    have := key ks hZ
    omega
  have q1 : (⟨#[46]⟩ : ByteArray).size = 1 := rfl
  have q2 : (⟨#[58]⟩ : ByteArray).size = 1 := rfl
  have q3 : (⟨#[78, 79, 84, 32]⟩ : ByteArray).size = 4 := rfl
  have q4 : (⟨#[45]⟩ : ByteArray).size = 1 := rfl
  have q5 : (⟨#[32, 73, 83, 32, 78, 85, 76, 76]⟩ : ByteArray).size = 8 := rfl
  have q6 : (⟨#[91]⟩ : ByteArray).size = 1 := rfl
  have q7 : (⟨#[93]⟩ : ByteArray).size = 1 := rfl
  have q8 : (⟨#[40]⟩ : ByteArray).size = 1 := rfl
  have q9 : (⟨#[41]⟩ : ByteArray).size = 1 := rfl
  have q10 : (⟨#[40, 42, 41]⟩ : ByteArray).size = 3 := rfl
  have q11 : (⟨#[40, 68, 73, 83, 84, 73, 78, 67, 84, 32]⟩ : ByteArray).size = 10 := rfl
  have q12 : (⟨#[32]⟩ : ByteArray).size = 1 := rfl
  have hcase : op = 1 ∨ op = 2 ∨ op = 3 ∨ op = 4 ∨ op = 5 ∨ op = 6 ∨ op = 21 ∨ op = 22 ∨ op = 23 ∨ op = 24 ∨ (7 ≤ op ∧ op ≤ 20) := by omega
  rcases hcase with rfl | rfl | rfl | rfl | rfl | rfl | rfl | rfl | rfl | rfl | hop
  · have hc := rconst_ev v (h4 rfl)
    rw [txE]
    refine enter1 Tryz.func124 Tryz.ntmps124 rfl rfl fun w0 F0 O => ?_
    repeat' (first | refine zS rfl ?_ | refine qA ?_ | refine qB rfl ?_ | refine qC (by kernel_rfl) ?_ | refine qD ?_ | refine qE ?_ | refine qF ?_ | refine qG ?_ | refine qH rfl ?_ | refine qP rfl rfl rfl rfl rfl rfl b218 (hc) ?_ | refine zT rfl ?_ | refine zU rfl ?_ | refine qL rfl rfl ?_ | refine qM rfl rfl rfl ?_ | refine qO rfl rfl rfl ?_ | refine zX rfl rfl rfl rfl ?_ | refine zW rfl rfl rfl rfl ?_ | (refine qY rfl rfl rfl rfl ?_ ?_ <;> intro _) | exact zD | exact zL)
  · rw [txE, show txN 2 v nm.data.toList ds (txL ks) (opL ks) = nm.data.toList from rfl, hnm]
    refine enter1 Tryz.func124 Tryz.ntmps124 rfl rfl fun w0 F0 O => ?_
    repeat' (first | refine zS rfl ?_ | refine qA ?_ | refine qB rfl ?_ | refine qC (by kernel_rfl) ?_ | refine qD ?_ | refine qE ?_ | refine qF ?_ | refine qG ?_ | refine qH rfl ?_ | refine zT rfl ?_ | refine zU rfl ?_ | refine qL rfl rfl ?_ | refine qM rfl rfl rfl ?_ | refine qO rfl rfl rfl ?_ | refine zX rfl rfl rfl rfl ?_ | refine zW rfl rfl rfl rfl ?_ | (refine qY rfl rfl rfl rfl ?_ ?_ <;> intro _) | exact zD | exact zL)
  · have hks2 : ∃ x, ks = [x] := by
      have : ks.length = 1 := by
        have : ((ks.length : Int) == 1) = true := h3
        simp at this; omega
      match ks, this with
      | [x], _ => exact ⟨x, rfl⟩
    obtain ⟨x, rfl⟩ := hks2
    have hx : (kidsE (.mk 3 v nm ds [x]))[(0 : Int).toNat]? = some (encE x) := rfl
    have hl1 : (kidsE (.mk 3 v nm ds [x])).length = 1 := rfl
    have a1 := hO x (by simp)
    have z1 := hOz x (by simp)
    rw [txE, show txN 3 v nm.data.toList ds (txL [x]) (opL [x]) = opT x ++ [46] ++ nm.data.toList from rfl, ← bs_append, ← bs_append, hnm]
    refine enter1 Tryz.func124 Tryz.ntmps124 rfl rfl fun w0 F0 O => ?_
    repeat' (first | refine zS rfl ?_ | refine qA ?_ | refine qB rfl ?_ | refine qC (by kernel_rfl) ?_ | refine qD ?_ | refine qE ?_ | refine qF ?_ | refine qG ?_ | refine qH rfl ?_ | refine qI (encE x) rfl (guardX_ok rfl) rfl rfl rfl rfl rfl rfl (by first | omega | decide) hx ?_ | refine qP rfl rfl rfl rfl rfl rfl b219 (a1) ?_ | refine zT rfl ?_ | refine zU rfl ?_ | refine qL rfl rfl ?_ | refine qM rfl rfl rfl ?_ | refine qO rfl rfl rfl ?_ | refine zX rfl rfl rfl rfl ?_ | refine zW rfl rfl rfl rfl ?_ | (refine qY rfl rfl rfl rfl ?_ ?_ <;> intro _) | exact zD | exact zL)
  · have hks2 : ∃ x, ks = [x] := by
      have : ks.length = 1 := by
        have : ((ks.length : Int) == 1) = true := h3
        simp at this; omega
      match ks, this with
      | [x], _ => exact ⟨x, rfl⟩
    obtain ⟨x, rfl⟩ := hks2
    have hx : (kidsE (.mk 4 v nm ds [x]))[(0 : Int).toNat]? = some (encE x) := rfl
    have hl1 : (kidsE (.mk 4 v nm ds [x])).length = 1 := rfl
    have a1 := hO x (by simp)
    have z1 := hOz x (by simp)
    rw [txE, show txN 4 v nm.data.toList ds (txL [x]) (opL [x]) = opT x ++ [58] ++ nm.data.toList from rfl, ← bs_append, ← bs_append, hnm]
    refine enter1 Tryz.func124 Tryz.ntmps124 rfl rfl fun w0 F0 O => ?_
    repeat' (first | refine zS rfl ?_ | refine qA ?_ | refine qB rfl ?_ | refine qC (by kernel_rfl) ?_ | refine qD ?_ | refine qE ?_ | refine qF ?_ | refine qG ?_ | refine qH rfl ?_ | refine qI (encE x) rfl (guardX_ok rfl) rfl rfl rfl rfl rfl rfl (by first | omega | decide) hx ?_ | refine qP rfl rfl rfl rfl rfl rfl b219 (a1) ?_ | refine zT rfl ?_ | refine zU rfl ?_ | refine qL rfl rfl ?_ | refine qM rfl rfl rfl ?_ | refine qO rfl rfl rfl ?_ | refine zX rfl rfl rfl rfl ?_ | refine zW rfl rfl rfl rfl ?_ | (refine qY rfl rfl rfl rfl ?_ ?_ <;> intro _) | exact zD | exact zL)
  · have hks2 : ∃ x, ks = [x] := by
      have : ks.length = 1 := by
        have : ((ks.length : Int) == 1) = true := h3
        simp at this; omega
      match ks, this with
      | [x], _ => exact ⟨x, rfl⟩
    obtain ⟨x, rfl⟩ := hks2
    have hx : (kidsE (.mk 5 v nm ds [x]))[(0 : Int).toNat]? = some (encE x) := rfl
    have hl1 : (kidsE (.mk 5 v nm ds [x])).length = 1 := rfl
    have a1 := hO x (by simp)
    have z1 := hOz x (by simp)
    rw [txE, show txN 5 v nm.data.toList ds (txL [x]) (opL [x]) = [78, 79, 84, 32] ++ opT x from rfl, ← bs_append]
    refine enter1 Tryz.func124 Tryz.ntmps124 rfl rfl fun w0 F0 O => ?_
    repeat' (first | refine zS rfl ?_ | refine qA ?_ | refine qB rfl ?_ | refine qC (by kernel_rfl) ?_ | refine qD ?_ | refine qE ?_ | refine qF ?_ | refine qG ?_ | refine qH rfl ?_ | refine qI (encE x) rfl (guardX_ok rfl) rfl rfl rfl rfl rfl rfl (by first | omega | decide) hx ?_ | refine qP rfl rfl rfl rfl rfl rfl b219 (a1) ?_ | refine zT rfl ?_ | refine zU rfl ?_ | refine qL rfl rfl ?_ | refine qM rfl rfl rfl ?_ | refine qO rfl rfl rfl ?_ | refine zX rfl rfl rfl rfl ?_ | refine zW rfl rfl rfl rfl ?_ | (refine qY rfl rfl rfl rfl ?_ ?_ <;> intro _) | exact zD | exact zL)
  · have hks2 : ∃ x, ks = [x] := by
      have : ks.length = 1 := by
        have : ((ks.length : Int) == 1) = true := h3
        simp at this; omega
      match ks, this with
      | [x], _ => exact ⟨x, rfl⟩
    obtain ⟨x, rfl⟩ := hks2
    have hx : (kidsE (.mk 6 v nm ds [x]))[(0 : Int).toNat]? = some (encE x) := rfl
    have hl1 : (kidsE (.mk 6 v nm ds [x])).length = 1 := rfl
    have a1 := hO x (by simp)
    have z1 := hOz x (by simp)
    rw [txE, show txN 6 v nm.data.toList ds (txL [x]) (opL [x]) = [45] ++ opT x from rfl, ← bs_append]
    refine enter1 Tryz.func124 Tryz.ntmps124 rfl rfl fun w0 F0 O => ?_
    repeat' (first | refine zS rfl ?_ | refine qA ?_ | refine qB rfl ?_ | refine qC (by kernel_rfl) ?_ | refine qD ?_ | refine qE ?_ | refine qF ?_ | refine qG ?_ | refine qH rfl ?_ | refine qI (encE x) rfl (guardX_ok rfl) rfl rfl rfl rfl rfl rfl (by first | omega | decide) hx ?_ | refine qP rfl rfl rfl rfl rfl rfl b219 (a1) ?_ | refine zT rfl ?_ | refine zU rfl ?_ | refine qL rfl rfl ?_ | refine qM rfl rfl rfl ?_ | refine qO rfl rfl rfl ?_ | refine zX rfl rfl rfl rfl ?_ | refine zW rfl rfl rfl rfl ?_ | (refine qY rfl rfl rfl rfl ?_ ?_ <;> intro _) | exact zD | exact zL)
  · have hks2 : ∃ x, ks = [x] := by
      have : ks.length = 1 := by
        have : ((ks.length : Int) == 1) = true := h3
        simp at this; omega
      match ks, this with
      | [x], _ => exact ⟨x, rfl⟩
    obtain ⟨x, rfl⟩ := hks2
    have hx : (kidsE (.mk 21 v nm ds [x]))[(0 : Int).toNat]? = some (encE x) := rfl
    have hl1 : (kidsE (.mk 21 v nm ds [x])).length = 1 := rfl
    have a1 := hO x (by simp)
    have z1 := hOz x (by simp)
    rw [txE, show txN 21 v nm.data.toList ds (txL [x]) (opL [x]) = opT x ++ [32, 73, 83, 32, 78, 85, 76, 76] from rfl, ← bs_append]
    refine enter1 Tryz.func124 Tryz.ntmps124 rfl rfl fun w0 F0 O => ?_
    repeat' (first | refine zS rfl ?_ | refine qA ?_ | refine qB rfl ?_ | refine qC (by kernel_rfl) ?_ | refine qD ?_ | refine qE ?_ | refine qF ?_ | refine qG ?_ | refine qH rfl ?_ | refine qI (encE x) rfl (guardX_ok rfl) rfl rfl rfl rfl rfl rfl (by first | omega | decide) hx ?_ | refine qP rfl rfl rfl rfl rfl rfl b219 (a1) ?_ | refine zT rfl ?_ | refine zU rfl ?_ | refine qL rfl rfl ?_ | refine qM rfl rfl rfl ?_ | refine qO rfl rfl rfl ?_ | refine zX rfl rfl rfl rfl ?_ | refine zW rfl rfl rfl rfl ?_ | (refine qY rfl rfl rfl rfl ?_ ?_ <;> intro _) | exact zD | exact zL)
  · have hj : Ev E 220 [.sl (kidsE (.mk 22 v nm ds ks))] (.d (.str (bs (Lib.join (ks.map txE) [44, 32])))) := list_ev' ks hT hJ
    rw [txE, txL_map, show txN 22 v nm.data.toList ds (ks.map txE) (opL ks) = [91] ++ Lib.join (ks.map txE) [44, 32] ++ [93] from rfl, ← bs_append, ← bs_append]
    have z1 : (bs (Lib.join (ks.map txE) [44, 32])).size ≤ 1073741824 := by rw [bs_size]; exact hJ
    refine enter1 Tryz.func124 Tryz.ntmps124 rfl rfl fun w0 F0 O => ?_
    repeat' (first | refine zS rfl ?_ | refine qA ?_ | refine qB rfl ?_ | refine qC (by kernel_rfl) ?_ | refine qD ?_ | refine qE ?_ | refine qF ?_ | refine qG ?_ | refine qH rfl ?_ | refine qP rfl rfl rfl rfl rfl rfl b220 (hj) ?_ | refine zT rfl ?_ | refine zU rfl ?_ | refine qL rfl rfl ?_ | refine qM rfl rfl rfl ?_ | refine qO rfl rfl rfl ?_ | refine zX rfl rfl rfl rfl ?_ | refine zW rfl rfl rfl rfl ?_ | (refine qY rfl rfl rfl rfl ?_ ?_ <;> intro _) | exact zD | exact zL)
  · have hj : Ev E 220 [.sl (kidsE (.mk 23 v nm ds ks))] (.d (.str (bs (Lib.join (ks.map txE) [44, 32])))) := list_ev' ks hT hJ
    rw [txE, txL_map, show txN 23 v nm.data.toList ds (ks.map txE) (opL ks) = nm.data.toList ++ [40] ++ Lib.join (ks.map txE) [44, 32] ++ [41] from rfl, ← bs_append, ← bs_append, ← bs_append, hnm]
    have z1 : (bs (Lib.join (ks.map txE) [44, 32])).size ≤ 1073741824 := by rw [bs_size]; exact hJ
    refine enter1 Tryz.func124 Tryz.ntmps124 rfl rfl fun w0 F0 O => ?_
    repeat' (first | refine zS rfl ?_ | refine qA ?_ | refine qB rfl ?_ | refine qC (by kernel_rfl) ?_ | refine qD ?_ | refine qE ?_ | refine qF ?_ | refine qG ?_ | refine qH rfl ?_ | refine qP rfl rfl rfl rfl rfl rfl b220 (hj) ?_ | refine zT rfl ?_ | refine zU rfl ?_ | refine qL rfl rfl ?_ | refine qM rfl rfl rfl ?_ | refine qO rfl rfl rfl ?_ | refine zX rfl rfl rfl rfl ?_ | refine zW rfl rfl rfl rfl ?_ | (refine qY rfl rfl rfl rfl ?_ ?_ <;> intro _) | exact zD | exact zL)
  · have hks2 : ks = [] ∨ ∃ x, ks = [x] := by
      have : ks.length = 1 ∨ ks.length = 0 := by
        have : ((ks.length : Int) == 1 || ((ks.length : Int) == 0 && (isS nm ⟨#[99, 111, 117, 110, 116]⟩ && !ds))) = true := h3
        simp at this
        rcases this with h | h
        · left; omega
        · right; exact List.length_eq_zero_iff.2 h.1
      match ks, this with
      | [], _ => exact .inl rfl
      | [x], _ => exact .inr ⟨x, rfl⟩
    rcases hks2 with rfl | ⟨x, rfl⟩
    · rw [txE, show txN 24 v nm.data.toList ds (txL []) (opL []) = nm.data.toList ++ [40, 42, 41] from rfl, ← bs_append, hnm]
      refine enter1 Tryz.func124 Tryz.ntmps124 rfl rfl fun w0 F0 O => ?_
      repeat' (first | refine zS rfl ?_ | refine qA ?_ | refine qB rfl ?_ | refine qC (by kernel_rfl) ?_ | refine qD ?_ | refine qE ?_ | refine qF ?_ | refine qG ?_ | refine qH rfl ?_ | refine zT rfl ?_ | refine zU rfl ?_ | refine qL rfl rfl ?_ | refine qM rfl rfl rfl ?_ | refine qO rfl rfl rfl ?_ | refine zX rfl rfl rfl rfl ?_ | refine zW rfl rfl rfl rfl ?_ | (refine qY rfl rfl rfl rfl ?_ ?_ <;> intro _) | exact zD | exact zL)
    · have hx : (kidsE (.mk 24 v nm ds [x]))[(0 : Int).toNat]? = some (encE x) := rfl
      have ht := hT x (by simp)
      have z1 : (bs (txE x)).size ≤ 1000000 := by rw [bs_size]; exact hZ x (by simp)
      have hl1 : Ev E 220 [.sl (kidsE (.mk 24 v nm ds [x]))] (.d (.str (bs (txE x)))) := by
        have := list_ev' [x] (fun y hy => hT y hy) hJ
        rwa [show Lib.join ([x].map txE) [44, 32] = txE x by simp [Lib.join, Lib.joinTail]] at this
      cases ds with
      | true =>
        rw [txE, show txN 24 v nm.data.toList true (txL [x]) (opL [x]) = nm.data.toList ++ [40, 68, 73, 83, 84, 73, 78, 67, 84, 32] ++ txE x ++ [41] by simp [txN, txL], ← bs_append, ← bs_append, ← bs_append, hnm]
        refine enter1 Tryz.func124 Tryz.ntmps124 rfl rfl fun w0 F0 O => ?_
        repeat' (first | refine zS rfl ?_ | refine qA ?_ | refine qB rfl ?_ | refine qC (by kernel_rfl) ?_ | refine qD ?_ | refine qE ?_ | refine qF ?_ | refine qG ?_ | refine qH rfl ?_ | refine qI (encE x) rfl (guardX_ok rfl) rfl rfl rfl rfl rfl rfl (by first | omega | decide) hx ?_ | refine qP rfl rfl rfl rfl rfl rfl b220 (hl1) ?_ | refine zT rfl ?_ | refine zU rfl ?_ | refine qL rfl rfl ?_ | refine qM rfl rfl rfl ?_ | refine qO rfl rfl rfl ?_ | refine zX rfl rfl rfl rfl ?_ | refine zW rfl rfl rfl rfl ?_ | (refine qY rfl rfl rfl rfl ?_ ?_ <;> intro _) | exact zD | exact zL)
      | false =>
        rw [txE, show txN 24 v nm.data.toList false (txL [x]) (opL [x]) = nm.data.toList ++ [40] ++ txE x ++ [41] by simp [txN, txL], ← bs_append, ← bs_append, ← bs_append, hnm]
        refine enter1 Tryz.func124 Tryz.ntmps124 rfl rfl fun w0 F0 O => ?_
        repeat' (first | refine zS rfl ?_ | refine qA ?_ | refine qB rfl ?_ | refine qC (by kernel_rfl) ?_ | refine qD ?_ | refine qE ?_ | refine qF ?_ | refine qG ?_ | refine qH rfl ?_ | refine qI (encE x) rfl (guardX_ok rfl) rfl rfl rfl rfl rfl rfl (by first | omega | decide) hx ?_ | refine qP rfl rfl rfl rfl rfl rfl b220 (hl1) ?_ | refine zT rfl ?_ | refine zU rfl ?_ | refine qL rfl rfl ?_ | refine qM rfl rfl rfl ?_ | refine qO rfl rfl rfl ?_ | refine zX rfl rfl rfl rfl ?_ | refine zW rfl rfl rfl rfl ?_ | (refine qY rfl rfl rfl rfl ?_ ?_ <;> intro _) | exact zD | exact zL)
  · have n1 : (op == 1) = false := by simp; omega
    have n2 : (op == 2) = false := by simp; omega
    have n3 : (op == 3) = false := by simp; omega
    have n4 : (op == 4) = false := by simp; omega
    have n5 : (op == 5) = false := by simp; omega
    have n6 : (op == 6) = false := by simp; omega
    have n21 : (op == 21) = false := by simp; omega
    have n22 : (op == 22) = false := by simp; omega
    have n23 : (op == 23) = false := by simp; omega
    have n24 : (op == 24) = false := by simp; omega
    have hks2 : ∃ x y, ks = [x, y] := by
      rw [n1, n2, n3, n4, n5, n6, n21, n22, n23, n24] at h3
      have : ks.length = 2 := by simp at h3; omega
      match ks, this with
      | [x, y], _ => exact ⟨x, y, rfl⟩
    obtain ⟨x, y, rfl⟩ := hks2
    have hx : (kidsE (.mk op v nm ds [x, y]))[(0 : Int).toNat]? = some (encE x) := rfl
    have hy : (kidsE (.mk op v nm ds [x, y]))[(1 : Int).toNat]? = some (encE y) := rfl
    have hl2 : (kidsE (.mk op v nm ds [x, y])).length = 2 := rfl
    have a1 := hO x (by simp)
    have a2 := hO y (by simp)
    have z1 := hOz x (by simp)
    have z2 := hOz y (by simp)
    have a3 := rsignE_ev op hop
    have z3 : (bs (sgT op)).size ≤ 3 := by rw [bs_size]; exact sg_len op
    rw [txE, show txN op v nm.data.toList ds (txL [x, y]) (opL [x, y]) = opT x ++ [32] ++ sgT op ++ [32] ++ opT y by simp [txN, opL, opT, n1, n2, n3, n4, n5, n6, n21, n22, n23, n24], ← bs_append, ← bs_append, ← bs_append, ← bs_append]
    refine enter1 Tryz.func124 Tryz.ntmps124 rfl rfl fun w0 F0 O => ?_
    repeat' (first | refine zS rfl ?_ | refine qA ?_ | refine qB rfl ?_ | refine qC (by kernel_rfl) ?_ | refine qD ?_ | refine qE ?_ | refine qF ?_ | refine qG ?_ | refine qH rfl ?_ | refine qI (encE x) rfl (guardX_ok rfl) rfl rfl rfl rfl rfl rfl (by first | omega | decide) hx ?_ | refine qI (encE y) rfl (guardX_ok rfl) rfl rfl rfl rfl rfl rfl (by first | omega | decide) hy ?_ | refine qP rfl rfl rfl rfl rfl rfl b219 (a1) ?_ | refine qP rfl rfl rfl rfl rfl rfl b219 (a2) ?_ | refine qP rfl rfl rfl rfl rfl rfl b221 (a3) ?_ | refine zT rfl ?_ | refine zU rfl ?_ | refine qL rfl rfl ?_ | refine qM rfl rfl rfl ?_ | refine qO rfl rfl rfl ?_ | refine zX rfl rfl rfl rfl ?_ | refine zW rfl rfl rfl rfl ?_ | (refine qY rfl rfl rfl rfl ?_ ?_ <;> intro _) | exact zD | exact zL)
end Go.Proofs.YtmfjfclpdmpncaaGreatDoor
