/- Words of the language and the checking of expressions, by both texts; The checking of expressions, by both texts; The checking of expressions by the reference; and what both checks answer; Expressions as canonical text: what both texts write; constants and signs; Expressions as canonical text, by both texts; Lists of expressions and operands as text, given the expressions' own texts, by both texts; Expressions as canonical text, by both texts. Conditions: each part's own, as it says. -/
import Derived.Test.YtenpjlghikohmaaGreatDoorGC
import Derived.Test.YtenpjlghikohmaaGreatDoorFA
import Derived.Test.YtenpjlghikohmaaGreatDoorMB
set_option linter.unusedVariables false
set_option linter.unusedSimpArgs false
namespace Go.Proofs.YtenpjlghikohmaaGreatDoor
set_option maxRecDepth 4000
open Go Go.Abs Go.Val Go.RowKit Go.Proofs.Tryz
attribute [local irreducible] go SGo HasBody Ev ExtEv EvO EvS
theorem upF_size (s : ByteArray) : (upF s).size = s.size := by unfold upF; rw [strOf_size, upL_len]
set_option maxRecDepth 10000 in
attribute [local irreducible] upF resF joinW wordsB in
theorem res_ev (s : ByteArray) (hs : s.size ≤ 1000) : Ev E 173 [.str s] (.d (.bool (resF s))) := by
 have hu := upper_ev s
 have hus := upF_size s
 have h1 : (⟨#[32]⟩ : ByteArray).size = 1 := rfl
 have hc1 := contains_ev s ⟨#[32]⟩ (by omega)
 cases h0 : !(s.toList == (⟨#[]⟩ : ByteArray).toList) with
 | false =>
  have e : resF s = false := by
   rw [resF_data, upF_list]
   have : s.data.toList = [] := by rw [Bool.not_eq_false', beq_iff_eq, ByteArray.toList_eq, ByteArray.toList_eq] at h0; exact h0
   rw [this]
   unfold wordsB
   decide +kernel
  rw [e]
  refine ye1 func173 ntmps173 fun _ _ _=>?_
  repeat' (first | refine yz ?_ | refine yx ?_ | exact zD)
 | true =>
  cases hb : Lib.contains s.data.toList [32] with
  | true =>
   rw [show (⟨#[32]⟩ : ByteArray).data.toList = [32] from rfl, hb] at hc1
   rw [res_blank s hb]
   refine ye1 func173 ntmps173 fun _ _ _=>?_
   repeat' (first | refine yz ?_ | refine yp b255 hc1 ?_ | refine yx ?_ | exact zD)
  | false =>
   rw [show (⟨#[32]⟩ : ByteArray).data.toList = [32] from rfl, hb] at hc1
   have hr := res_eq s hb
   refine ye1 func173 ntmps173 fun _ _ _=>?_
   repeat' (first | refine yz ?_ | refine qP (d := 7) rfl rfl rfl rfl rfl rfl b255 (hc1) ?_ | refine yp b256 hu ?_ | refine qP (d := 15) rfl rfl rfl rfl rfl rfl b255 ((contains_ev _ _ (by decide +kernel))) ?_ | refine yx ?_)
   rw [show ∀ x, (cond (bif true then !false else false) x false) = x from fun _ => rfl]
   refine congrArg D.bool (Eq.trans (congr (congrArg Lib.contains ?_) ?_) hr)
   ·unfold joinW wordsB
    decide +kernel
   ·simp only [ByteArray.data_append, Array.toList_append]
    simp
def wordF (s : ByteArray) : Bool := nameF s && !resF s
theorem nameF_size {s : ByteArray} (h : nameF s = true) : s.size ≤ 1000 := by
 unfold nameF at h
 simp only [Bool.and_eq_true, decide_eq_true_eq] at h
 omega
theorem word_ev (s : ByteArray) : Ev E 91 [.str s] (.d (.bool (wordF s))) := by
 have h1 := name_ev s
 unfold wordF
 cases hn : nameF s with
 | false =>
  rw [hn] at h1
  refine ye1 func91 ntmps91 fun _ _ _=>?_
  repeat' (first | refine yz ?_ | refine yp b122 h1 ?_ | exact zD)
 | true =>
  rw [hn] at h1
  have h2 := res_ev s (nameF_size hn)
  refine ye1 func91 ntmps91 fun _ _ _=>?_
  repeat' (first | refine yz ?_ | refine yp b122 h1 ?_ | refine yp b173 h2 ?_ | exact zD)
def nlF (e : Ex) : Bool :=
 bif e.op == 2 || (e.op == 3 || e.op == 4) then !wordF e.nm else
 bif e.op == 23 then ariLo e.nm == 0 else
 bif e.op == 24 then !aggF e.nm else false
theorem nameless_ev (e : Ex) : Ev E 260 [encE e] (.d (.bool (nlF e))) := by
 have h1 := word_ev e.nm
 have h2 := arity_ev e.nm
 have h3 := agg_ev e.nm
 refine ye1 func260 ntmps260 fun _ _ _=>?_
 repeat' (first | refine yz ?_ | refine yp b91 h1 ?_ | refine yp b325 h2 ?_ | refine yp b327 h3 ?_ | (refine qV rfl ?_ ?_ <;> intro _))
 all_goals (refine congrArg D.bool ?_; simp_all [nlF, Bool.cond_eq_ite])
end Go.Proofs.YtenpjlghikohmaaGreatDoor
namespace Go.Proofs.YtenpjlghikohmaaGreatDoor
set_option maxRecDepth 4000
open Go Go.Abs Go.Val Go.RowKit Go.Proofs.Tryz
attribute [local irreducible] go SGo HasBody Ev ExtEv EvO EvS
def selfF (e : Ex) (w : Bool) : Int :=
 bif (decide (e.op < 1) || decide (e.op > 24)) || (!opdF e || !spareF e) then 1 else
 bif e.op == 1 && !constF e.v then 8 else
 bif nlF e then 6 else
 bif e.op == 24 && w then 9 else 0
mutual
def visF : Ex → Bool → Int
 | .mk op v nm ds ks, w => bif selfF (.mk op v nm ds ks) w != 0 then selfF (.mk op v nm ds ks) w else visM ks (w || op == 24)
def visM : List Ex → Bool → Int
 | [], _ => 0
 | x :: r, w => bif visF x w != 0 then visF x w else visM r w
end
theorem visM_at {l : List Ex} {i : Nat} {x : Ex} {w : Bool} (h : l[i]? = some x) : visM (l.drop i) w = bif visF x w != 0 then visF x w else visM (l.drop (i + 1)) w := by
 rw [drop_at h, visM]
structure SVs (l : List Ex) (w : Bool) where
 i : Nat
 hi : i ≤ l.length
 ok : visM l w = visM (l.drop i) w
theorem visF_ok {e : Ex} {w : Bool} (h : selfF e w = 0) : visF e w = visM e.ks (w || e.op == 24) := by
 cases e
 rw [visF, h]; rfl
theorem visF_bad {e : Ex} {w : Bool} {c : Int} (h : selfF e w = c) (hc : (c != 0) = true) : c = visF e w := by
 cases e
 rw [visF, h, hc]; rfl
set_option maxHeartbeats 4000000 in
theorem visit_ev (e : Ex) : ∀ w, Ev E 177 [encE e, .bool w] (.d (.int (visF e w))) := by
 refine xind (P := fun e => ∀ w, Ev E 177 [encE e, .bool w] (.d (.int (visF e w)))) (fun op v nm ds ks ih w => ?_) e
 refine Ev.fit fun hfit => ?_
 obtain ⟨-, -, -, hmax, -⟩ := fit_encE (hfit (encE (.mk op v nm ds ks)) (by simp))
 have hlen : (kidsE (.mk op v nm ds ks)).length = ks.length := kidsE_len _
 have hkg : ∀ (i : Nat) (x : Ex), ks[i]? = some x → (kidsE (.mk op v nm ds ks))[(i : Int).toNat]? = some (encE x) := fun i x h => kidsE_get (e := .mk op v nm ds ks) (by rw [Int.toNat_natCast]; exact h)
 have hks : Ex.ks (.mk op v nm ds ks) = ks := rfl
 generalize Ex.mk op v nm ds ks = e at *
 rw [hks] at hmax
 have h1 := operands_ev e
 have h2 := spare_ev e
 have h3 := constant_ev e.v
 have h4 := nameless_ev e
 have hsf : ∀ c, (bif (decide (e.op < 1) || decide (e.op > 24)) || (!opdF e || !spareF e) then 1 else bif e.op == 1 && !constF e.v then 8 else bif nlF e then 6 else bif e.op == 24 && w then 9 else 0) = c → selfF e w = c := fun c h => h
 have hbad := fun c (h : selfF e w = c) => visF_bad h
 have hok := visF_ok (e := e) (w := w)
 rw [hks] at hok
 clear hks
 generalize hW : (w || e.op == 24) = W at hok
 cases w
 all_goals
  refine ye2 func177 ntmps177 fun _ _ _=>?_
  repeat' (first | refine yz ?_ | refine yp b257 h1 ?_ | refine yp b258 h2 ?_ | refine yp b259 h3 ?_ | refine yp b260 h4 ?_ | (refine yy ?_ ?_ <;> intro _) | (refine qV rfl ?_ ?_ <;> intro _))
  any_goals (refine congrArg D.int (hbad _ (hsf _ ?_) rfl); clear ih hkg hfit hsf hbad hok h1 h2 h3 h4; simp_all [Bool.cond_eq_ite]; done)
 all_goals
  rw [hok (hsf _ (by clear ih hkg hfit hsf hbad hok h1 h2 h3 h4; simp_all [Bool.cond_eq_ite]))]
  clear hsf hbad hok h1 h2 h3 h4
  refine go_loop_ (α := SVs ks W) (fun p => ⟨[(1, .d (.bool _)), (2, .ptr 0 0), (44, .d (.sl (kidsE e))), (45, .d (.int (kidsE e).length)), (46, .d (.int p.i))], [.var 92 (.w (.d (encE e)))]⟩) (fun p => ks.length - p.i) ⟨0, by omega, rfl⟩ (zle 1) ?_
  rintro ⟨i, hi, ok⟩
  dsimp only
  rcases Nat.lt_or_ge i ks.length with hlt | hge
  ·have hd1 : decide ((i : Int) < ((kidsE e).length : Int)) = true := by rw [hlen]; simpa using hlt
   have hx0 := List.getElem?_eq_getElem hlt
   generalize ks[i] = x at hx0
   have hx := hkg i x hx0
   have hv := ih x (List.mem_of_getElem? hx0) W
   rw [← hW] at hv
   rw [ok, visM_at hx0]
   cases hz : visF x W != 0 with
   | true =>
    rw [← hW] at hz ⊢
    repeat' (first | refine yz ?_ | refine yi (encE x) hx ?_ | refine yp b177 hv ?_ | exact zD)
   | false =>
    rw [← hW] at hz
    repeat' (first | refine yz ?_ | refine yi (encE x) hx ?_ | refine yp b177 hv ?_)
    refine go_stop ?_
    exact ⟨⟨i + 1, by omega, by rw [ok, visM_at hx0, ← hW, hz]; rfl⟩, by dsimp only; omega, (zle 1)⟩
  ·have hd1 : decide ((i : Int) < ((kidsE e).length : Int)) = false := by rw [hlen]; simp; omega
   rw [ok, List.drop_eq_nil_of_le hge, visM]
   repeat' (first | refine yz ?_ | exact zD)
end Go.Proofs.YtenpjlghikohmaaGreatDoor
namespace Go.Proofs.YtenpjlghikohmaaGreatDoor
set_option maxRecDepth 4000
open Go Go.Abs Go.Val Go.RowKit Go.Proofs.Tryz
attribute [local irreducible] go SGo HasBody Ev ExtEv EvO EvS
def chkF (e : Ex) : Int := bif decide (dp e > 24) then 5 else bif decide (nd e > 300) then 4 else visF e false
theorem check_ev (e : Ex) (h1 : dp e ≤ 1000000) (h2 : nd e ≤ 1000000) : Ev E 95 [encE e] (.d (.int (chkF e))) := by
 have a1 := depth_ev e h1
 have a2 := sizeE_ev e h2
 have a3 := visit_ev e false
 unfold chkF
 cases g1 : decide (dp e > 24) with
 | true =>
  have b1 : decide ((dp e : Int) > 24) = true := by simp at g1 ⊢; omega
  refine ye1 func95 ntmps95 fun _ _ _=>?_
  repeat' (first | refine yz ?_ | refine yp b175 a1 ?_ | exact zD)
 | false =>
  have b1 : decide ((dp e : Int) > 24) = false := by simp at g1 ⊢; omega
  cases g2 : decide (nd e > 300) with
  | true =>
   have b2 : decide ((nd e : Int) > 300) = true := by simp at g2 ⊢; omega
   refine ye1 func95 ntmps95 fun _ _ _=>?_
   repeat' (first | refine yz ?_ | refine yp b175 a1 ?_ | refine yp b176 a2 ?_ | exact zD)
  | false =>
   have b2 : decide ((nd e : Int) > 300) = false := by simp at g2 ⊢; omega
   refine ye1 func95 ntmps95 fun _ _ _=>?_
   repeat' (first | refine yz ?_ | refine yp b175 a1 ?_ | refine yp b176 a2 ?_ | refine yp b177 a3 ?_ | exact zD)
def okN (e : Ex) : Prop := 1 ≤ e.op ∧ e.op ≤ 24 ∧ opdF e = true ∧ (e.op = 1 → constF e.v = true)
end Go.Proofs.YtenpjlghikohmaaGreatDoor
