/- The check of a clause, by the program; The check of a clause, by the specification; The check of a query, by both texts. Conditions: each part's own, as it says. -/
import Derived.Test.YtmfjfclpdmpncaaGreatDoorCC
import Derived.Test.YtmfjfclpdmpncaaGreatDoorGC
set_option linter.unusedVariables false
set_option linter.unusedSimpArgs false
/- The check of a clause, by the program. Conditions: patterns and expressions of bounded size. -/
namespace Go.Proofs.YtmfjfclpdmpncaaGreatDoor
set_option maxRecDepth 4000
open Go Go.Abs Go.Val Go.RowKit
attribute [local irreducible] go SGo HasBody Ev ExtEv EvO EvS RGo

structure OkC (c : CL) : Prop where
  p : ∀ p ∈ c.ps, OkPA p
  w : ∀ e ∈ c.wh, okEx e
  e : okEx c.e
  i : ∀ x ∈ c.it, okEx x.e
  o : ∀ x ∈ c.od, okEx x.e
  s : ∀ x ∈ c.st, okEx x.e
theorem adI_fir : ∀ (l : List Int) (a : Int), l.foldl adI a = bif a != 0 then a else firI l
  | [], a => by
    rw [List.foldl_nil, firI]
    cases h : a != 0 with
    | true => rfl
    | false => simpa using h
  | x :: r, a => by
    rw [List.foldl_cons, adI_fir r, firI]
    unfold adI
    cases h : a == 0 with
    | true =>
      have e : a = 0 := by simpa using h
      subst e
      rfl
    | false =>
      have e : (a != 0) = true := by unfold bne; rw [h]; rfl
      rw [cond_false, e, cond_true, cond_true]
theorem adI_app (x y : List Int) : (x ++ y).foldl adI 0 = y.foldl adI (x.foldl adI 0) := List.foldl_append
theorem adI_flat {α : Type} (f : α → List Int) : ∀ (l : List α) (a : Int), (l.flatMap f).foldl adI a = l.foldl (fun a x => (f x).foldl adI a) a
  | [], a => rfl
  | x :: r, a => by rw [List.flatMap_cons, List.foldl_append, adI_flat f r, List.foldl_cons]
structure SLi {α : Type} (l : List α) (f : Int → α → Int) (a0 : Int) where
  i : Nat
  hi : i ≤ l.length
  a : Int
  ok : l.foldl f a0 = (l.drop i).foldl f a
def t1F (c : CL) : Int → PA → Int := fun a x => adI a (pathF x (c.k == 5))
def t2F : Int → Ex → Int := fun a x => adI a (chkF x)
def t3F : Int → IT → Int := fun a x => adI (adI a (chkF x.e)) (wrdI x.asn)
def t4F : Int → SK → Int := fun a x => adI a (chkF x.e)
def t5F : Int → SIt → Int := fun a x => adI a (setF x)
def t6F : Int → ByteArray → Int := fun a x => adI a (wrdI x)
def a2F (c : CL) : Int := c.wh.foldl t2F (c.ps.foldl (t1F c) 0)
def a3F (c : CL) : Int := bif c.k == 2 then adI (adI (a2F c) (chkF c.e)) (wrdI c.nm) else a2F c
def a7F (c : CL) : Int := c.ns.foldl t6F (c.st.foldl t5F (c.od.foldl t4F (c.it.foldl t3F (a3F c))))
theorem a7_eq (c : CL) : a7F c = firI (c.ps.map (fun p => pathF p (c.k == 5)) ++ c.wh.map chkF ++ (bif c.k == 2 then [chkF c.e, wrdI c.nm] else []) ++ c.it.flatMap (fun x => [chkF x.e, wrdI x.asn]) ++ c.od.map (fun x => chkF x.e) ++ c.st.map setF ++ c.ns.map wrdI) := by
  have h := adI_fir (c.ps.map (fun p => pathF p (c.k == 5)) ++ c.wh.map chkF ++ (bif c.k == 2 then [chkF c.e, wrdI c.nm] else []) ++ c.it.flatMap (fun x => [chkF x.e, wrdI x.asn]) ++ c.od.map (fun x => chkF x.e) ++ c.st.map setF ++ c.ns.map wrdI) 0
  rw [show ((0 : Int) != 0) = false from rfl, cond_false] at h
  rw [← h, adI_app, adI_app, adI_app, adI_app, adI_app, adI_app, adI_flat]
  simp only [List.foldl_map]
  unfold a7F a3F a2F
  cases c.k == 2 <;> rfl
theorem clau_eq (c : CL) (h1 : ((decide (c.k < 1) || decide (c.k > 8)) || strayF c) = false) (h2 : crowdF c = false) : clauF c = a7F c := by
  rw [a7_eq]
  unfold clauF
  rw [h1, h2]
  rfl
set_option maxHeartbeats 8000000 in
theorem checkclause_ev (c : CL) (hok : OkC c) : Ev E 52 [encCL c] (.d (.int (clauF c))) := Ev.fit fun hfit => by
  have hst := stray_ev c
  have hcr := crowded_ev c
  cases c0 : (decide (c.k < 1) || decide (c.k > 8)) with
  | true =>
    have e : clauF c = 1 := by unfold clauF; rw [c0]; rfl
    rw [e]
    obtain ⟨k, opt, ds, ps, wh, e, nm, it, od, sk, lm, st, ns⟩ := c
    dsimp only at c0
    clear hst hcr hok hfit
    have c0' := c0
    rw [Bool.or_eq_true] at c0'
    cases c2 : decide (k < 1) with
    | true =>
      refine enter1 Tryz.func52 Tryz.ntmps52 rfl rfl fun w0 F0 O => ?_
      repeat' (first | refine zS rfl ?_ | refine qA ?_ | refine qB rfl ?_ | refine qD ?_ | refine qE ?_ | refine qF ?_ | refine zT rfl ?_ | refine qL rfl rfl ?_ | refine zX rfl rfl rfl rfl ?_ | exact zD)
    | false =>
      have c3 : decide (k > 8) = true := by rw [c2] at c0; simpa using c0
      refine enter1 Tryz.func52 Tryz.ntmps52 rfl rfl fun w0 F0 O => ?_
      repeat' (first | refine zS rfl ?_ | refine qA ?_ | refine qB rfl ?_ | refine qD ?_ | refine qE ?_ | refine qF ?_ | refine zT rfl ?_ | refine qL rfl rfl ?_ | refine zW rfl rfl rfl rfl ?_ | exact zD)
  | false =>
    cases c1 : strayF c with
    | true =>
      have e : clauF c = 1 := by unfold clauF; rw [c0, c1]; rfl
      rw [e]
      rw [c1] at hst
      obtain ⟨k, opt, ds, ps, wh, e, nm, it, od, sk, lm, st, ns⟩ := c
      dsimp only at c0
      rw [Bool.or_eq_false_iff] at c0
      obtain ⟨c2, c3⟩ := c0
      refine enter1 Tryz.func52 Tryz.ntmps52 rfl rfl fun w0 F0 O => ?_
      repeat' (first | refine zS rfl ?_ | refine qA ?_ | refine qB rfl ?_ | refine qD ?_ | refine qF ?_ | refine qP rfl rfl rfl rfl rfl rfl b110 (hst) ?_ | refine zT rfl ?_ | refine zU rfl ?_ | refine qL rfl rfl ?_ | refine zW rfl rfl rfl rfl ?_ | exact zD)
    | false =>
      cases c4 : crowdF c with
      | true =>
        have e : clauF c = 4 := by unfold clauF; rw [c0, c1, c4]; rfl
        rw [e]
        rw [c1] at hst
        rw [c4] at hcr
        obtain ⟨k, opt, ds, ps, wh, e, nm, it, od, sk, lm, st, ns⟩ := c
        dsimp only at c0
        rw [Bool.or_eq_false_iff] at c0
        obtain ⟨c2, c3⟩ := c0
        refine enter1 Tryz.func52 Tryz.ntmps52 rfl rfl fun w0 F0 O => ?_
        repeat' (first | refine zS rfl ?_ | refine qA ?_ | refine qB rfl ?_ | refine qD ?_ | refine qF ?_ | refine qP rfl rfl rfl rfl rfl rfl b110 (hst) ?_ | refine qP rfl rfl rfl rfl rfl rfl b111 (hcr) ?_ | refine zT rfl ?_ | refine zU rfl ?_ | refine qL rfl rfl ?_ | refine zW rfl rfl rfl rfl ?_ | exact zD)
      | false =>
        rw [clau_eq c (by rw [c0, c1]; rfl) c4]
        rw [c1] at hst
        rw [c4] at hcr
        rw [Bool.or_eq_false_iff] at c0
        obtain ⟨c2, c3⟩ := c0
        have hkp := hok.p
        have hkw := hok.w
        have hke := hok.e
        have hki := hok.i
        have hko := hok.o
        have hks := hok.s
        have hft := hfit (encCL c) (by simp)
        have m1 := (fitc_map (hft.aggs (.sl (c.ps.map encPA)) (by simp))).1
        have m2 := (fit_encEL (hft.aggs (.sl (encEL c.wh)) (by simp))).1
        have m3 := (fitc_map (hft.aggs (.sl (c.it.map encIT)) (by simp))).1
        have m4 := (fitc_map (hft.aggs (.sl (c.od.map encSK)) (by simp))).1
        have m5 := (fitc_map (hft.aggs (.sl (c.st.map encSI)) (by simp))).1
        have m6 := (fitc_map (hft.aggs (.sl (c.ns.map D.str)) (by simp))).1
        clear hft
        have l1 : (c.ps.map encPA).length = c.ps.length := by simp
        have l2 : (encEL c.wh).length = c.wh.length := encEL_len _
        have l3 : (c.it.map encIT).length = c.it.length := by simp
        have l4 : (c.od.map encSK).length = c.od.length := by simp
        have l5 : (c.st.map encSI).length = c.st.length := by simp
        have l6 : (c.ns.map D.str).length = c.ns.length := by simp
        obtain ⟨f1, hf1⟩ : ∃ f, t1F c = f := ⟨_, rfl⟩
        have hf1' : ∀ a x, f1 a x = adI a (pathF x (c.k == 5)) := by intro a x; rw [← hf1]; rfl
        have hgoal : a7F c = c.ns.foldl t6F (c.st.foldl t5F (c.od.foldl t4F (c.it.foldl t3F (bif c.k == 2 then adI (adI (c.wh.foldl t2F (c.ps.foldl f1 0)) (chkF c.e)) (wrdI c.nm) else (c.wh.foldl t2F (c.ps.foldl f1 0)))))) := by rw [← hf1]; rfl
        rw [hgoal]
        clear hf1 hgoal hok c1 c4 hfit
        obtain ⟨k, opt, ds, ps, wh, e, nm, it, od, sk, lm, st, ns⟩ := c
        dsimp only at *
        refine enter1 Tryz.func52 Tryz.ntmps52 rfl rfl fun w0 F0 O => ?_
        repeat' (first | refine zS rfl ?_ | refine qA ?_ | refine qB rfl ?_ | refine qD ?_ | refine qE ?_ | refine qF ?_ | refine qG ?_ | refine qP rfl rfl rfl rfl rfl rfl b110 (hst) ?_ | refine qP rfl rfl rfl rfl rfl rfl b111 (hcr) ?_ | refine zU rfl ?_ | refine zW rfl rfl rfl rfl ?_)
        clear hst hcr
        refine go_loop_ (α := SLi ps f1 0) (fun p => ⟨[(1, .ptr 0 0), (3, .ptr 1 0), (31, .d (.sl (ps.map encPA))), (32, .d (.int (ps.map encPA).length)), (33, .d (.int p.i))], [oCL ⟨k, opt, ds, ps, wh, e, nm, it, od, sk, lm, st, ns⟩, oLT p.a]⟩) (fun p => ps.length - p.i) ⟨0, by omega, 0, rfl⟩ (Le.trans (b := ⟨[(1, .ptr 0 0), (3, .ptr 1 0), (31, .d (.sl (ps.map encPA))), (32, .d (.int (ps.map encPA).length)), (33, .d (.int 0))], [oCL ⟨k, opt, ds, ps, wh, e, nm, it, od, sk, lm, st, ns⟩, oLi false 0]⟩) ((zle 2)) (Le.recell rfl (oLi_w _))) ?_
        rintro ⟨i, hi, a, ok⟩
        dsimp only at ok ⊢
        rcases Nat.lt_or_ge i ps.length with hlt | hge
        · have g1 : decide ((i : Int) < ((ps.map encPA).length : Int)) = true := by rw [l1]; simpa using hlt
          have hx0 := List.getElem?_eq_getElem hlt
          generalize ps[i] = x at hx0
          have hx := map_c (f := encPA) hx0
          have hm := List.mem_of_getElem? hx0
          rw [drop_c hx0, List.foldl_cons] at ok
          have h1 := checkpath_ev x (k == 5) (hkp x hm)
          have h2 := addT_ev a (pathF x (k == 5))
          rw [hf1'] at ok
          repeat' (first | refine zS rfl ?_ | refine qA ?_ | refine qB rfl ?_ | refine qD ?_ | refine qE ?_ | refine qF ?_ | refine qG ?_ | refine qI (encPA x) rfl (guardX_ok rfl) rfl rfl rfl rfl rfl rfl (by first | omega | decide) hx ?_ | refine qP rfl rfl rfl rfl rfl rfl b60 (h1) ?_ | refine go_callS [1] rfl rfl rfl rfl (FnX.plain _) b112 (h2) rfl rfl rfl rfl rfl ?_ | refine zT rfl ?_)
          refine go_stop ?_
          exact ⟨⟨i + 1, by omega, _, ok⟩, by dsimp only; omega, (zle 2)⟩
        · have g1 : decide ((i : Int) < ((ps.map encPA).length : Int)) = false := by rw [l1]; simp; omega
          rw [List.drop_eq_nil_of_le hge, List.foldl_nil] at ok
          rw [ok]
          clear ok hi hge
          revert a
          intro a1
          repeat' (first | refine zS rfl ?_ | refine qA ?_ | refine qB rfl ?_ | refine qD ?_ | refine qF ?_ | refine qH rfl ?_ | refine zU rfl ?_)
          refine go_loop_ (α := SLi wh t2F a1) (fun p => ⟨[(1, .ptr 0 0), (3, .ptr 1 0), (45, .d (.sl (encEL wh))), (46, .d (.int (encEL wh).length)), (47, .d (.int p.i))], [oCL ⟨k, opt, ds, ps, wh, e, nm, it, od, sk, lm, st, ns⟩, oLT p.a]⟩) (fun p => wh.length - p.i) ⟨0, by omega, a1, rfl⟩ ((zle 2)) ?_
          rintro ⟨i, hi, a, ok⟩
          dsimp only at ok ⊢
          rcases Nat.lt_or_ge i wh.length with hlt | hge
          · have g1 : decide ((i : Int) < ((encEL wh).length : Int)) = true := by rw [l2]; simpa using hlt
            have hx0 := List.getElem?_eq_getElem hlt
            generalize wh[i] = x at hx0
            have hx := by have := encEL_get hx0; exact (show (encEL wh)[((i : Nat) : Int).toNat]? = some (encE x) by rw [Int.toNat_natCast]; exact this)
            have hm := List.mem_of_getElem? hx0
            rw [drop_c hx0, List.foldl_cons] at ok
            have h1 := check_ev x (hkw x hm).1 (hkw x hm).2
            have h2 := addT_ev a (chkF x)
            repeat' (first | refine zS rfl ?_ | refine qA ?_ | refine qB rfl ?_ | refine qD ?_ | refine qE ?_ | refine qF ?_ | refine qG ?_ | refine qI (encE x) rfl (guardX_ok rfl) rfl rfl rfl rfl rfl rfl (by first | omega | decide) hx ?_ | refine qP rfl rfl rfl rfl rfl rfl b108 (h1) ?_ | refine go_callS [1] rfl rfl rfl rfl (FnX.plain _) b112 (h2) rfl rfl rfl rfl rfl ?_ | refine zT rfl ?_)
            refine go_stop ?_
            exact ⟨⟨i + 1, by omega, _, ok⟩, by dsimp only; omega, (zle 2)⟩
          · have g1 : decide ((i : Int) < ((encEL wh).length : Int)) = false := by rw [l2]; simp; omega
            rw [List.drop_eq_nil_of_le hge, List.foldl_nil] at ok
            rw [ok]
            clear ok hi hge
            revert a
            intro a2
            have h8 := check_ev e hke.1 hke.2
            have h9 := addT_ev a2 (chkF e)
            have h10 := needT_ev (adI a2 (chkF e)) nm
            cases hk2 : k == 2 with
            | true =>
              rw [cond_true]
              repeat' (first | refine zS rfl ?_ | refine qA ?_ | refine qB rfl ?_ | refine qD ?_ | refine qF ?_ | refine qH rfl ?_ | refine qP rfl rfl rfl rfl rfl rfl b108 (h8) ?_ | refine go_callS [1] rfl rfl rfl rfl (FnX.plain _) b112 (h9) rfl rfl rfl rfl rfl ?_ | refine go_callS [1] rfl rfl rfl rfl (FnX.plain _) b113 (h10) rfl rfl rfl rfl rfl ?_ | refine zT rfl ?_ | refine zU rfl ?_)
              refine go_loop_ (α := SLi it t3F (adI (adI a2 (chkF e)) (wrdI nm))) (fun p => ⟨[(1, .ptr 0 0), (3, .ptr 1 0), (66, .d (.sl (it.map encIT))), (67, .d (.int (it.map encIT).length)), (68, .d (.int p.i))], [oCL ⟨k, opt, ds, ps, wh, e, nm, it, od, sk, lm, st, ns⟩, oLT p.a]⟩) (fun p => it.length - p.i) ⟨0, by omega, (adI (adI a2 (chkF e)) (wrdI nm)), rfl⟩ ((zle 2)) ?_
              rintro ⟨i, hi, a, ok⟩
              dsimp only at ok ⊢
              rcases Nat.lt_or_ge i it.length with hlt | hge
              · have g1 : decide ((i : Int) < ((it.map encIT).length : Int)) = true := by rw [l3]; simpa using hlt
                have hx0 := List.getElem?_eq_getElem hlt
                generalize it[i] = x at hx0
                have hx := map_c (f := encIT) hx0
                have hm := List.mem_of_getElem? hx0
                rw [drop_c hx0, List.foldl_cons] at ok
                have h1 := check_ev x.e (hki x hm).1 (hki x hm).2
                have h2 := addT_ev a (chkF x.e)
                have h3 := needT_ev (adI a (chkF x.e)) x.asn
                repeat' (first | refine zS rfl ?_ | refine qA ?_ | refine qB rfl ?_ | refine qD ?_ | refine qE ?_ | refine qF ?_ | refine qG ?_ | refine qI (encIT x) rfl (guardX_ok rfl) rfl rfl rfl rfl rfl rfl (by first | omega | decide) hx ?_ | refine go_load0 rfl rfl rfl rfl rfl rfl rfl ?_ | refine qP rfl rfl rfl rfl rfl rfl b108 (h1) ?_ | refine go_callS [1] rfl rfl rfl rfl (FnX.plain _) b112 (h2) rfl rfl rfl rfl rfl ?_ | refine go_callS [1] rfl rfl rfl rfl (FnX.plain _) b113 (h3) rfl rfl rfl rfl rfl ?_ | refine zT rfl ?_)
                refine go_stop ?_
                exact ⟨⟨i + 1, by omega, _, ok⟩, by dsimp only; omega, (zle 2)⟩
              · have g1 : decide ((i : Int) < ((it.map encIT).length : Int)) = false := by rw [l3]; simp; omega
                rw [List.drop_eq_nil_of_le hge, List.foldl_nil] at ok
                rw [ok]
                clear ok hi hge
                revert a
                intro a4
                repeat' (first | refine zS rfl ?_ | refine qA ?_ | refine qB rfl ?_ | refine qD ?_ | refine qF ?_ | refine qH rfl ?_ | refine zU rfl ?_)
                refine go_loop_ (α := SLi od t4F a4) (fun p => ⟨[(1, .ptr 0 0), (3, .ptr 1 0), (81, .d (.sl (od.map encSK))), (82, .d (.int (od.map encSK).length)), (83, .d (.int p.i))], [oCL ⟨k, opt, ds, ps, wh, e, nm, it, od, sk, lm, st, ns⟩, oLT p.a]⟩) (fun p => od.length - p.i) ⟨0, by omega, a4, rfl⟩ ((zle 2)) ?_
                rintro ⟨i, hi, a, ok⟩
                dsimp only at ok ⊢
                rcases Nat.lt_or_ge i od.length with hlt | hge
                · have g1 : decide ((i : Int) < ((od.map encSK).length : Int)) = true := by rw [l4]; simpa using hlt
                  have hx0 := List.getElem?_eq_getElem hlt
                  generalize od[i] = x at hx0
                  have hx := map_c (f := encSK) hx0
                  have hm := List.mem_of_getElem? hx0
                  rw [drop_c hx0, List.foldl_cons] at ok
                  have h1 := check_ev x.e (hko x hm).1 (hko x hm).2
                  have h2 := addT_ev a (chkF x.e)
                  repeat' (first | refine zS rfl ?_ | refine qA ?_ | refine qB rfl ?_ | refine qD ?_ | refine qE ?_ | refine qF ?_ | refine qG ?_ | refine qI (encSK x) rfl (guardX_ok rfl) rfl rfl rfl rfl rfl rfl (by first | omega | decide) hx ?_ | refine go_load0 rfl rfl rfl rfl rfl rfl rfl ?_ | refine qP rfl rfl rfl rfl rfl rfl b108 (h1) ?_ | refine go_callS [1] rfl rfl rfl rfl (FnX.plain _) b112 (h2) rfl rfl rfl rfl rfl ?_ | refine zT rfl ?_)
                  refine go_stop ?_
                  exact ⟨⟨i + 1, by omega, _, ok⟩, by dsimp only; omega, (zle 2)⟩
                · have g1 : decide ((i : Int) < ((od.map encSK).length : Int)) = false := by rw [l4]; simp; omega
                  rw [List.drop_eq_nil_of_le hge, List.foldl_nil] at ok
                  rw [ok]
                  clear ok hi hge
                  revert a
                  intro a5
                  repeat' (first | refine zS rfl ?_ | refine qA ?_ | refine qB rfl ?_ | refine qD ?_ | refine qF ?_ | refine qH rfl ?_ | refine zU rfl ?_)
                  refine go_loop_ (α := SLi st t5F a5) (fun p => ⟨[(1, .ptr 0 0), (3, .ptr 1 0), (93, .d (.sl (st.map encSI))), (94, .d (.int (st.map encSI).length)), (95, .d (.int p.i))], [oCL ⟨k, opt, ds, ps, wh, e, nm, it, od, sk, lm, st, ns⟩, oLT p.a]⟩) (fun p => st.length - p.i) ⟨0, by omega, a5, rfl⟩ ((zle 2)) ?_
                  rintro ⟨i, hi, a, ok⟩
                  dsimp only at ok ⊢
                  rcases Nat.lt_or_ge i st.length with hlt | hge
                  · have g1 : decide ((i : Int) < ((st.map encSI).length : Int)) = true := by rw [l5]; simpa using hlt
                    have hx0 := List.getElem?_eq_getElem hlt
                    generalize st[i] = x at hx0
                    have hx := map_c (f := encSI) hx0
                    have hm := List.mem_of_getElem? hx0
                    rw [drop_c hx0, List.foldl_cons] at ok
                    have h1 := checkset_ev x (hks x hm)
                    have h2 := addT_ev a (setF x)
                    repeat' (first | refine zS rfl ?_ | refine qA ?_ | refine qB rfl ?_ | refine qD ?_ | refine qE ?_ | refine qF ?_ | refine qG ?_ | refine qI (encSI x) rfl (guardX_ok rfl) rfl rfl rfl rfl rfl rfl (by first | omega | decide) hx ?_ | refine qP rfl rfl rfl rfl rfl rfl b114 (h1) ?_ | refine go_callS [1] rfl rfl rfl rfl (FnX.plain _) b112 (h2) rfl rfl rfl rfl rfl ?_ | refine zT rfl ?_)
                    refine go_stop ?_
                    exact ⟨⟨i + 1, by omega, _, ok⟩, by dsimp only; omega, (zle 2)⟩
                  · have g1 : decide ((i : Int) < ((st.map encSI).length : Int)) = false := by rw [l5]; simp; omega
                    rw [List.drop_eq_nil_of_le hge, List.foldl_nil] at ok
                    rw [ok]
                    clear ok hi hge
                    revert a
                    intro a6
                    repeat' (first | refine zS rfl ?_ | refine qA ?_ | refine qB rfl ?_ | refine qD ?_ | refine qF ?_ | refine qH rfl ?_ | refine zU rfl ?_)
                    refine go_loop_ (α := SLi ns t6F a6) (fun p => ⟨[(1, .ptr 0 0), (3, .ptr 1 0), (104, .d (.sl (ns.map D.str))), (105, .d (.int (ns.map D.str).length)), (106, .d (.int p.i))], [oCL ⟨k, opt, ds, ps, wh, e, nm, it, od, sk, lm, st, ns⟩, oLT p.a]⟩) (fun p => ns.length - p.i) ⟨0, by omega, a6, rfl⟩ ((zle 2)) ?_
                    rintro ⟨i, hi, a, ok⟩
                    dsimp only at ok ⊢
                    rcases Nat.lt_or_ge i ns.length with hlt | hge
                    · have g1 : decide ((i : Int) < ((ns.map D.str).length : Int)) = true := by rw [l6]; simpa using hlt
                      have hx0 := List.getElem?_eq_getElem hlt
                      generalize ns[i] = x at hx0
                      have hx := map_c (f := D.str) hx0
                      have hm := List.mem_of_getElem? hx0
                      rw [drop_c hx0, List.foldl_cons] at ok
                      have h3 := needT_ev a x
                      repeat' (first | refine zS rfl ?_ | refine qA ?_ | refine qB rfl ?_ | refine qD ?_ | refine qE ?_ | refine qF ?_ | refine qG ?_ | refine qI (.str x) rfl (guardX_ok rfl) rfl rfl rfl rfl rfl rfl (by first | omega | decide) hx ?_ | refine go_callS [1] rfl rfl rfl rfl (FnX.plain _) b113 (h3) rfl rfl rfl rfl rfl ?_ | refine zT rfl ?_)
                      refine go_stop ?_
                      exact ⟨⟨i + 1, by omega, _, ok⟩, by dsimp only; omega, (zle 2)⟩
                    · have g1 : decide ((i : Int) < ((ns.map D.str).length : Int)) = false := by rw [l6]; simp; omega
                      rw [List.drop_eq_nil_of_le hge, List.foldl_nil] at ok
                      rw [ok]
                      clear ok hi hge
                      revert a
                      intro a7
                      repeat' (first | refine zS rfl ?_ | refine qA ?_ | refine qB rfl ?_ | refine qD ?_ | refine qH rfl ?_ | refine zU rfl ?_ | refine qL rfl rfl ?_ | exact zD)
            | false =>
              rw [cond_false]
              repeat' (first | refine zS rfl ?_ | refine qA ?_ | refine qB rfl ?_ | refine qD ?_ | refine qE ?_ | refine qF ?_ | refine qH rfl ?_ | refine zU rfl ?_)
              refine go_loop_ (α := SLi it t3F a2) (fun p => ⟨[(1, .ptr 0 0), (3, .ptr 1 0), (66, .d (.sl (it.map encIT))), (67, .d (.int (it.map encIT).length)), (68, .d (.int p.i))], [oCL ⟨k, opt, ds, ps, wh, e, nm, it, od, sk, lm, st, ns⟩, oLT p.a]⟩) (fun p => it.length - p.i) ⟨0, by omega, a2, rfl⟩ ((zle 2)) ?_
              rintro ⟨i, hi, a, ok⟩
              dsimp only at ok ⊢
              rcases Nat.lt_or_ge i it.length with hlt | hge
              · have g1 : decide ((i : Int) < ((it.map encIT).length : Int)) = true := by rw [l3]; simpa using hlt
                have hx0 := List.getElem?_eq_getElem hlt
                generalize it[i] = x at hx0
                have hx := map_c (f := encIT) hx0
                have hm := List.mem_of_getElem? hx0
                rw [drop_c hx0, List.foldl_cons] at ok
                have h1 := check_ev x.e (hki x hm).1 (hki x hm).2
                have h2 := addT_ev a (chkF x.e)
                have h3 := needT_ev (adI a (chkF x.e)) x.asn
                repeat' (first | refine zS rfl ?_ | refine qA ?_ | refine qB rfl ?_ | refine qD ?_ | refine qE ?_ | refine qF ?_ | refine qG ?_ | refine qI (encIT x) rfl (guardX_ok rfl) rfl rfl rfl rfl rfl rfl (by first | omega | decide) hx ?_ | refine go_load0 rfl rfl rfl rfl rfl rfl rfl ?_ | refine qP rfl rfl rfl rfl rfl rfl b108 (h1) ?_ | refine go_callS [1] rfl rfl rfl rfl (FnX.plain _) b112 (h2) rfl rfl rfl rfl rfl ?_ | refine go_callS [1] rfl rfl rfl rfl (FnX.plain _) b113 (h3) rfl rfl rfl rfl rfl ?_ | refine zT rfl ?_)
                refine go_stop ?_
                exact ⟨⟨i + 1, by omega, _, ok⟩, by dsimp only; omega, (zle 2)⟩
              · have g1 : decide ((i : Int) < ((it.map encIT).length : Int)) = false := by rw [l3]; simp; omega
                rw [List.drop_eq_nil_of_le hge, List.foldl_nil] at ok
                rw [ok]
                clear ok hi hge
                revert a
                intro a4
                repeat' (first | refine zS rfl ?_ | refine qA ?_ | refine qB rfl ?_ | refine qD ?_ | refine qF ?_ | refine qH rfl ?_ | refine zU rfl ?_)
                refine go_loop_ (α := SLi od t4F a4) (fun p => ⟨[(1, .ptr 0 0), (3, .ptr 1 0), (81, .d (.sl (od.map encSK))), (82, .d (.int (od.map encSK).length)), (83, .d (.int p.i))], [oCL ⟨k, opt, ds, ps, wh, e, nm, it, od, sk, lm, st, ns⟩, oLT p.a]⟩) (fun p => od.length - p.i) ⟨0, by omega, a4, rfl⟩ ((zle 2)) ?_
                rintro ⟨i, hi, a, ok⟩
                dsimp only at ok ⊢
                rcases Nat.lt_or_ge i od.length with hlt | hge
                · have g1 : decide ((i : Int) < ((od.map encSK).length : Int)) = true := by rw [l4]; simpa using hlt
                  have hx0 := List.getElem?_eq_getElem hlt
                  generalize od[i] = x at hx0
                  have hx := map_c (f := encSK) hx0
                  have hm := List.mem_of_getElem? hx0
                  rw [drop_c hx0, List.foldl_cons] at ok
                  have h1 := check_ev x.e (hko x hm).1 (hko x hm).2
                  have h2 := addT_ev a (chkF x.e)
                  repeat' (first | refine zS rfl ?_ | refine qA ?_ | refine qB rfl ?_ | refine qD ?_ | refine qE ?_ | refine qF ?_ | refine qG ?_ | refine qI (encSK x) rfl (guardX_ok rfl) rfl rfl rfl rfl rfl rfl (by first | omega | decide) hx ?_ | refine go_load0 rfl rfl rfl rfl rfl rfl rfl ?_ | refine qP rfl rfl rfl rfl rfl rfl b108 (h1) ?_ | refine go_callS [1] rfl rfl rfl rfl (FnX.plain _) b112 (h2) rfl rfl rfl rfl rfl ?_ | refine zT rfl ?_)
                  refine go_stop ?_
                  exact ⟨⟨i + 1, by omega, _, ok⟩, by dsimp only; omega, (zle 2)⟩
                · have g1 : decide ((i : Int) < ((od.map encSK).length : Int)) = false := by rw [l4]; simp; omega
                  rw [List.drop_eq_nil_of_le hge, List.foldl_nil] at ok
                  rw [ok]
                  clear ok hi hge
                  revert a
                  intro a5
                  repeat' (first | refine zS rfl ?_ | refine qA ?_ | refine qB rfl ?_ | refine qD ?_ | refine qF ?_ | refine qH rfl ?_ | refine zU rfl ?_)
                  refine go_loop_ (α := SLi st t5F a5) (fun p => ⟨[(1, .ptr 0 0), (3, .ptr 1 0), (93, .d (.sl (st.map encSI))), (94, .d (.int (st.map encSI).length)), (95, .d (.int p.i))], [oCL ⟨k, opt, ds, ps, wh, e, nm, it, od, sk, lm, st, ns⟩, oLT p.a]⟩) (fun p => st.length - p.i) ⟨0, by omega, a5, rfl⟩ ((zle 2)) ?_
                  rintro ⟨i, hi, a, ok⟩
                  dsimp only at ok ⊢
                  rcases Nat.lt_or_ge i st.length with hlt | hge
                  · have g1 : decide ((i : Int) < ((st.map encSI).length : Int)) = true := by rw [l5]; simpa using hlt
                    have hx0 := List.getElem?_eq_getElem hlt
                    generalize st[i] = x at hx0
                    have hx := map_c (f := encSI) hx0
                    have hm := List.mem_of_getElem? hx0
                    rw [drop_c hx0, List.foldl_cons] at ok
                    have h1 := checkset_ev x (hks x hm)
                    have h2 := addT_ev a (setF x)
                    repeat' (first | refine zS rfl ?_ | refine qA ?_ | refine qB rfl ?_ | refine qD ?_ | refine qE ?_ | refine qF ?_ | refine qG ?_ | refine qI (encSI x) rfl (guardX_ok rfl) rfl rfl rfl rfl rfl rfl (by first | omega | decide) hx ?_ | refine qP rfl rfl rfl rfl rfl rfl b114 (h1) ?_ | refine go_callS [1] rfl rfl rfl rfl (FnX.plain _) b112 (h2) rfl rfl rfl rfl rfl ?_ | refine zT rfl ?_)
                    refine go_stop ?_
                    exact ⟨⟨i + 1, by omega, _, ok⟩, by dsimp only; omega, (zle 2)⟩
                  · have g1 : decide ((i : Int) < ((st.map encSI).length : Int)) = false := by rw [l5]; simp; omega
                    rw [List.drop_eq_nil_of_le hge, List.foldl_nil] at ok
                    rw [ok]
                    clear ok hi hge
                    revert a
                    intro a6
                    repeat' (first | refine zS rfl ?_ | refine qA ?_ | refine qB rfl ?_ | refine qD ?_ | refine qF ?_ | refine qH rfl ?_ | refine zU rfl ?_)
                    refine go_loop_ (α := SLi ns t6F a6) (fun p => ⟨[(1, .ptr 0 0), (3, .ptr 1 0), (104, .d (.sl (ns.map D.str))), (105, .d (.int (ns.map D.str).length)), (106, .d (.int p.i))], [oCL ⟨k, opt, ds, ps, wh, e, nm, it, od, sk, lm, st, ns⟩, oLT p.a]⟩) (fun p => ns.length - p.i) ⟨0, by omega, a6, rfl⟩ ((zle 2)) ?_
                    rintro ⟨i, hi, a, ok⟩
                    dsimp only at ok ⊢
                    rcases Nat.lt_or_ge i ns.length with hlt | hge
                    · have g1 : decide ((i : Int) < ((ns.map D.str).length : Int)) = true := by rw [l6]; simpa using hlt
                      have hx0 := List.getElem?_eq_getElem hlt
                      generalize ns[i] = x at hx0
                      have hx := map_c (f := D.str) hx0
                      have hm := List.mem_of_getElem? hx0
                      rw [drop_c hx0, List.foldl_cons] at ok
                      have h3 := needT_ev a x
                      repeat' (first | refine zS rfl ?_ | refine qA ?_ | refine qB rfl ?_ | refine qD ?_ | refine qE ?_ | refine qF ?_ | refine qG ?_ | refine qI (.str x) rfl (guardX_ok rfl) rfl rfl rfl rfl rfl rfl (by first | omega | decide) hx ?_ | refine go_callS [1] rfl rfl rfl rfl (FnX.plain _) b113 (h3) rfl rfl rfl rfl rfl ?_ | refine zT rfl ?_)
                      refine go_stop ?_
                      exact ⟨⟨i + 1, by omega, _, ok⟩, by dsimp only; omega, (zle 2)⟩
                    · have g1 : decide ((i : Int) < ((ns.map D.str).length : Int)) = false := by rw [l6]; simp; omega
                      rw [List.drop_eq_nil_of_le hge, List.foldl_nil] at ok
                      rw [ok]
                      clear ok hi hge
                      revert a
                      intro a7
                      repeat' (first | refine zS rfl ?_ | refine qA ?_ | refine qB rfl ?_ | refine qD ?_ | refine qH rfl ?_ | refine zU rfl ?_ | refine qL rfl rfl ?_ | exact zD)
end Go.Proofs.YtmfjfclpdmpncaaGreatDoor

/- The check of a clause, by the specification. Conditions: patterns and expressions of bounded size. -/
namespace Go.Proofs.YtmfjfclpdmpncaaGreatDoor
set_option maxRecDepth 4000
open Go Go.Abs Go.Val Go.RowKit
attribute [local irreducible] go SGo HasBody Ev ExtEv EvO EvS RGo

theorem firI_cons (x : Int) (r : List Int) : firI (x :: r) = bif x != 0 then x else firI r := rfl
theorem firI_nm : ∀ l : List ByteArray, firI (l.map wrdI) = bif l.all wordF then 0 else 6
  | [] => rfl
  | s :: r => by
    rw [List.map_cons, firI_cons, firI_nm r, List.all_cons]
    unfold wrdI
    cases wordF s <;> rfl
structure SFr {α : Type} (l : List α) (f : α → List Int) (R : List Int) where
  i : Nat
  hi : i ≤ l.length
  ok : firI (l.flatMap f ++ R) = firI ((l.drop i).flatMap f ++ R)
def p1F (c : CL) (x : PA) : List Int := [pathF x (c.k == 5)]
def p2F (x : Ex) : List Int := [chkF x]
def p3F (x : IT) : List Int := [chkF x.e, wrdI x.asn]
def p4F (x : SK) : List Int := [chkF x.e]
def p5F (x : SIt) : List Int := [setF x]
def r5F (c : CL) : List Int := c.st.flatMap p5F ++ c.ns.map wrdI
def r4F (c : CL) : List Int := c.od.flatMap p4F ++ r5F c
def r3F (c : CL) : List Int := c.it.flatMap p3F ++ r4F c
def rEF (c : CL) : List Int := (bif c.k == 2 then [chkF c.e, wrdI c.nm] else []) ++ r3F c
def r2F (c : CL) : List Int := c.wh.flatMap p2F ++ rEF c
def r1F (c : CL) : List Int := c.ps.flatMap (p1F c) ++ r2F c
theorem flat_one {α : Type} (g : α → Int) : ∀ l : List α, l.flatMap (fun x => [g x]) = l.map g
  | [] => rfl
  | x :: r => by rw [List.flatMap_cons, flat_one g r]; rfl
theorem r1_eq (c : CL) : firI (r1F c) = a7F c := by
  rw [a7_eq]
  congr 1
  unfold r1F r2F rEF r3F r4F r5F p1F p2F p3F p4F p5F
  rw [flat_one, flat_one, flat_one, flat_one]
  simp only [List.append_assoc]
set_option maxHeartbeats 8000000 in
theorem rparts_ev (c : CL) (hok : OkC c) : Ev E 121 [encCL c] (.d (.int (firI (r1F c)))) := Ev.fit fun hfit => by
  have hkp := hok.p
  have hkw := hok.w
  have hke := rcheck_ev c.e hok.e.1 hok.e.2
  have hki := hok.i
  have hko := hok.o
  have hks := hok.s
  have l1 : (c.ps.map encPA).length = c.ps.length := by simp
  have l2 : (encEL c.wh).length = c.wh.length := encEL_len _
  have l3 : (c.it.map encIT).length = c.it.length := by simp
  have l4 : (c.od.map encSK).length = c.od.length := by simp
  have l5 : (c.st.map encSI).length = c.st.length := by simp
  have hft := hfit (encCL c) (by simp)
  have m1 := (fitc_map (hft.aggs (.sl (c.ps.map encPA)) (by simp))).1
  have m2 := (fit_encEL (hft.aggs (.sl (encEL c.wh)) (by simp))).1
  have m3 := (fitc_map (hft.aggs (.sl (c.it.map encIT)) (by simp))).1
  have m4 := (fitc_map (hft.aggs (.sl (c.od.map encSK)) (by simp))).1
  have m5 := (fitc_map (hft.aggs (.sl (c.st.map encSI)) (by simp))).1
  have hwd := rword_ev c.nm
  have hws := rwordsC_ev c.ns
  have e5 : r5F c = c.st.flatMap p5F ++ c.ns.map wrdI := rfl
  have e4 : r4F c = c.od.flatMap p4F ++ r5F c := rfl
  have e3 : r3F c = c.it.flatMap p3F ++ r4F c := rfl
  have eE : rEF c = (bif c.k == 2 then [chkF c.e, wrdI c.nm] else []) ++ r3F c := rfl
  have e2 : r2F c = c.wh.flatMap p2F ++ rEF c := rfl
  have e1 : r1F c = c.ps.flatMap (p1F c) ++ r2F c := rfl
  obtain ⟨f1, hf1⟩ : ∃ f, p1F c = f := ⟨_, rfl⟩
  have hf1' : ∀ x, f1 x = [pathF x (c.k == 5)] := by intro x; rw [← hf1]; rfl
  rw [hf1] at e1
  clear hf1 hok hfit hft
  rw [e1]
  generalize r2F c = R2 at *
  generalize rEF c = RE at *
  generalize r3F c = R3 at *
  generalize r4F c = R4 at *
  generalize r5F c = R5 at *
  obtain ⟨k, opt, ds, ps, wh, e, nm, it, od, sk, lm, st, ns⟩ := c
  dsimp only at *
  refine enter1 Tryz.func121 Tryz.ntmps121 rfl rfl fun w0 F0 O => ?_
  repeat' (first | refine zS rfl ?_ | refine qA ?_ | refine qB rfl ?_ | refine qD ?_ | refine qF ?_)
  refine go_loop_ (α := SFr ps f1 R2) (fun p => ⟨[(1, .ptr 0 0), (3, .d (.int p.i))], [oCL ⟨k, opt, ds, ps, wh, e, nm, it, od, sk, lm, st, ns⟩]⟩) (fun p => ps.length - p.i) ⟨0, by omega, rfl⟩ ((zle 1)) ?_
  rintro ⟨i, hi, ok⟩
  dsimp only at ok ⊢
  rcases Nat.lt_or_ge i ps.length with hlt | hge
  · have g1 : decide ((i : Int) < ((ps.map encPA).length : Int)) = true := by rw [l1]; simpa using hlt
    have hx0 := List.getElem?_eq_getElem hlt
    generalize ps[i] = x at hx0
    have hx := map_c (f := encPA) hx0
    have hm := List.mem_of_getElem? hx0
    rw [drop_c hx0, List.flatMap_cons] at ok
    have h1 := rcheckpath_ev x (k == 5) (hkp x hm)
    rw [hf1'] at ok -- pathF x (k == 5)
    rw [List.singleton_append, List.cons_append, firI_cons] at ok
    cases hy : (pathF x (k == 5)) != 0 with
    | true =>
      rw [hy, cond_true] at ok
      rw [ok]
      repeat' (first | refine zS rfl ?_ | refine qA ?_ | refine qB rfl ?_ | refine qC (by kernel_rfl) ?_ | refine qD ?_ | refine qE ?_ | refine qF ?_ | refine qI (encPA x) rfl (guardX_ok rfl) rfl rfl rfl rfl rfl rfl (by first | omega | decide) hx ?_ | refine qP rfl rfl rfl rfl rfl rfl b64 (h1) ?_ | refine zT rfl ?_ | refine qL rfl rfl ?_ | exact zD)
    | false =>
      rw [hy, cond_false] at ok
      repeat' (first | refine zS rfl ?_ | refine qA ?_ | refine qB rfl ?_ | refine qC (by kernel_rfl) ?_ | refine qD ?_ | refine qE ?_ | refine qF ?_ | refine qG ?_ | refine qI (encPA x) rfl (guardX_ok rfl) rfl rfl rfl rfl rfl rfl (by first | omega | decide) hx ?_ | refine qP rfl rfl rfl rfl rfl rfl b64 (h1) ?_ | refine zT rfl ?_ | refine zU rfl ?_)
      refine go_stop ?_
      exact ⟨⟨i + 1, by omega, ok⟩, by dsimp only; omega, (zle 1)⟩
  · have g1 : decide ((i : Int) < ((ps.map encPA).length : Int)) = false := by rw [l1]; simp; omega
    rw [List.drop_eq_nil_of_le hge, List.flatMap_nil, List.nil_append] at ok
    rw [ok]
    clear ok hi hge
    rw [e2]
    repeat' (first | refine zS rfl ?_ | refine qA ?_ | refine qB rfl ?_ | refine qD ?_ | refine qF ?_ | refine qH rfl ?_ | refine zU rfl ?_)
    refine go_loop_ (α := SFr wh p2F RE) (fun p => ⟨[(1, .ptr 0 0), (5, .d (.int p.i))], [oCL ⟨k, opt, ds, ps, wh, e, nm, it, od, sk, lm, st, ns⟩]⟩) (fun p => wh.length - p.i) ⟨0, by omega, rfl⟩ ((zle 1)) ?_
    rintro ⟨i, hi, ok⟩
    dsimp only at ok ⊢
    rcases Nat.lt_or_ge i wh.length with hlt | hge
    · have g1 : decide ((i : Int) < ((encEL wh).length : Int)) = true := by rw [l2]; simpa using hlt
      have hx0 := List.getElem?_eq_getElem hlt
      generalize wh[i] = x at hx0
      have hx := (show (encEL wh)[((i : Nat) : Int).toNat]? = some (encE x) by rw [Int.toNat_natCast]; exact encEL_get hx0)
      have hm := List.mem_of_getElem? hx0
      rw [drop_c hx0, List.flatMap_cons] at ok
      have h1 := rcheck_ev x (hkw x hm).1 (hkw x hm).2
      rw [show p2F x = [chkF x] from rfl] at ok -- chkF x
      rw [List.singleton_append, List.cons_append, firI_cons] at ok
      cases hy : (chkF x) != 0 with
      | true =>
        rw [hy, cond_true] at ok
        rw [ok]
        repeat' (first | refine zS rfl ?_ | refine qA ?_ | refine qB rfl ?_ | refine qD ?_ | refine qE ?_ | refine qF ?_ | refine qI (encE x) rfl (guardX_ok rfl) rfl rfl rfl rfl rfl rfl (by first | omega | decide) hx ?_ | refine qP rfl rfl rfl rfl rfl rfl b153 (h1) ?_ | refine zT rfl ?_ | refine qL rfl rfl ?_ | exact zD)
      | false =>
        rw [hy, cond_false] at ok
        repeat' (first | refine zS rfl ?_ | refine qA ?_ | refine qB rfl ?_ | refine qD ?_ | refine qE ?_ | refine qF ?_ | refine qG ?_ | refine qI (encE x) rfl (guardX_ok rfl) rfl rfl rfl rfl rfl rfl (by first | omega | decide) hx ?_ | refine qP rfl rfl rfl rfl rfl rfl b153 (h1) ?_ | refine zT rfl ?_ | refine zU rfl ?_)
        refine go_stop ?_
        exact ⟨⟨i + 1, by omega, ok⟩, by dsimp only; omega, (zle 1)⟩
    · have g1 : decide ((i : Int) < ((encEL wh).length : Int)) = false := by rw [l2]; simp; omega
      rw [List.drop_eq_nil_of_le hge, List.flatMap_nil, List.nil_append] at ok
      rw [ok]
      clear ok hi hge
      rw [eE]
      cases hk2 : k == 2 with
      | true =>
        rw [cond_true, List.cons_append, List.cons_append, List.nil_append, firI_cons, firI_cons]
        unfold wrdI
        cases hy : chkF e != 0 with
        | true =>
          rw [cond_true]
          repeat' (first | refine zS rfl ?_ | refine qA ?_ | refine qB rfl ?_ | refine qD ?_ | refine qH rfl ?_ | refine qP rfl rfl rfl rfl rfl rfl b153 (hke) ?_ | refine zT rfl ?_ | refine zU rfl ?_ | refine qL rfl rfl ?_ | exact zD)
        | false =>
          rw [cond_false]
          cases hw : wordF nm with
          | false =>
            rw [hw] at hwd
            rw [cond_false, show ((6 : Int) != 0) = true from rfl, cond_true]
            repeat' (first | refine zS rfl ?_ | refine qA ?_ | refine qB rfl ?_ | refine qD ?_ | refine qE ?_ | refine qH rfl ?_ | refine qP rfl rfl rfl rfl rfl rfl b153 (hke) ?_ | refine qP rfl rfl rfl rfl rfl rfl b214 (hwd) ?_ | refine zT rfl ?_ | refine zU rfl ?_ | refine qL rfl rfl ?_ | exact zD)
          | true =>
            rw [hw] at hwd
            rw [cond_true, show ((0 : Int) != 0) = false from rfl, cond_false]
            repeat' (first | refine zS rfl ?_ | refine qA ?_ | refine qB rfl ?_ | refine qD ?_ | refine qE ?_ | refine qF ?_ | refine qH rfl ?_ | refine qP rfl rfl rfl rfl rfl rfl b153 (hke) ?_ | refine qP rfl rfl rfl rfl rfl rfl b214 (hwd) ?_ | refine zT rfl ?_ | refine zU rfl ?_)
            rw [e3]
            refine go_loop_ (α := SFr it p3F R4) (fun p => ⟨[(1, .ptr 0 0), (8, .d (.int p.i))], [oCL ⟨k, opt, ds, ps, wh, e, nm, it, od, sk, lm, st, ns⟩]⟩) (fun p => it.length - p.i) ⟨0, by omega, rfl⟩ ((zle 1)) ?_
            rintro ⟨i, hi, ok⟩
            dsimp only at ok ⊢
            rcases Nat.lt_or_ge i it.length with hlt | hge
            · have g1 : decide ((i : Int) < ((it.map encIT).length : Int)) = true := by rw [l3]; simpa using hlt
              have hx0 := List.getElem?_eq_getElem hlt
              generalize it[i] = x at hx0
              have hx := map_c (f := encIT) hx0
              have hm := List.mem_of_getElem? hx0
              rw [drop_c hx0, List.flatMap_cons] at ok
              have h1 := rcheck_ev x.e (hki x hm).1 (hki x hm).2
              rw [show p3F x = [chkF x.e, wrdI x.asn] from rfl] at ok -- chkF x.e
              simp only [List.cons_append, List.nil_append, firI_cons] at ok
              cases hy : (chkF x.e) != 0 with
              | true =>
                rw [hy, cond_true] at ok
                rw [ok]
                repeat' (first | refine zS rfl ?_ | refine qA ?_ | refine qB rfl ?_ | refine qD ?_ | refine qE ?_ | refine qF ?_ | refine qI (encIT x) rfl (guardX_ok rfl) rfl rfl rfl rfl rfl rfl (by first | omega | decide) hx ?_ | refine go_loadA 9 rfl rfl rfl rfl rfl rfl ?_ | refine qP rfl rfl rfl rfl rfl rfl b153 (h1) ?_ | refine zT rfl ?_ | refine qL rfl rfl ?_ | exact zD)
              | false =>
                rw [hy, cond_false] at ok
                have h3 := rword_ev x.asn
                unfold wrdI at ok
                cases hw : wordF x.asn with
                | true =>
                  rw [hw] at ok h3
                  rw [cond_true, show ((0 : Int) != 0) = false from rfl, cond_false] at ok
                  repeat' (first | refine zS rfl ?_ | refine qA ?_ | refine qB rfl ?_ | refine qD ?_ | refine qE ?_ | refine qF ?_ | refine qG ?_ | refine qI (encIT x) rfl (guardX_ok rfl) rfl rfl rfl rfl rfl rfl (by first | omega | decide) hx ?_ | refine go_loadA 9 rfl rfl rfl rfl rfl rfl ?_ | refine qP rfl rfl rfl rfl rfl rfl b153 (h1) ?_ | refine qP rfl rfl rfl rfl rfl rfl b214 (h3) ?_ | refine zT rfl ?_ | refine zU rfl ?_)
                  refine go_stop ?_
                  exact ⟨⟨i + 1, by omega, ok⟩, by dsimp only; omega, (zle 1)⟩
                | false =>
                  rw [hw] at ok h3
                  rw [cond_false, show ((6 : Int) != 0) = true from rfl, cond_true] at ok
                  rw [ok]
                  repeat' (first | refine zS rfl ?_ | refine qA ?_ | refine qB rfl ?_ | refine qD ?_ | refine qE ?_ | refine qF ?_ | refine qI (encIT x) rfl (guardX_ok rfl) rfl rfl rfl rfl rfl rfl (by first | omega | decide) hx ?_ | refine go_loadA 9 rfl rfl rfl rfl rfl rfl ?_ | refine qP rfl rfl rfl rfl rfl rfl b153 (h1) ?_ | refine qP rfl rfl rfl rfl rfl rfl b214 (h3) ?_ | refine zT rfl ?_ | refine zU rfl ?_ | refine qL rfl rfl ?_ | exact zD)
            · have g1 : decide ((i : Int) < ((it.map encIT).length : Int)) = false := by rw [l3]; simp; omega
              rw [List.drop_eq_nil_of_le hge, List.flatMap_nil, List.nil_append] at ok
              rw [ok]
              clear ok hi hge
              rw [e4]
              repeat' (first | refine zS rfl ?_ | refine qA ?_ | refine qB rfl ?_ | refine qD ?_ | refine qF ?_ | refine qH rfl ?_ | refine zU rfl ?_)
              refine go_loop_ (α := SFr od p4F R5) (fun p => ⟨[(1, .ptr 0 0), (10, .d (.int p.i))], [oCL ⟨k, opt, ds, ps, wh, e, nm, it, od, sk, lm, st, ns⟩]⟩) (fun p => od.length - p.i) ⟨0, by omega, rfl⟩ ((zle 1)) ?_
              rintro ⟨i, hi, ok⟩
              dsimp only at ok ⊢
              rcases Nat.lt_or_ge i od.length with hlt | hge
              · have g1 : decide ((i : Int) < ((od.map encSK).length : Int)) = true := by rw [l4]; simpa using hlt
                have hx0 := List.getElem?_eq_getElem hlt
                generalize od[i] = x at hx0
                have hx := map_c (f := encSK) hx0
                have hm := List.mem_of_getElem? hx0
                rw [drop_c hx0, List.flatMap_cons] at ok
                have h1 := rcheck_ev x.e (hko x hm).1 (hko x hm).2
                rw [show p4F x = [chkF x.e] from rfl] at ok -- chkF x.e
                rw [List.singleton_append, List.cons_append, firI_cons] at ok
                cases hy : (chkF x.e) != 0 with
                | true =>
                  rw [hy, cond_true] at ok
                  rw [ok]
                  repeat' (first | refine zS rfl ?_ | refine qA ?_ | refine qB rfl ?_ | refine qD ?_ | refine qE ?_ | refine qF ?_ | refine qI (encSK x) rfl (guardX_ok rfl) rfl rfl rfl rfl rfl rfl (by first | omega | decide) hx ?_ | refine go_loadA 9 rfl rfl rfl rfl rfl rfl ?_ | refine qP rfl rfl rfl rfl rfl rfl b153 (h1) ?_ | refine zT rfl ?_ | refine qL rfl rfl ?_ | exact zD)
                | false =>
                  rw [hy, cond_false] at ok
                  repeat' (first | refine zS rfl ?_ | refine qA ?_ | refine qB rfl ?_ | refine qD ?_ | refine qE ?_ | refine qF ?_ | refine qG ?_ | refine qI (encSK x) rfl (guardX_ok rfl) rfl rfl rfl rfl rfl rfl (by first | omega | decide) hx ?_ | refine go_loadA 9 rfl rfl rfl rfl rfl rfl ?_ | refine qP rfl rfl rfl rfl rfl rfl b153 (h1) ?_ | refine zT rfl ?_ | refine zU rfl ?_)
                  refine go_stop ?_
                  exact ⟨⟨i + 1, by omega, ok⟩, by dsimp only; omega, (zle 1)⟩
              · have g1 : decide ((i : Int) < ((od.map encSK).length : Int)) = false := by rw [l4]; simp; omega
                rw [List.drop_eq_nil_of_le hge, List.flatMap_nil, List.nil_append] at ok
                rw [ok]
                clear ok hi hge
                rw [e5]
                repeat' (first | refine zS rfl ?_ | refine qA ?_ | refine qB rfl ?_ | refine qD ?_ | refine qF ?_ | refine qH rfl ?_ | refine zU rfl ?_)
                refine go_loop_ (α := SFr st p5F (ns.map wrdI)) (fun p => ⟨[(1, .ptr 0 0), (12, .d (.int p.i))], [oCL ⟨k, opt, ds, ps, wh, e, nm, it, od, sk, lm, st, ns⟩]⟩) (fun p => st.length - p.i) ⟨0, by omega, rfl⟩ ((zle 1)) ?_
                rintro ⟨i, hi, ok⟩
                dsimp only at ok ⊢
                rcases Nat.lt_or_ge i st.length with hlt | hge
                · have g1 : decide ((i : Int) < ((st.map encSI).length : Int)) = true := by rw [l5]; simpa using hlt
                  have hx0 := List.getElem?_eq_getElem hlt
                  generalize st[i] = x at hx0
                  have hx := map_c (f := encSI) hx0
                  have hm := List.mem_of_getElem? hx0
                  rw [drop_c hx0, List.flatMap_cons] at ok
                  have h1 := rset_ev x (hks x hm)
                  rw [show p5F x = [setF x] from rfl] at ok -- setF x
                  rw [List.singleton_append, List.cons_append, firI_cons] at ok
                  cases hy : (setF x) != 0 with
                  | true =>
                    rw [hy, cond_true] at ok
                    rw [ok]
                    repeat' (first | refine zS rfl ?_ | refine qA ?_ | refine qB rfl ?_ | refine qD ?_ | refine qE ?_ | refine qF ?_ | refine qI (encSI x) rfl (guardX_ok rfl) rfl rfl rfl rfl rfl rfl (by first | omega | decide) hx ?_ | refine qP rfl rfl rfl rfl rfl rfl b215 (h1) ?_ | refine zT rfl ?_ | refine qL rfl rfl ?_ | exact zD)
                  | false =>
                    rw [hy, cond_false] at ok
                    repeat' (first | refine zS rfl ?_ | refine qA ?_ | refine qB rfl ?_ | refine qD ?_ | refine qE ?_ | refine qF ?_ | refine qG ?_ | refine qI (encSI x) rfl (guardX_ok rfl) rfl rfl rfl rfl rfl rfl (by first | omega | decide) hx ?_ | refine qP rfl rfl rfl rfl rfl rfl b215 (h1) ?_ | refine zT rfl ?_ | refine zU rfl ?_)
                    refine go_stop ?_
                    exact ⟨⟨i + 1, by omega, ok⟩, by dsimp only; omega, (zle 1)⟩
                · have g1 : decide ((i : Int) < ((st.map encSI).length : Int)) = false := by rw [l5]; simp; omega
                  rw [List.drop_eq_nil_of_le hge, List.flatMap_nil, List.nil_append] at ok
                  rw [ok]
                  clear ok hi hge
                  rw [firI_nm]
                  cases hn : ns.all wordF with
                  | true =>
                    rw [hn] at hws
                    repeat' (first | refine zS rfl ?_ | refine qA ?_ | refine qB rfl ?_ | refine qD ?_ | refine qE ?_ | refine qH rfl ?_ | refine qP rfl rfl rfl rfl rfl rfl b216 (hws) ?_ | refine zU rfl ?_ | refine qL rfl rfl ?_ | exact zD)
                  | false =>
                    rw [hn] at hws
                    repeat' (first | refine zS rfl ?_ | refine qA ?_ | refine qB rfl ?_ | refine qD ?_ | refine qH rfl ?_ | refine qP rfl rfl rfl rfl rfl rfl b216 (hws) ?_ | refine zT rfl ?_ | refine zU rfl ?_ | refine qL rfl rfl ?_ | exact zD)
      | false =>
        rw [cond_false, List.nil_append]
        repeat' (first | refine zS rfl ?_ | refine qA ?_ | refine qB rfl ?_ | refine qD ?_ | refine qE ?_ | refine qF ?_ | refine qH rfl ?_ | refine zU rfl ?_)
        rw [e3]
        refine go_loop_ (α := SFr it p3F R4) (fun p => ⟨[(1, .ptr 0 0), (8, .d (.int p.i))], [oCL ⟨k, opt, ds, ps, wh, e, nm, it, od, sk, lm, st, ns⟩]⟩) (fun p => it.length - p.i) ⟨0, by omega, rfl⟩ ((zle 1)) ?_
        rintro ⟨i, hi, ok⟩
        dsimp only at ok ⊢
        rcases Nat.lt_or_ge i it.length with hlt | hge
        · have g1 : decide ((i : Int) < ((it.map encIT).length : Int)) = true := by rw [l3]; simpa using hlt
          have hx0 := List.getElem?_eq_getElem hlt
          generalize it[i] = x at hx0
          have hx := map_c (f := encIT) hx0
          have hm := List.mem_of_getElem? hx0
          rw [drop_c hx0, List.flatMap_cons] at ok
          have h1 := rcheck_ev x.e (hki x hm).1 (hki x hm).2
          rw [show p3F x = [chkF x.e, wrdI x.asn] from rfl] at ok -- chkF x.e
          simp only [List.cons_append, List.nil_append, firI_cons] at ok
          cases hy : (chkF x.e) != 0 with
          | true =>
            rw [hy, cond_true] at ok
            rw [ok]
            repeat' (first | refine zS rfl ?_ | refine qA ?_ | refine qB rfl ?_ | refine qD ?_ | refine qE ?_ | refine qF ?_ | refine qI (encIT x) rfl (guardX_ok rfl) rfl rfl rfl rfl rfl rfl (by first | omega | decide) hx ?_ | refine go_loadA 9 rfl rfl rfl rfl rfl rfl ?_ | refine qP rfl rfl rfl rfl rfl rfl b153 (h1) ?_ | refine zT rfl ?_ | refine qL rfl rfl ?_ | exact zD)
          | false =>
            rw [hy, cond_false] at ok
            have h3 := rword_ev x.asn
            unfold wrdI at ok
            cases hw : wordF x.asn with
            | true =>
              rw [hw] at ok h3
              rw [cond_true, show ((0 : Int) != 0) = false from rfl, cond_false] at ok
              repeat' (first | refine zS rfl ?_ | refine qA ?_ | refine qB rfl ?_ | refine qD ?_ | refine qE ?_ | refine qF ?_ | refine qG ?_ | refine qI (encIT x) rfl (guardX_ok rfl) rfl rfl rfl rfl rfl rfl (by first | omega | decide) hx ?_ | refine go_loadA 9 rfl rfl rfl rfl rfl rfl ?_ | refine qP rfl rfl rfl rfl rfl rfl b153 (h1) ?_ | refine qP rfl rfl rfl rfl rfl rfl b214 (h3) ?_ | refine zT rfl ?_ | refine zU rfl ?_)
              refine go_stop ?_
              exact ⟨⟨i + 1, by omega, ok⟩, by dsimp only; omega, (zle 1)⟩
            | false =>
              rw [hw] at ok h3
              rw [cond_false, show ((6 : Int) != 0) = true from rfl, cond_true] at ok
              rw [ok]
              repeat' (first | refine zS rfl ?_ | refine qA ?_ | refine qB rfl ?_ | refine qD ?_ | refine qE ?_ | refine qF ?_ | refine qI (encIT x) rfl (guardX_ok rfl) rfl rfl rfl rfl rfl rfl (by first | omega | decide) hx ?_ | refine go_loadA 9 rfl rfl rfl rfl rfl rfl ?_ | refine qP rfl rfl rfl rfl rfl rfl b153 (h1) ?_ | refine qP rfl rfl rfl rfl rfl rfl b214 (h3) ?_ | refine zT rfl ?_ | refine zU rfl ?_ | refine qL rfl rfl ?_ | exact zD)
        · have g1 : decide ((i : Int) < ((it.map encIT).length : Int)) = false := by rw [l3]; simp; omega
          rw [List.drop_eq_nil_of_le hge, List.flatMap_nil, List.nil_append] at ok
          rw [ok]
          clear ok hi hge
          rw [e4]
          repeat' (first | refine zS rfl ?_ | refine qA ?_ | refine qB rfl ?_ | refine qD ?_ | refine qF ?_ | refine qH rfl ?_ | refine zU rfl ?_)
          refine go_loop_ (α := SFr od p4F R5) (fun p => ⟨[(1, .ptr 0 0), (10, .d (.int p.i))], [oCL ⟨k, opt, ds, ps, wh, e, nm, it, od, sk, lm, st, ns⟩]⟩) (fun p => od.length - p.i) ⟨0, by omega, rfl⟩ ((zle 1)) ?_
          rintro ⟨i, hi, ok⟩
          dsimp only at ok ⊢
          rcases Nat.lt_or_ge i od.length with hlt | hge
          · have g1 : decide ((i : Int) < ((od.map encSK).length : Int)) = true := by rw [l4]; simpa using hlt
            have hx0 := List.getElem?_eq_getElem hlt
            generalize od[i] = x at hx0
            have hx := map_c (f := encSK) hx0
            have hm := List.mem_of_getElem? hx0
            rw [drop_c hx0, List.flatMap_cons] at ok
            have h1 := rcheck_ev x.e (hko x hm).1 (hko x hm).2
            rw [show p4F x = [chkF x.e] from rfl] at ok -- chkF x.e
            rw [List.singleton_append, List.cons_append, firI_cons] at ok
            cases hy : (chkF x.e) != 0 with
            | true =>
              rw [hy, cond_true] at ok
              rw [ok]
              repeat' (first | refine zS rfl ?_ | refine qA ?_ | refine qB rfl ?_ | refine qD ?_ | refine qE ?_ | refine qF ?_ | refine qI (encSK x) rfl (guardX_ok rfl) rfl rfl rfl rfl rfl rfl (by first | omega | decide) hx ?_ | refine go_loadA 9 rfl rfl rfl rfl rfl rfl ?_ | refine qP rfl rfl rfl rfl rfl rfl b153 (h1) ?_ | refine zT rfl ?_ | refine qL rfl rfl ?_ | exact zD)
            | false =>
              rw [hy, cond_false] at ok
              repeat' (first | refine zS rfl ?_ | refine qA ?_ | refine qB rfl ?_ | refine qD ?_ | refine qE ?_ | refine qF ?_ | refine qG ?_ | refine qI (encSK x) rfl (guardX_ok rfl) rfl rfl rfl rfl rfl rfl (by first | omega | decide) hx ?_ | refine go_loadA 9 rfl rfl rfl rfl rfl rfl ?_ | refine qP rfl rfl rfl rfl rfl rfl b153 (h1) ?_ | refine zT rfl ?_ | refine zU rfl ?_)
              refine go_stop ?_
              exact ⟨⟨i + 1, by omega, ok⟩, by dsimp only; omega, (zle 1)⟩
          · have g1 : decide ((i : Int) < ((od.map encSK).length : Int)) = false := by rw [l4]; simp; omega
            rw [List.drop_eq_nil_of_le hge, List.flatMap_nil, List.nil_append] at ok
            rw [ok]
            clear ok hi hge
            rw [e5]
            repeat' (first | refine zS rfl ?_ | refine qA ?_ | refine qB rfl ?_ | refine qD ?_ | refine qF ?_ | refine qH rfl ?_ | refine zU rfl ?_)
            refine go_loop_ (α := SFr st p5F (ns.map wrdI)) (fun p => ⟨[(1, .ptr 0 0), (12, .d (.int p.i))], [oCL ⟨k, opt, ds, ps, wh, e, nm, it, od, sk, lm, st, ns⟩]⟩) (fun p => st.length - p.i) ⟨0, by omega, rfl⟩ ((zle 1)) ?_
            rintro ⟨i, hi, ok⟩
            dsimp only at ok ⊢
            rcases Nat.lt_or_ge i st.length with hlt | hge
            · have g1 : decide ((i : Int) < ((st.map encSI).length : Int)) = true := by rw [l5]; simpa using hlt
              have hx0 := List.getElem?_eq_getElem hlt
              generalize st[i] = x at hx0
              have hx := map_c (f := encSI) hx0
              have hm := List.mem_of_getElem? hx0
              rw [drop_c hx0, List.flatMap_cons] at ok
              have h1 := rset_ev x (hks x hm)
              rw [show p5F x = [setF x] from rfl] at ok -- setF x
              rw [List.singleton_append, List.cons_append, firI_cons] at ok
              cases hy : (setF x) != 0 with
              | true =>
                rw [hy, cond_true] at ok
                rw [ok]
                repeat' (first | refine zS rfl ?_ | refine qA ?_ | refine qB rfl ?_ | refine qD ?_ | refine qE ?_ | refine qF ?_ | refine qI (encSI x) rfl (guardX_ok rfl) rfl rfl rfl rfl rfl rfl (by first | omega | decide) hx ?_ | refine qP rfl rfl rfl rfl rfl rfl b215 (h1) ?_ | refine zT rfl ?_ | refine qL rfl rfl ?_ | exact zD)
              | false =>
                rw [hy, cond_false] at ok
                repeat' (first | refine zS rfl ?_ | refine qA ?_ | refine qB rfl ?_ | refine qD ?_ | refine qE ?_ | refine qF ?_ | refine qG ?_ | refine qI (encSI x) rfl (guardX_ok rfl) rfl rfl rfl rfl rfl rfl (by first | omega | decide) hx ?_ | refine qP rfl rfl rfl rfl rfl rfl b215 (h1) ?_ | refine zT rfl ?_ | refine zU rfl ?_)
                refine go_stop ?_
                exact ⟨⟨i + 1, by omega, ok⟩, by dsimp only; omega, (zle 1)⟩
            · have g1 : decide ((i : Int) < ((st.map encSI).length : Int)) = false := by rw [l5]; simp; omega
              rw [List.drop_eq_nil_of_le hge, List.flatMap_nil, List.nil_append] at ok
              rw [ok]
              clear ok hi hge
              rw [firI_nm]
              cases hn : ns.all wordF with
              | true =>
                rw [hn] at hws
                repeat' (first | refine zS rfl ?_ | refine qA ?_ | refine qB rfl ?_ | refine qD ?_ | refine qE ?_ | refine qH rfl ?_ | refine qP rfl rfl rfl rfl rfl rfl b216 (hws) ?_ | refine zU rfl ?_ | refine qL rfl rfl ?_ | exact zD)
              | false =>
                rw [hn] at hws
                repeat' (first | refine zS rfl ?_ | refine qA ?_ | refine qB rfl ?_ | refine qD ?_ | refine qH rfl ?_ | refine qP rfl rfl rfl rfl rfl rfl b216 (hws) ?_ | refine zT rfl ?_ | refine zU rfl ?_ | refine qL rfl rfl ?_ | exact zD)
theorem rng_or {c : CL} (h : unuF c = false ∨ rngF c = true) : strayF c = true := by
  rw [stray_unu]
  rcases h with h | h
  · rw [h]; rfl
  · rw [h]; simp
theorem clau_1 {c : CL} (h : ((decide (c.k < 1) || decide (c.k > 8)) || strayF c) = true) : clauF c = 1 := by unfold clauF; rw [h]; rfl
set_option maxHeartbeats 4000000 in
theorem rcheckclause_ev (c : CL) (hok : OkC c) : Ev E 54 [encCL c] (.d (.int (clauF c))) := by
  have hu := runused_ev c
  have hc := rcounts_ev c
  have hp := rparts_ev c hok
  rw [r1_eq] at hp
  have f1 : decide (c.k < 1) = true → clauF c = 1 := fun h => clau_1 (by rw [h]; rfl)
  have f2 : decide (c.k > 8) = true → clauF c = 1 := fun h => clau_1 (by rw [h]; simp)
  have f3 : unuF c = false → clauF c = 1 := fun h => clau_1 (by rw [rng_or (.inl h)]; simp)
  have f4 : rngF c = true → clauF c = 1 := fun h => clau_1 (by rw [rng_or (.inr h)]; simp)
  unfold rngF at f4
  have f5 : decide (c.k < 1) = false → decide (c.k > 8) = false → unuF c = true → rngF c = false → crowdF c = true → clauF c = 4 := by
    intro h1 h2 h3 h4 h5
    unfold clauF
    rw [h1, h2, stray_unu, h3, h4, h5]
    rfl
  have f6 : decide (c.k < 1) = false → decide (c.k > 8) = false → unuF c = true → rngF c = false → crowdF c = false → a7F c = clauF c := by
    intro h1 h2 h3 h4 h5
    refine (clau_eq c ?_ h5).symm
    rw [h1, h2, stray_unu, h3, h4]
    rfl
  unfold rngF at f5 f6
  obtain ⟨u, hu'⟩ : ∃ b, unuF c = b := ⟨_, rfl⟩
  obtain ⟨w, hw'⟩ : ∃ b, crowdF c = b := ⟨_, rfl⟩
  rw [hu'] at hu f3 f5 f6
  rw [hw'] at hc f5 f6
  generalize clauF c = R at *
  generalize a7F c = A at *
  clear hu' hw' hok
  obtain ⟨k, opt, ds, ps, wh, e, nm, it, od, sk, lm, st, ns⟩ := c
  dsimp only at *
  refine enter1 Tryz.func54 Tryz.ntmps54 rfl rfl fun w0 F0 O => ?_
  repeat' (first | refine zS rfl ?_ | refine qA ?_ | refine qB rfl ?_ | refine qD ?_ | refine qE ?_ | refine qP rfl rfl rfl rfl rfl rfl b119 (hu) ?_ | refine qP rfl rfl rfl rfl rfl rfl b120 (hc) ?_ | refine qP rfl rfl rfl rfl rfl rfl b121 (hp) ?_ | refine zT rfl ?_ | refine qL rfl rfl ?_ | (refine qY rfl rfl rfl rfl ?_ ?_ <;> intro _) | (refine qV rfl ?_ ?_ <;> intro _))
  all_goals (refine congrArg D.int ?_; clear hu hc hp)
  all_goals first | (rw [f1 (by assumption)]; done) | (rw [f2 (by assumption)]; done) | (rw [f3 (by simpa using ‹(!u) = true›)]; done) | (rw [f4 (by simp_all)]; done) | (rw [f5 (by simp_all) (by simp_all) (by simp_all) (by simp_all) (by simp_all)]; done) | exact f6 (by simp_all) (by simp_all) (by simp_all) (by simp_all) (by simp_all) | skip
end Go.Proofs.YtmfjfclpdmpncaaGreatDoor

/- The check of a query, by both texts. Conditions: patterns and expressions of bounded size. -/
namespace Go.Proofs.YtmfjfclpdmpncaaGreatDoor
set_option maxRecDepth 4000
open Go Go.Abs Go.Val Go.RowKit
attribute [local irreducible] go SGo HasBody Ev ExtEv EvO EvS RGo

abbrev oQU (q : List CL) : AObj := .var 58 (.w (.d (encQU q)))
structure SQu (q : List CL) where
  i : Nat
  hi : i ≤ q.length
  ok : queG q.length 0 q = queG q.length i (q.drop i)
theorem queG_cons (n i : Nat) (c : CL) (r : List CL) : queG n i (c :: r) = bif clauF c != 0 then ((i : Int), clauF c) else
    bif decide (i + 1 < n) && c.k == 4 || i + 1 == n && decide (c.k ≤ 3) then ((i : Int), 26) else queG n (i + 1) r := rfl
set_option maxHeartbeats 4000000 in
theorem qcheck_ev (q : List CL) (hok : ∀ c ∈ q, OkC c) : Ev E 56 [encQU q] (.tup [.int (queF q).1, .int (queF q).2]) := Ev.fit fun hfit => by
  have hle : (q.map encCL).length = q.length := by simp
  cases hb : (q.length == 0 || decide (q.length > 12)) with
  | true =>
    have e : queF q = (0, 4) := by unfold queF; rw [hb]; rfl
    rw [e]
    try dsimp only
    cases h0 : q.length == 0 with
    | true =>
      have g0 : (((q.map encCL).length : Int) == 0) = true := by rw [hle]; simpa using h0
      refine enter1 Tryz.func56 Tryz.ntmps56 rfl rfl fun w0 F0 O => ?_
      repeat' (first | refine zS rfl ?_ | refine qA ?_ | refine qB rfl ?_ | refine qD ?_ | refine zT rfl ?_ | refine qM rfl rfl rfl ?_ | refine zX rfl rfl rfl rfl ?_ | exact zL)
    | false =>
      have g0 : (((q.map encCL).length : Int) == 0) = false := by rw [hle]; simpa using h0
      have g1 : decide (((q.map encCL).length : Int) > 12) = true := by rw [hle]; rw [h0] at hb; simp at hb ⊢; omega
      refine enter1 Tryz.func56 Tryz.ntmps56 rfl rfl fun w0 F0 O => ?_
      repeat' (first | refine zS rfl ?_ | refine qA ?_ | refine qB rfl ?_ | refine qD ?_ | refine zT rfl ?_ | refine qM rfl rfl rfl ?_ | refine zW rfl rfl rfl rfl ?_ | exact zL)
  | false =>
    have e : queF q = queG q.length 0 q := by unfold queF; rw [hb]; rfl
    rw [e]
    try dsimp only
    have g0 : (((q.map encCL).length : Int) == 0) = false := by rw [hle]; rw [Bool.or_eq_false_iff] at hb; simpa using hb.1
    have g1 : decide (((q.map encCL).length : Int) > 12) = false := by rw [hle]; rw [Bool.or_eq_false_iff] at hb; have := hb.2; simp at this ⊢; omega
    have hn : q.length ≤ 12 := by rw [Bool.or_eq_false_iff] at hb; have := hb.2; simp at this; omega
    refine enter1 Tryz.func56 Tryz.ntmps56 rfl rfl fun w0 F0 O => ?_
    repeat' (first | refine zS rfl ?_ | refine qA ?_ | refine qB rfl ?_ | refine qD ?_ | refine qE ?_ | refine qF ?_ | refine zU rfl ?_ | refine zW rfl rfl rfl rfl ?_)
    refine go_loop_ (α := SQu q) (fun p => ⟨[(1, .ptr 0 0), (19, .d (.sl (q.map encCL))), (20, .d (.int (q.map encCL).length)), (21, .d (.int p.i))], [oQU q]⟩) (fun p => q.length - p.i) ⟨0, by omega, rfl⟩ ((zle 1)) ?_
    rintro ⟨i, hi, ok⟩
    dsimp only at ok ⊢
    rcases Nat.lt_or_ge i q.length with hlt | hge
    · have g2 : decide ((i : Int) < ((q.map encCL).length : Int)) = true := by rw [hle]; simpa using hlt
      have hx0 := List.getElem?_eq_getElem hlt
      generalize q[i] = x at hx0
      have hx := map_c (f := encCL) hx0
      have hm := List.mem_of_getElem? hx0
      have h1 := checkclause_ev x (hok x hm)
      rw [drop_c hx0, queG_cons] at ok
      rw [ok]
      cases hz : clauF x != 0 with
      | true =>
        rw [cond_true]
        try dsimp only
        repeat' (first | refine zS rfl ?_ | refine qA ?_ | refine qB rfl ?_ | refine qD ?_ | refine qE ?_ | refine qF ?_ | refine qI (encCL x) rfl (guardX_ok rfl) rfl rfl rfl rfl rfl rfl (by first | omega | decide) hx ?_ | refine qP rfl rfl rfl rfl rfl rfl b52 (h1) ?_ | refine zT rfl ?_ | refine qM rfl rfl rfl ?_ | exact zL)
      | false =>
        rw [hz, cond_false] at ok
        rw [cond_false]
        rcases Nat.lt_or_ge (i + 1) q.length with hl | hl
        · have g3 : ((i : Int) == ((q.map encCL).length : Int) - 1) = false := by rw [hle]; simp; omega
          have g5 : (!((i : Int) == ((q.map encCL).length : Int) - 1)) = true := by rw [g3]; rfl
          have e1 : decide (i + 1 < q.length) = true := by simpa using hl
          have e2 : (i + 1 == q.length) = false := by simp; omega
          rw [e1, e2, Bool.true_and, Bool.false_and, Bool.or_false] at ok ⊢
          cases hk : x.k == 4 with
          | true =>
            rw [cond_true]
            try dsimp only
            obtain ⟨k, opt, ds, ps, wh, e, nm, it, od, sk, lm, st, ns⟩ := x
            dsimp only at hk
            repeat' (first | refine zS rfl ?_ | refine qA ?_ | refine qB rfl ?_ | refine qD ?_ | refine qE ?_ | refine qF ?_ | refine qI (encCL ⟨k, opt, ds, ps, wh, e, nm, it, od, sk, lm, st, ns⟩) rfl (guardX_ok rfl) rfl rfl rfl rfl rfl rfl (by first | omega | decide) hx ?_ | refine qP rfl rfl rfl rfl rfl rfl b52 (h1) ?_ | refine zT rfl ?_ | refine zU rfl ?_ | refine qM rfl rfl rfl ?_ | refine zX rfl rfl rfl rfl ?_ | exact zL)
          | false =>
            rw [hk, cond_false] at ok
            rw [cond_false, ← ok]
            obtain ⟨k, opt, ds, ps, wh, e, nm, it, od, sk, lm, st, ns⟩ := x
            dsimp only at hk
            repeat' (first | refine zS rfl ?_ | refine qA ?_ | refine qB rfl ?_ | refine qD ?_ | refine qE ?_ | refine qF ?_ | refine qG ?_ | refine qI (encCL ⟨k, opt, ds, ps, wh, e, nm, it, od, sk, lm, st, ns⟩) rfl (guardX_ok rfl) rfl rfl rfl rfl rfl rfl (by first | omega | decide) hx ?_ | refine qP rfl rfl rfl rfl rfl rfl b52 (h1) ?_ | refine zT rfl ?_ | refine zU rfl ?_ | refine zX rfl rfl rfl rfl ?_ | refine zW rfl rfl rfl rfl ?_)
            refine go_stop ?_
            exact ⟨⟨i + 1, by omega, ok⟩, by dsimp only; omega, (zle 1)⟩
        · have g3 : ((i : Int) == ((q.map encCL).length : Int) - 1) = true := by rw [hle]; simp; omega
          have g5 : (!((i : Int) == ((q.map encCL).length : Int) - 1)) = false := by rw [g3]; rfl
          have e1 : decide (i + 1 < q.length) = false := by simpa using hl
          have e2 : (i + 1 == q.length) = true := by simp; omega
          rw [e1, e2, Bool.true_and, Bool.false_and, Bool.false_or] at ok ⊢
          cases hk : decide (x.k ≤ 3) with
          | true =>
            rw [cond_true]
            try dsimp only
            obtain ⟨k, opt, ds, ps, wh, e, nm, it, od, sk, lm, st, ns⟩ := x
            dsimp only at hk
            repeat' (first | refine zS rfl ?_ | refine qA ?_ | refine qB rfl ?_ | refine qD ?_ | refine qE ?_ | refine qF ?_ | refine qI (encCL ⟨k, opt, ds, ps, wh, e, nm, it, od, sk, lm, st, ns⟩) rfl (guardX_ok rfl) rfl rfl rfl rfl rfl rfl (by first | omega | decide) hx ?_ | refine qP rfl rfl rfl rfl rfl rfl b52 (h1) ?_ | refine zT rfl ?_ | refine zU rfl ?_ | refine qM rfl rfl rfl ?_ | refine zX rfl rfl rfl rfl ?_ | refine zW rfl rfl rfl rfl ?_ | exact zL)
          | false =>
            rw [hk, cond_false] at ok
            rw [cond_false, ← ok]
            obtain ⟨k, opt, ds, ps, wh, e, nm, it, od, sk, lm, st, ns⟩ := x
            dsimp only at hk
            repeat' (first | refine zS rfl ?_ | refine qA ?_ | refine qB rfl ?_ | refine qD ?_ | refine qE ?_ | refine qF ?_ | refine qG ?_ | refine qI (encCL ⟨k, opt, ds, ps, wh, e, nm, it, od, sk, lm, st, ns⟩) rfl (guardX_ok rfl) rfl rfl rfl rfl rfl rfl (by first | omega | decide) hx ?_ | refine qP rfl rfl rfl rfl rfl rfl b52 (h1) ?_ | refine zT rfl ?_ | refine zU rfl ?_ | refine zX rfl rfl rfl rfl ?_ | refine zW rfl rfl rfl rfl ?_)
            refine go_stop ?_
            exact ⟨⟨i + 1, by omega, ok⟩, by dsimp only; omega, (zle 1)⟩
    · have g2 : decide ((i : Int) < ((q.map encCL).length : Int)) = false := by rw [hle]; simp; omega
      rw [List.drop_eq_nil_of_le hge, show queG q.length i [] = (0, 0) from rfl] at ok
      rw [ok]
      try dsimp only
      repeat' (first | refine zS rfl ?_ | refine qA ?_ | refine qB rfl ?_ | refine qD ?_ | refine qH rfl ?_ | refine zU rfl ?_ | refine qM rfl rfl rfl ?_ | exact zL)
set_option maxHeartbeats 4000000 in
theorem rqcheck_ev (q : List CL) (hok : ∀ c ∈ q, OkC c) : Ev E 58 [encQU q] (.tup [.int (queF q).1, .int (queF q).2]) := Ev.fit fun hfit => by
  have hle : (q.map encCL).length = q.length := by simp
  cases hb : (q.length == 0 || decide (q.length > 12)) with
  | true =>
    have e : queF q = (0, 4) := by unfold queF; rw [hb]; rfl
    rw [e]
    try dsimp only
    cases h0 : q.length == 0 with
    | true =>
      have g0 : (((q.map encCL).length : Int) == 0) = true := by rw [hle]; simpa using h0
      refine enter1 Tryz.func58 Tryz.ntmps58 rfl rfl fun w0 F0 O => ?_
      repeat' (first | refine zS rfl ?_ | refine qA ?_ | refine qB rfl ?_ | refine qD ?_ | refine zT rfl ?_ | refine qM rfl rfl rfl ?_ | refine zX rfl rfl rfl rfl ?_ | exact zL)
    | false =>
      have g0 : (((q.map encCL).length : Int) == 0) = false := by rw [hle]; simpa using h0
      have g1 : decide (((q.map encCL).length : Int) > 12) = true := by rw [hle]; rw [h0] at hb; simp at hb ⊢; omega
      refine enter1 Tryz.func58 Tryz.ntmps58 rfl rfl fun w0 F0 O => ?_
      repeat' (first | refine zS rfl ?_ | refine qA ?_ | refine qB rfl ?_ | refine qD ?_ | refine zT rfl ?_ | refine qM rfl rfl rfl ?_ | refine zW rfl rfl rfl rfl ?_ | exact zL)
  | false =>
    have e : queF q = queG q.length 0 q := by unfold queF; rw [hb]; rfl
    rw [e]
    try dsimp only
    have g0 : (((q.map encCL).length : Int) == 0) = false := by rw [hle]; rw [Bool.or_eq_false_iff] at hb; simpa using hb.1
    have g1 : decide (((q.map encCL).length : Int) > 12) = false := by rw [hle]; rw [Bool.or_eq_false_iff] at hb; have := hb.2; simp at this ⊢; omega
    have hn : q.length ≤ 12 := by rw [Bool.or_eq_false_iff] at hb; have := hb.2; simp at this; omega
    refine enter1 Tryz.func58 Tryz.ntmps58 rfl rfl fun w0 F0 O => ?_
    repeat' (first | refine zS rfl ?_ | refine qA ?_ | refine qB rfl ?_ | refine qD ?_ | refine qE ?_ | refine qF ?_ | refine zU rfl ?_ | refine zW rfl rfl rfl rfl ?_)
    refine go_loop_ (α := SQu q) (fun p => ⟨[(1, .ptr 0 0), (4, .d (.int (q.map encCL).length)), (5, .d (.int p.i))], [oQU q]⟩) (fun p => q.length - p.i) ⟨0, by omega, rfl⟩ ((zle 1)) ?_
    rintro ⟨i, hi, ok⟩
    dsimp only at ok ⊢
    rcases Nat.lt_or_ge i q.length with hlt | hge
    · have g2 : decide ((i : Int) < ((q.map encCL).length : Int)) = true := by rw [hle]; simpa using hlt
      have hx0 := List.getElem?_eq_getElem hlt
      generalize q[i] = x at hx0
      have hx := map_c (f := encCL) hx0
      have hm := List.mem_of_getElem? hx0
      have h1 := rcheckclause_ev x (hok x hm)
      rw [drop_c hx0, queG_cons] at ok
      rw [ok]
      cases hz : clauF x != 0 with
      | true =>
        rw [cond_true]
        try dsimp only
        repeat' (first | refine zS rfl ?_ | refine qA ?_ | refine qB rfl ?_ | refine qD ?_ | refine qE ?_ | refine qF ?_ | refine qI (encCL x) rfl (guardX_ok rfl) rfl rfl rfl rfl rfl rfl (by first | omega | decide) hx ?_ | refine qP rfl rfl rfl rfl rfl rfl b54 (h1) ?_ | refine zT rfl ?_ | refine qM rfl rfl rfl ?_ | exact zL)
      | false =>
        rw [hz, cond_false] at ok
        rw [cond_false]
        rcases Nat.lt_or_ge (i + 1) q.length with hl | hl
        · have g3 : ((i : Int) == ((q.map encCL).length : Int) - 1) = false := by rw [hle]; simp; omega
          have g5 : (!((i : Int) == ((q.map encCL).length : Int) - 1)) = true := by rw [g3]; rfl
          have g4 : decide ((i : Int) < ((q.map encCL).length : Int) - 1) = true := by rw [hle]; simp; omega
          have e1 : decide (i + 1 < q.length) = true := by simpa using hl
          have e2 : (i + 1 == q.length) = false := by simp; omega
          rw [e1, e2, Bool.true_and, Bool.false_and, Bool.or_false] at ok ⊢
          cases hk : x.k == 4 with
          | true =>
            rw [cond_true]
            try dsimp only
            obtain ⟨k, opt, ds, ps, wh, e, nm, it, od, sk, lm, st, ns⟩ := x
            dsimp only at hk
            repeat' (first | refine zS rfl ?_ | refine qA ?_ | refine qB rfl ?_ | refine qD ?_ | refine qE ?_ | refine qF ?_ | refine qI (encCL ⟨k, opt, ds, ps, wh, e, nm, it, od, sk, lm, st, ns⟩) rfl (guardX_ok rfl) rfl rfl rfl rfl rfl rfl (by first | omega | decide) hx ?_ | refine qP rfl rfl rfl rfl rfl rfl b54 (h1) ?_ | refine zT rfl ?_ | refine zU rfl ?_ | refine qM rfl rfl rfl ?_ | refine zX rfl rfl rfl rfl ?_ | exact zL)
          | false =>
            rw [hk, cond_false] at ok
            rw [cond_false, ← ok]
            obtain ⟨k, opt, ds, ps, wh, e, nm, it, od, sk, lm, st, ns⟩ := x
            dsimp only at hk
            repeat' (first | refine zS rfl ?_ | refine qA ?_ | refine qB rfl ?_ | refine qD ?_ | refine qE ?_ | refine qF ?_ | refine qG ?_ | refine qI (encCL ⟨k, opt, ds, ps, wh, e, nm, it, od, sk, lm, st, ns⟩) rfl (guardX_ok rfl) rfl rfl rfl rfl rfl rfl (by first | omega | decide) hx ?_ | refine qP rfl rfl rfl rfl rfl rfl b54 (h1) ?_ | refine zT rfl ?_ | refine zU rfl ?_ | refine zX rfl rfl rfl rfl ?_ | refine zW rfl rfl rfl rfl ?_)
            refine go_stop ?_
            exact ⟨⟨i + 1, by omega, ok⟩, by dsimp only; omega, (zle 1)⟩
        · have g3 : ((i : Int) == ((q.map encCL).length : Int) - 1) = true := by rw [hle]; simp; omega
          have g5 : (!((i : Int) == ((q.map encCL).length : Int) - 1)) = false := by rw [g3]; rfl
          have g4 : decide ((i : Int) < ((q.map encCL).length : Int) - 1) = false := by rw [hle]; simp; omega
          have e1 : decide (i + 1 < q.length) = false := by simpa using hl
          have e2 : (i + 1 == q.length) = true := by simp; omega
          rw [e1, e2, Bool.true_and, Bool.false_and, Bool.false_or] at ok ⊢
          cases hk : decide (x.k ≤ 3) with
          | true =>
            rw [cond_true]
            try dsimp only
            obtain ⟨k, opt, ds, ps, wh, e, nm, it, od, sk, lm, st, ns⟩ := x
            dsimp only at hk
            repeat' (first | refine zS rfl ?_ | refine qA ?_ | refine qB rfl ?_ | refine qD ?_ | refine qE ?_ | refine qF ?_ | refine qI (encCL ⟨k, opt, ds, ps, wh, e, nm, it, od, sk, lm, st, ns⟩) rfl (guardX_ok rfl) rfl rfl rfl rfl rfl rfl (by first | omega | decide) hx ?_ | refine qP rfl rfl rfl rfl rfl rfl b54 (h1) ?_ | refine zT rfl ?_ | refine zU rfl ?_ | refine qM rfl rfl rfl ?_ | refine zX rfl rfl rfl rfl ?_ | refine zW rfl rfl rfl rfl ?_ | exact zL)
          | false =>
            rw [hk, cond_false] at ok
            rw [cond_false, ← ok]
            obtain ⟨k, opt, ds, ps, wh, e, nm, it, od, sk, lm, st, ns⟩ := x
            dsimp only at hk
            repeat' (first | refine zS rfl ?_ | refine qA ?_ | refine qB rfl ?_ | refine qD ?_ | refine qE ?_ | refine qF ?_ | refine qG ?_ | refine qI (encCL ⟨k, opt, ds, ps, wh, e, nm, it, od, sk, lm, st, ns⟩) rfl (guardX_ok rfl) rfl rfl rfl rfl rfl rfl (by first | omega | decide) hx ?_ | refine qP rfl rfl rfl rfl rfl rfl b54 (h1) ?_ | refine zT rfl ?_ | refine zU rfl ?_ | refine zX rfl rfl rfl rfl ?_ | refine zW rfl rfl rfl rfl ?_)
            refine go_stop ?_
            exact ⟨⟨i + 1, by omega, ok⟩, by dsimp only; omega, (zle 1)⟩
    · have g2 : decide ((i : Int) < ((q.map encCL).length : Int)) = false := by rw [hle]; simp; omega
      rw [List.drop_eq_nil_of_le hge, show queG q.length i [] = (0, 0) from rfl] at ok
      rw [ok]
      try dsimp only
      repeat' (first | refine zS rfl ?_ | refine qA ?_ | refine qB rfl ?_ | refine qD ?_ | refine qH rfl ?_ | refine zU rfl ?_ | refine qM rfl rfl rfl ?_ | exact zL)
end Go.Proofs.YtmfjfclpdmpncaaGreatDoor
