/- Words on clauses' parts, by both texts: the zero expression, absent numbers, assignments; Assignments, and how many elements a clause's lists have, by both texts; How many elements a clause's lists have, by both texts; How many elements a clause's lists have, by the program; Which kinds a clause may be: the closure of stray; The first error of some checks; Which fields a clause may use, by the specification; The two texts' words on unused fields are the same; Whether a clause uses a field that its kind does not have, by the program; A variable that was declared may be read as one that was writ. Conditions: each part's own, as it says. -/
import Derived.Test.YtmfjfclpdmpncaaGreatDoorGC
import Derived.Test.YtmfjfclpdmpncaaGreatDoorCB
set_option linter.unusedVariables false
set_option linter.unusedSimpArgs false
/- Words on clauses' parts, by both texts: the zero expression, absent numbers, assignments. Conditions: none but expressions of at most a million parts. -/
namespace Go.Proofs.YtmfjfclpdmpncaaGreatDoor
set_option maxRecDepth 4000
open Go Go.Abs Go.Val Go.RowKit
attribute [local irreducible] go SGo HasBody Ev ExtEv EvO EvS RGo

theorem zero_ev (e : Ex) : Ev E 206 [encE e] (.d (.bool (zeroF e))) := by
  obtain ⟨op, v, nm, ds, ks⟩ := e
  have hb := blank_ev v
  have hk := kidsE_len (.mk op v nm ds ks)
  simp only [Ex.ks] at hk
  obtain ⟨bv, hbv⟩ : ∃ b, blankF v = b := ⟨_, rfl⟩
  have hz : zeroF (.mk op v nm ds ks) = (op == 0 && (bv && (nm.toList == (⟨#[]⟩ : ByteArray).toList && (!ds && ks.length == 0)))) := by rw [← hbv]; rfl
  rw [hbv] at hb
  refine enter1 Tryz.func206 Tryz.ntmps206 rfl rfl fun w0 F0 O => ?_
  repeat' (first | refine zS rfl ?_ | refine qA ?_ | refine qB rfl ?_ | refine qD ?_ | refine qP rfl rfl rfl rfl rfl rfl b289 (hb) ?_ | refine qL rfl rfl ?_ | (refine qY rfl rfl rfl rfl ?_ ?_ <;> intro _))
  all_goals (refine congrArg D.bool ?_; rw [hz]; clear hz hb hbv; simp_all [Ex.op, Ex.nm, Ex.ds])
  all_goals (rw [Bool.eq_iff_iff]; simp)
  all_goals omega
theorem none_ev (e : Ex) : Ev E 213 [encE e] (.d (.bool (zeroF e))) := by
  obtain ⟨op, v, nm, ds, ks⟩ := e
  have hb := rzero_ev v
  have hk := kidsE_len (.mk op v nm ds ks)
  simp only [Ex.ks] at hk
  obtain ⟨bv, hbv⟩ : ∃ b, blankF v = b := ⟨_, rfl⟩
  have hz : zeroF (.mk op v nm ds ks) = (op == 0 && (bv && (nm.toList == (⟨#[]⟩ : ByteArray).toList && (!ds && ks.length == 0)))) := by rw [← hbv]; rfl
  rw [hbv] at hb
  refine enter1 Tryz.func213 Tryz.ntmps213 rfl rfl fun w0 F0 O => ?_
  repeat' (first | refine zS rfl ?_ | refine qA ?_ | refine qB rfl ?_ | refine qD ?_ | refine qP rfl rfl rfl rfl rfl rfl b293 (hb) ?_ | refine qL rfl rfl ?_ | (refine qY rfl rfl rfl rfl ?_ ?_ <;> intro _))
  all_goals (refine congrArg D.bool ?_; rw [hz]; clear hz hb hbv; simp_all [Ex.op, Ex.nm, Ex.ds])
  all_goals (rw [Bool.eq_iff_iff]; simp)
  all_goals omega
theorem absent_ev (n : Int) : Ev E 207 [.int n] (.d (.bool (absF n))) := by
  refine enter1 Tryz.func207 Tryz.ntmps207 rfl rfl fun w0 F0 O => ?_
  repeat' (first | refine zS rfl ?_ | refine qA ?_ | refine qB rfl ?_ | refine qD ?_ | refine qL rfl rfl ?_ | (refine qY rfl rfl rfl rfl ?_ ?_ <;> intro _))
  all_goals (refine congrArg D.bool ?_; simp_all [absF])
theorem within_ev (n lo hi : Nat) : Ev E 208 [.int n, .int lo, .int hi] (.d (.bool (inN n lo hi))) := by
  refine enter3 Tryz.func208 Tryz.ntmps208 rfl rfl fun w0 F0 O => ?_
  repeat' (first | refine zS rfl ?_ | refine qA ?_ | refine qB rfl ?_ | refine qD ?_ | refine qL rfl rfl ?_ | (refine qY rfl rfl rfl rfl ?_ ?_ <;> intro _))
  all_goals (refine congrArg D.bool ?_; simp_all [inN] <;> omega)
end Go.Proofs.YtmfjfclpdmpncaaGreatDoor

/- Assignments, and how many elements a clause's lists have, by both texts. Conditions: expressions of at most a million parts. -/
namespace Go.Proofs.YtmfjfclpdmpncaaGreatDoor
set_option maxRecDepth 4000
open Go Go.Abs Go.Val Go.RowKit
attribute [local irreducible] go SGo HasBody Ev ExtEv EvO EvS RGo

theorem rset_ev (x : SIt) (he : okEx x.e) : Ev E 215 [encSI x] (.d (.int (setF x))) := by
  obtain ⟨vr, key, lb, off, e⟩ := x
  have h1 := none_ev e
  have h2 := rword_ev vr
  have h3 := rword_ev lb
  have h4 := rword_ev key
  have h5 := rcheck_ev e he.1 he.2
  obtain ⟨z, hz⟩ : ∃ b, zeroF e = b := ⟨_, rfl⟩
  obtain ⟨w1, hw1⟩ : ∃ b, wordF vr = b := ⟨_, rfl⟩
  obtain ⟨w2, hw2⟩ : ∃ b, wordF lb = b := ⟨_, rfl⟩
  obtain ⟨w3, hw3⟩ : ∃ b, wordF key = b := ⟨_, rfl⟩
  obtain ⟨ce, hce⟩ : ∃ n, chkF e = n := ⟨_, rfl⟩
  have hs : setF ⟨vr, key, lb, off, e⟩ = (bif !(lb.toList == (⟨#[]⟩ : ByteArray).toList) && (!(key.toList == (⟨#[]⟩ : ByteArray).toList) || !z) || (lb.toList == (⟨#[]⟩ : ByteArray).toList) && off then 1 else bif !w1 || (!(lb.toList == (⟨#[]⟩ : ByteArray).toList) && !w2 || (lb.toList == (⟨#[]⟩ : ByteArray).toList) && !w3) then 6 else bif (lb.toList == (⟨#[]⟩ : ByteArray).toList) then ce else 0) := by rw [← hz, ← hw1, ← hw2, ← hw3, ← hce]; rfl
  rw [hs]
  rw [hz] at h1
  rw [hw1] at h2
  rw [hw2] at h3
  rw [hw3] at h4
  rw [hce] at h5
  refine enter1 Tryz.func215 Tryz.ntmps215 rfl rfl fun w0 F0 O => ?_
  repeat' (first | refine zS rfl ?_ | refine qA ?_ | refine qB rfl ?_ | refine qD ?_ | refine qE ?_ | refine qP rfl rfl rfl rfl rfl rfl b213 (h1) ?_ | refine qP (d := 28) rfl rfl rfl rfl rfl rfl b214 (h2) ?_ | refine qP (d := 37) rfl rfl rfl rfl rfl rfl b214 (h3) ?_ | refine qP (d := 48) rfl rfl rfl rfl rfl rfl b214 (h4) ?_ | refine qP rfl rfl rfl rfl rfl rfl b153 (h5) ?_ | refine zT rfl ?_ | refine zU rfl ?_ | refine qL rfl rfl ?_ | refine zX rfl rfl rfl rfl ?_ | refine zW rfl rfl rfl rfl ?_ | (refine qY rfl rfl rfl rfl ?_ ?_ <;> intro _) | (refine qV rfl ?_ ?_ <;> intro _))
  all_goals (refine congrArg D.int ?_; clear hs hz hw1 hw2 hw3 hce h1 h2 h3 h4 h5 he; simp_all [Bool.cond_eq_ite])
theorem checkset_ev (x : SIt) (he : okEx x.e) : Ev E 114 [encSI x] (.d (.int (setF x))) := by
  obtain ⟨vr, key, lb, off, e⟩ := x
  have h1 := zero_ev e
  have h2 := word_ev vr
  have h3 := word_ev lb
  have h4 := word_ev key
  have h5 := check_ev e he.1 he.2
  obtain ⟨z, hz⟩ : ∃ b, zeroF e = b := ⟨_, rfl⟩
  obtain ⟨w1, hw1⟩ : ∃ b, wordF vr = b := ⟨_, rfl⟩
  obtain ⟨w2, hw2⟩ : ∃ b, wordF lb = b := ⟨_, rfl⟩
  obtain ⟨w3, hw3⟩ : ∃ b, wordF key = b := ⟨_, rfl⟩
  obtain ⟨ce, hce⟩ : ∃ n, chkF e = n := ⟨_, rfl⟩
  have hs : setF ⟨vr, key, lb, off, e⟩ = (bif !(lb.toList == (⟨#[]⟩ : ByteArray).toList) && (!(key.toList == (⟨#[]⟩ : ByteArray).toList) || !z) || (lb.toList == (⟨#[]⟩ : ByteArray).toList) && off then 1 else bif !w1 || (!(lb.toList == (⟨#[]⟩ : ByteArray).toList) && !w2 || (lb.toList == (⟨#[]⟩ : ByteArray).toList) && !w3) then 6 else bif (lb.toList == (⟨#[]⟩ : ByteArray).toList) then ce else 0) := by rw [← hz, ← hw1, ← hw2, ← hw3, ← hce]; rfl
  rw [hs]
  rw [hz] at h1
  rw [hw1] at h2
  rw [hw2] at h3
  rw [hw3] at h4
  rw [hce] at h5
  refine enter1 Tryz.func114 Tryz.ntmps114 rfl rfl fun w0 F0 O => ?_
  repeat' (first | refine zS rfl ?_ | refine qA ?_ | refine qB rfl ?_ | refine qD ?_ | refine qE ?_ | refine qF ?_ | refine qG ?_ | refine qP rfl rfl rfl rfl rfl rfl b206 (h1) ?_ | refine qP (d := 28) rfl rfl rfl rfl rfl rfl b136 (h2) ?_ | refine qP (d := 36) rfl rfl rfl rfl rfl rfl b136 (h3) ?_ | refine qP (d := 45) rfl rfl rfl rfl rfl rfl b136 (h4) ?_ | refine qP rfl rfl rfl rfl rfl rfl b108 (h5) ?_ | refine zT rfl ?_ | refine zU rfl ?_ | refine qL rfl rfl ?_ | refine zX rfl rfl rfl rfl ?_ | refine zW rfl rfl rfl rfl ?_ | (refine qY rfl rfl rfl rfl ?_ ?_ <;> intro _) | (refine qV rfl ?_ ?_ <;> intro _))
  all_goals (refine congrArg D.int ?_; clear hs hz hw1 hw2 hw3 hce h1 h2 h3 h4 h5 he; simp_all [Bool.cond_eq_ite])
end Go.Proofs.YtmfjfclpdmpncaaGreatDoor

/- How many elements a clause's lists have, by both texts. Conditions: none. -/
namespace Go.Proofs.YtmfjfclpdmpncaaGreatDoor
set_option maxRecDepth 4000
open Go Go.Abs Go.Val Go.RowKit
attribute [local irreducible] go SGo HasBody Ev ExtEv EvO EvS RGo

set_option maxHeartbeats 2000000 in
theorem rcounts_ev (c : CL) : Ev E 120 [encCL c] (.d (.bool (!crowdF c))) := by
  obtain ⟨k, opt, ds, ps, wh, e, nm, it, od, sk, lm, st, ns⟩ := c
  have l1 : (ps.map encPA).length = ps.length := by simp
  have l2 : (encEL wh).length = wh.length := by
    induction wh with
    | nil => rfl
    | cons x r ih => simp [encEL, ih]
  have l3 : (it.map encIT).length = it.length := by simp
  have l4 : (od.map encSK).length = od.length := by simp
  have l5 : (st.map encSI).length = st.length := by simp
  have l6 : (ns.map D.str).length = ns.length := by simp
  refine enter1 Tryz.func120 Tryz.ntmps120 rfl rfl fun w0 F0 O => ?_
  repeat' (first | refine zS rfl ?_ | refine qA ?_ | refine qB rfl ?_ | refine qD ?_ | refine qE ?_ | refine qF ?_ | refine qG ?_ | refine zT rfl ?_ | refine qL rfl rfl ?_ | (refine qY rfl rfl rfl rfl ?_ ?_ <;> intro _) | (refine qV rfl ?_ ?_ <;> intro _))
  all_goals (refine congrArg D.bool ?_; simp_all [crowdF, inN, Bool.cond_eq_ite])
  all_goals first | omega | (rw [Bool.eq_iff_iff]; simp; omega)
end Go.Proofs.YtmfjfclpdmpncaaGreatDoor

/- How many elements a clause's lists have, by the program. Conditions: none. -/
namespace Go.Proofs.YtmfjfclpdmpncaaGreatDoor
set_option maxRecDepth 4000
open Go Go.Abs Go.Val Go.RowKit
attribute [local irreducible] go SGo HasBody Ev ExtEv EvO EvS RGo

set_option maxHeartbeats 2000000 in
theorem crowded_ev (c : CL) : Ev E 111 [encCL c] (.d (.bool (crowdF c))) := by
  obtain ⟨k, opt, ds, ps, wh, e, nm, it, od, sk, lm, st, ns⟩ := c
  have l1 : (ps.map encPA).length = ps.length := by simp
  have l2 : (encEL wh).length = wh.length := by
    induction wh with
    | nil => rfl
    | cons x r ih => simp [encEL, ih]
  have l3 : (it.map encIT).length = it.length := by simp
  have l4 : (od.map encSK).length = od.length := by simp
  have l5 : (st.map encSI).length = st.length := by simp
  have l6 : (ns.map D.str).length = ns.length := by simp
  have w1 : Ev E 208 [.int (ps.map encPA).length, .int 1, .int 6] (.d (.bool (inN ps.length 1 6))) := by have := within_ev (ps.map encPA).length 1 6; rw [show inN (ps.map encPA).length 1 6 = inN ps.length 1 6 by rw [l1]] at this; exact this
  have w2 : Ev E 208 [.int (it.map encIT).length, .int 1, .int 16] (.d (.bool (inN it.length 1 16))) := by have := within_ev (it.map encIT).length 1 16; rw [show inN (it.map encIT).length 1 16 = inN it.length 1 16 by rw [l3]] at this; exact this
  have w3 : Ev E 208 [.int (st.map encSI).length, .int 1, .int 16] (.d (.bool (inN st.length 1 16))) := by have := within_ev (st.map encSI).length 1 16; rw [show inN (st.map encSI).length 1 16 = inN st.length 1 16 by rw [l5]] at this; exact this
  have w4 : Ev E 208 [.int (ns.map D.str).length, .int 1, .int 16] (.d (.bool (inN ns.length 1 16))) := by have := within_ev (ns.map D.str).length 1 16; rw [show inN (ns.map D.str).length 1 16 = inN ns.length 1 16 by rw [l6]] at this; exact this
  have hbw := b208
  refine enter1 Tryz.func111 Tryz.ntmps111 rfl rfl fun w0 F0 O => ?_
  repeat' (first | refine zS rfl ?_ | refine qA ?_ | refine qB rfl ?_ | refine qD ?_ | refine qE ?_ | refine qF ?_ | refine qG ?_ | refine qP rfl rfl rfl rfl rfl rfl hbw (w1) ?_ | refine qP rfl rfl rfl rfl rfl rfl hbw (w2) ?_ | refine qP rfl rfl rfl rfl rfl rfl hbw (w3) ?_ | refine qP rfl rfl rfl rfl rfl rfl hbw (w4) ?_ | refine zT rfl ?_ | refine qL rfl rfl ?_ | (refine qY rfl rfl rfl rfl ?_ ?_ <;> intro _) | (refine qV rfl ?_ ?_ <;> intro _))
  all_goals (refine congrArg D.bool ?_; clear w1 w2 w3 w4 hbw; simp_all [crowdF, inN, Bool.cond_eq_ite])
  all_goals first | omega | (rw [Bool.eq_iff_iff]; simp; omega)
end Go.Proofs.YtmfjfclpdmpncaaGreatDoor

/- Which kinds a clause may be: the closure of stray. Conditions: none. -/
namespace Go.Proofs.YtmfjfclpdmpncaaGreatDoor
set_option maxRecDepth 4000
open Go Go.Abs Go.Val Go.RowKit
attribute [local irreducible] go SGo HasBody Ev ExtEv EvO EvS RGo

theorem indexN_ev (l : List Int) (x : Int) : Ev E 94 [.sl (l.map D.int), .int x] (.d (.int (optC (l.findIdx? fun y => x == y)))) := Ev.fit fun hfit => by
  have hmax := (fitc_map (hfit (.sl (l.map D.int)) (by simp))).1
  have hle : (l.map D.int).length = l.length := by simp
  refine enter2 Tryz.func94 Tryz.ntmps94 rfl rfl fun w0 F0 O => ?_
  repeat' (first | refine zS rfl ?_ | refine qA ?_ | refine qB rfl ?_ | refine qD ?_ | refine qF ?_)
  refine go_loop_ (α := SFc l fun y => x == y) (fun p => ⟨[(0, .d (.sl (l.map D.int))), (1, .d (.int x)), (7, .d (.int (l.map D.int).length)), (8, .d (.int p.i))], []⟩) (fun p => l.length - p.i) ⟨0, by omega, fun j hj => absurd hj (by omega)⟩ ((zle 0)) ?_
  rintro ⟨i, hi, ok⟩
  dsimp only
  rcases Nat.lt_or_ge i l.length with hlt | hge
  · have g1 : decide ((i : Int) < ((l.map D.int).length : Int)) = true := by rw [hle]; simpa using hlt
    have hx0 := List.getElem?_eq_getElem hlt
    generalize l[i] = y at hx0
    have hx : (l.map D.int)[((i : Nat) : Int).toNat]? = some (.int y) := map_c (f := D.int) hx0
    cases hc : x == y with
    | true =>
      rw [fic_some hx0 hc ok]
      repeat' (first | refine zS rfl ?_ | refine qA ?_ | refine qB rfl ?_ | refine qD ?_ | refine qE ?_ | refine qF ?_ | refine qI (.int y) rfl (guardX_ok rfl) rfl rfl rfl rfl rfl rfl (by first | omega | decide) hx ?_ | refine zT rfl ?_ | refine qL rfl rfl ?_ | exact zD)
    | false =>
      repeat' (first | refine zS rfl ?_ | refine qA ?_ | refine qB rfl ?_ | refine qD ?_ | refine qE ?_ | refine qF ?_ | refine qG ?_ | refine qI (.int y) rfl (guardX_ok rfl) rfl rfl rfl rfl rfl rfl (by first | omega | decide) hx ?_ | refine zT rfl ?_ | refine zU rfl ?_)
      refine go_stop ?_
      exact ⟨⟨i + 1, by omega, SFc.next hx0 hc ok⟩, by dsimp only; omega, (zle 0)⟩
  · have g1 : decide ((i : Int) < ((l.map D.int).length : Int)) = false := by rw [hle]; simp; omega
    rw [fic_none fun j hj => ok j (by omega)]
    repeat' (first | refine zS rfl ?_ | refine qA ?_ | refine qB rfl ?_ | refine qD ?_ | refine qH rfl ?_ | refine zU rfl ?_ | refine qL rfl rfl ?_ | exact zD)
theorem containsN_ev (l : List Int) (x : Int) : Ev E 205 [.sl (l.map D.int), .int x] (.d (.bool (l.any fun y => x == y))) := by
  have h := indexN_ev l x
  rw [← fic_any]
  refine enter2 Tryz.func205 Tryz.ntmps205 rfl rfl fun w0 F0 O => ?_
  repeat' (first | refine zS rfl ?_ | refine qA ?_ | refine qB rfl ?_ | refine qD ?_ | refine qP rfl rfl rfl rfl rfl rfl b94 (h) ?_ | refine qL rfl rfl ?_ | exact zD)
abbrev oCL (c : CL) : AObj := .var 45 (.w (.d (encCL c)))
theorem stray1_evS (c : CL) (l : List Int) : EvS E 204 [.d (.sl (l.map D.int)), .ptr 0 0] [oCL c] (.d (.bool (l.any fun y => c.k == y))) [oCL c] := by
  obtain ⟨k, opt, ds, ps, wh, e, nm, it, od, sk, lm, st, ns⟩ := c
  have h := containsN_ev l k
  refine EvS.enter Tryz.func204 Tryz.ntmps204 rfl rfl fun w0 F0 O σ0 => ?_
  dsimp only [List.range, List.range.loop, List.zip, List.zipWith, List.length]
  repeat' (first | refine zS rfl ?_ | refine qA ?_ | refine qB rfl ?_ | refine qD ?_ | refine qP rfl rfl rfl rfl rfl rfl b205 (h) ?_ | refine retS1 [0] rfl rfl rfl rfl rfl ?_)
  rfl
end Go.Proofs.YtmfjfclpdmpncaaGreatDoor

/- The first error of some checks. Conditions: none. -/
namespace Go.Proofs.YtmfjfclpdmpncaaGreatDoor
set_option maxRecDepth 4000
open Go Go.Abs Go.Val Go.RowKit
attribute [local irreducible] go SGo HasBody Ev ExtEv EvO EvS RGo

/-- The list's variable: as it was declared, or as it was written. -/
def oLi (b : Bool) (a : Int) : AObj := .var 158 (bif b then .w (.d (.int a)) else .cs [.d (.int a)])
def adI (a e : Int) : Int := bif a == 0 then e else a
def adB (b : Bool) (a : Int) : Bool := bif a == 0 then true else b
theorem add_evS (b : Bool) (a e : Int) : EvS E 112 [.ptr 0 0, .d (.int e)] [oLi b a] (.tup []) [oLi (adB b a) (adI a e)] := by
  unfold adI adB oLi
  cases b with
  | true =>
    cases c1 : a == 0 with
    | true =>
      simp only [cond_true]
      refine EvS.enter Tryz.func112 Tryz.ntmps112 rfl rfl fun w0 F0 O σ0 => ?_
      dsimp only [List.range, List.range.loop, List.zip, List.zipWith, List.length]
      repeat' (first | refine zS rfl ?_ | refine qA ?_ | refine qB rfl ?_ | refine qD ?_ | refine endS0 [0] rfl rfl rfl rfl | refine zT rfl ?_)
    | false =>
      simp only [cond_true, cond_false]
      refine EvS.enter Tryz.func112 Tryz.ntmps112 rfl rfl fun w0 F0 O σ0 => ?_
      dsimp only [List.range, List.range.loop, List.zip, List.zipWith, List.length]
      repeat' (first | refine zS rfl ?_ | refine qA ?_ | refine qB rfl ?_ | refine qD ?_ | refine qE ?_ | refine endS0 [0] rfl rfl rfl rfl | refine zU rfl ?_)
  | false =>
    cases c1 : a == 0 with
    | true =>
      simp only [cond_true, cond_false]
      refine EvS.enter Tryz.func112 Tryz.ntmps112 rfl rfl fun w0 F0 O σ0 => ?_
      dsimp only [List.range, List.range.loop, List.zip, List.zipWith, List.length]
      repeat' (first | refine zS rfl ?_ | refine qA ?_ | refine qB rfl ?_ | refine qD ?_ | refine endS0 [0] rfl rfl rfl rfl | refine zT rfl ?_)
    | false =>
      simp only [cond_false]
      refine EvS.enter Tryz.func112 Tryz.ntmps112 rfl rfl fun w0 F0 O σ0 => ?_
      dsimp only [List.range, List.range.loop, List.zip, List.zipWith, List.length]
      repeat' (first | refine zS rfl ?_ | refine qA ?_ | refine qB rfl ?_ | refine qD ?_ | refine qE ?_ | refine endS0 [0] rfl rfl rfl rfl | refine zU rfl ?_)
/-- Whether the list's variable is written where a name is needed. -/
def neB (b : Bool) (a : Int) (s : ByteArray) : Bool := bif wordF s then b else adB b a
theorem need_evS (b : Bool) (a : Int) (s : ByteArray) : EvS E 113 [.ptr 0 0, .d (.str s)] [oLi b a] (.tup []) [oLi (neB b a s) (adI a (wrdI s))] := by
  have h := word_ev s
  unfold wrdI neB
  cases c1 : wordF s with
  | true =>
    rw [c1] at h
    have e : adI a (bif true then 0 else 6) = a := by unfold adI; cases c : a == 0 <;> simp_all
    rw [e, cond_true]
    cases b with
    | true =>
      refine EvS.enter Tryz.func113 Tryz.ntmps113 rfl rfl fun w0 F0 O σ0 => ?_
      dsimp only [List.range, List.range.loop, List.zip, List.zipWith, List.length]
      repeat' (first | refine zS rfl ?_ | refine qA ?_ | refine qB rfl ?_ | refine qD ?_ | refine qE ?_ | refine qP rfl rfl rfl rfl rfl rfl b136 (h) ?_ | refine endS0 [0] rfl rfl rfl rfl | refine zU rfl ?_)
    | false =>
      refine EvS.enter Tryz.func113 Tryz.ntmps113 rfl rfl fun w0 F0 O σ0 => ?_
      dsimp only [List.range, List.range.loop, List.zip, List.zipWith, List.length]
      repeat' (first | refine zS rfl ?_ | refine qA ?_ | refine qB rfl ?_ | refine qD ?_ | refine qE ?_ | refine qP rfl rfl rfl rfl rfl rfl b136 (h) ?_ | refine endS0 [0] rfl rfl rfl rfl | refine zU rfl ?_)
  | false =>
    rw [c1] at h
    have ha := add_evS b a 6
    rw [cond_false, cond_false]
    unfold adB adI at ha ⊢
    cases b with
    | true =>
      cases c2 : a == 0 with
      | true =>
        rw [c2] at ha
        refine EvS.enter Tryz.func113 Tryz.ntmps113 rfl rfl fun w0 F0 O σ0 => ?_
        dsimp only [List.range, List.range.loop, List.zip, List.zipWith, List.length]
        repeat' (first | refine zS rfl ?_ | refine qA ?_ | refine qB rfl ?_ | refine qD ?_ | refine qP rfl rfl rfl rfl rfl rfl b136 (h) ?_ | refine go_callS [0] rfl rfl rfl rfl (FnX.plain _) b112 (ha) rfl rfl rfl rfl rfl ?_ | refine endS0 [0] rfl rfl rfl rfl | refine zT rfl ?_)
      | false =>
        rw [c2] at ha
        refine EvS.enter Tryz.func113 Tryz.ntmps113 rfl rfl fun w0 F0 O σ0 => ?_
        dsimp only [List.range, List.range.loop, List.zip, List.zipWith, List.length]
        repeat' (first | refine zS rfl ?_ | refine qA ?_ | refine qB rfl ?_ | refine qD ?_ | refine qP rfl rfl rfl rfl rfl rfl b136 (h) ?_ | refine go_callS [0] rfl rfl rfl rfl (FnX.plain _) b112 (ha) rfl rfl rfl rfl rfl ?_ | refine endS0 [0] rfl rfl rfl rfl | refine zT rfl ?_)
    | false =>
      cases c2 : a == 0 with
      | true =>
        rw [c2] at ha
        refine EvS.enter Tryz.func113 Tryz.ntmps113 rfl rfl fun w0 F0 O σ0 => ?_
        dsimp only [List.range, List.range.loop, List.zip, List.zipWith, List.length]
        repeat' (first | refine zS rfl ?_ | refine qA ?_ | refine qB rfl ?_ | refine qD ?_ | refine qP rfl rfl rfl rfl rfl rfl b136 (h) ?_ | refine go_callS [0] rfl rfl rfl rfl (FnX.plain _) b112 (ha) rfl rfl rfl rfl rfl ?_ | refine endS0 [0] rfl rfl rfl rfl | refine zT rfl ?_)
      | false =>
        rw [c2] at ha
        refine EvS.enter Tryz.func113 Tryz.ntmps113 rfl rfl fun w0 F0 O σ0 => ?_
        dsimp only [List.range, List.range.loop, List.zip, List.zipWith, List.length]
        repeat' (first | refine zS rfl ?_ | refine qA ?_ | refine qB rfl ?_ | refine qD ?_ | refine qP rfl rfl rfl rfl rfl rfl b136 (h) ?_ | refine go_callS [0] rfl rfl rfl rfl (FnX.plain _) b112 (ha) rfl rfl rfl rfl rfl ?_ | refine endS0 [0] rfl rfl rfl rfl | refine zT rfl ?_)
end Go.Proofs.YtmfjfclpdmpncaaGreatDoor

/- Which fields a clause may use, by the specification. Conditions: none. -/
namespace Go.Proofs.YtmfjfclpdmpncaaGreatDoor
set_option maxRecDepth 4000
open Go Go.Abs Go.Val Go.RowKit
attribute [local irreducible] go SGo HasBody Ev ExtEv EvO EvS RGo

def wiK (k : Int) : Bool := k == 3 || k == 4
def un1 (c : CL) : Bool := (c.opt && (c.k != 1 && c.k != 8)) || (c.ds && !wiK c.k)
def un2 (c : CL) : Bool := decide ((c.ps.length : Int) > 0) && (c.k != 1 && (c.k != 5 && c.k != 6))
def un3 (c : CL) : Bool := decide ((c.wh.length : Int) > 0) && (c.k != 1 && c.k != 3)
def un4 (c : CL) : Bool := c.k != 2 && (!zeroF c.e || !s0B c.nm)
def un5 (c : CL) : Bool := !wiK c.k && (((decide ((c.it.length : Int) > 0) || decide ((c.od.length : Int) > 0)) || decide (c.sk > 0)) || decide (c.lm > 0))
def un6 (c : CL) : Bool := ((c.st.length : Int) == 0 || c.k == 7) && ((c.ns.length : Int) == 0 || c.k == 8)
def unuF (c : CL) : Bool := !un1 c && (!un2 c && (!un3 c && (!un4 c && (!un5 c && un6 c))))
set_option maxHeartbeats 4000000 in
theorem runused_ev (c : CL) : Ev E 119 [encCL c] (.d (.bool (unuF c))) := by
  have l2 : (encEL c.wh).length = c.wh.length := by
    generalize c.wh = wh
    induction wh with
    | nil => rfl
    | cons x r ih => simp [encEL, ih]
  have h := none_ev c.e
  unfold unuF
  obtain ⟨v1, h1⟩ : ∃ b, un1 c = b := ⟨_, rfl⟩
  obtain ⟨v2, h2⟩ : ∃ b, un2 c = b := ⟨_, rfl⟩
  obtain ⟨v3, h3⟩ : ∃ b, un3 c = b := ⟨_, rfl⟩
  obtain ⟨v4, h4⟩ : ∃ b, un4 c = b := ⟨_, rfl⟩
  obtain ⟨v5, h5⟩ : ∃ b, un5 c = b := ⟨_, rfl⟩
  obtain ⟨v6, h6⟩ : ∃ b, un6 c = b := ⟨_, rfl⟩
  obtain ⟨w, hw⟩ : ∃ b, wiK c.k = b := ⟨_, rfl⟩
  rw [h1, h2, h3, h4, h5, h6]
  unfold un1 un5 at *
  unfold un2 un3 un4 un6 at *
  rw [hw] at h1 h5
  obtain ⟨k, opt, ds, ps, wh, e, nm, it, od, sk, lm, st, ns⟩ := c
  dsimp only at l2 h h1 h2 h3 h4 h5 h6 hw
  have l1 : (ps.map encPA).length = ps.length := by simp
  have l3 : (it.map encIT).length = it.length := by simp
  have l4 : (od.map encSK).length = od.length := by simp
  have l5 : (st.map encSI).length = st.length := by simp
  have l6 : (ns.map D.str).length = ns.length := by simp
  have hs : s0B nm = (nm.toList == (⟨#[]⟩ : ByteArray).toList) := rfl
  obtain ⟨z, hz⟩ : ∃ b, zeroF e = b := ⟨_, rfl⟩
  rw [hz] at h h4
  rw [hs] at h4
  clear hs hz
  refine enter1 Tryz.func119 Tryz.ntmps119 rfl rfl fun w0 F0 O => ?_
  repeat' (first | refine go_cutR 2 (fun b => ⟨[(4, .d (.bool b)), (1, .ptr 0 0), (3, .d (.int k))], [oCL ⟨k, opt, ds, ps, wh, e, nm, it, od, sk, lm, st, ns⟩]⟩) (w) ?_ ?_ | refine go_cutR 3 (fun b => ⟨[(30, .d (.bool b)), (4, .d (.bool w)), (1, .ptr 0 0), (3, .d (.int k))], [oCL ⟨k, opt, ds, ps, wh, e, nm, it, od, sk, lm, st, ns⟩]⟩) (v1) ?_ ?_ | refine go_cutR 5 (fun b => ⟨[(46, .d (.bool b)), (4, .d (.bool w)), (1, .ptr 0 0), (3, .d (.int k))], [oCL ⟨k, opt, ds, ps, wh, e, nm, it, od, sk, lm, st, ns⟩]⟩) (v2) ?_ ?_ | refine go_cutR 7 (fun b => ⟨[(58, .d (.bool b)), (4, .d (.bool w)), (1, .ptr 0 0), (3, .d (.int k))], [oCL ⟨k, opt, ds, ps, wh, e, nm, it, od, sk, lm, st, ns⟩]⟩) (v3) ?_ ?_ | refine go_cutR 9 (fun b => ⟨[(71, .d (.bool b)), (4, .d (.bool w)), (1, .ptr 0 0), (3, .d (.int k))], [oCL ⟨k, opt, ds, ps, wh, e, nm, it, od, sk, lm, st, ns⟩]⟩) (v4) ?_ ?_ | refine go_cutR 11 (fun b => ⟨[(95, .d (.bool b)), (4, .d (.bool w)), (1, .ptr 0 0), (3, .d (.int k))], [oCL ⟨k, opt, ds, ps, wh, e, nm, it, od, sk, lm, st, ns⟩]⟩) (v5) ?_ ?_ | refine zS rfl ?_ | refine qA ?_ | refine qB rfl ?_ | refine qD ?_ | refine qE ?_ | refine qP rfl rfl rfl rfl rfl rfl b213 (h) ?_ | refine go_stop ⟨_, ?_, (zle 1)⟩ | refine qL rfl rfl ?_ | (refine qY rfl rfl rfl rfl ?_ ?_ <;> intro _) | (refine qV rfl ?_ ?_ <;> intro _))
  all_goals clear h
  any_goals (refine Eq.trans ?_ hw; clear hw h1 h2 h3 h4 h5 h6; unfold wiK; simp_all; done)
  all_goals first | (refine Eq.trans ?_ h1; clear hw h1 h2 h3 h4 h5 h6; simp_all; done) | (refine Eq.trans ?_ h1; clear hw h1 h2 h3 h4 h5 h6; simp_all; (rw [Bool.eq_iff_iff]; simp; omega)) | skip
  all_goals first | (refine Eq.trans ?_ h2; clear hw h1 h2 h3 h4 h5 h6; simp_all; done) | (refine Eq.trans ?_ h2; clear hw h1 h2 h3 h4 h5 h6; simp_all; (rw [Bool.eq_iff_iff]; simp; omega)) | skip
  all_goals first | (refine Eq.trans ?_ h3; clear hw h1 h2 h3 h4 h5 h6; simp_all; done) | (refine Eq.trans ?_ h3; clear hw h1 h2 h3 h4 h5 h6; simp_all; (rw [Bool.eq_iff_iff]; simp; omega)) | skip
  all_goals first | (refine Eq.trans ?_ h4; clear hw h1 h2 h3 h4 h5 h6; simp_all; done) | (refine Eq.trans ?_ h4; clear hw h1 h2 h3 h4 h5 h6; simp_all; (rw [Bool.eq_iff_iff]; simp; omega)) | skip
  all_goals first | (refine Eq.trans ?_ h5; clear hw h1 h2 h3 h4 h5 h6; simp_all; done) | (refine Eq.trans ?_ h5; clear hw h1 h2 h3 h4 h5 h6; simp_all; (rw [Bool.eq_iff_iff]; simp; omega)) | skip
  all_goals first | (refine Eq.trans ?_ h5; clear hw h1 h2 h3 h4 h5 h6; dsimp only at *; rw [l3, l4] at *; simp_all; done) | (refine Eq.trans ?_ h5; clear hw h1 h2 h3 h4 h5 h6; dsimp only at *; simp_all; cases w <;> simp_all; done) | skip
  all_goals first | (refine congrArg D.bool ?_; clear hw h1 h2 h3 h4 h5; subst h6; simp_all; done) | (refine congrArg D.bool ?_; clear hw h1 h2 h3 h4 h5; subst h6; simp_all; (rw [Bool.eq_iff_iff]; simp; omega)) | skip
  all_goals (refine Eq.trans ?_ h5; rename_i q4 q3 q2 q1; simp only [cond_false, cond_true, l3, l4] at q1 q2 q3 q4 ⊢; rw [q4, q3, q2, q1]; rfl)
end Go.Proofs.YtmfjfclpdmpncaaGreatDoor

/- The two texts' words on unused fields are the same. Conditions: none; a plain law. -/
namespace Go.Proofs.YtmfjfclpdmpncaaGreatDoor
set_option maxRecDepth 4000
open Go Go.Abs Go.Val Go.RowKit

def rngF (c : CL) : Bool := decide (c.sk < -1) || (decide (c.sk > 1000000000000000) || (decide (c.lm < -1) || decide (c.lm > 1000000000000000)))
theorem abs_pos {a b : Int} (h : decide (a < -1) = false) (h' : decide (b < -1) = false) : (!(absF a) || !(absF b)) = (decide (a > 0) || decide (b > 0)) := by
  have h1 := of_decide_eq_false h
  have h2 := of_decide_eq_false h'
  unfold absF
  rw [Bool.eq_iff_iff]
  simp
  omega
theorem pos_len (n : Nat) : decide ((n : Int) > 0) = decide (n > 0) := by rw [Bool.eq_iff_iff]; simp
theorem zer_len (n : Nat) : ((n : Int) == 0) = !decide (n > 0) := by rw [Bool.eq_iff_iff]; simp
theorem stray_unu (c : CL) : strayF c = (!unuF c || rngF c) := by
  unfold strayF unuF rngF un1 un2 un3 un4 un5 un6 wiK
  dsimp only
  cases h1 : decide (c.sk < -1) with
  | true =>
    simp only [Bool.true_or, Bool.or_true, cond_true]
    generalize (c.opt && !(c.k == 1 || c.k == 8) || c.ds && !(c.k == 3 || c.k == 4)) = a1
    generalize (decide (c.ps.length > 0) && !(c.k == 1 || (c.k == 5 || c.k == 6)) || decide (c.wh.length > 0) && !(c.k == 1 || c.k == 3)) = a2
    generalize (!(c.k == 2) && (!(zeroF c.e) || !(s0B c.nm)) || !(c.k == 3 || c.k == 4) && (decide (c.it.length > 0) || decide (c.od.length > 0))) = a3
    cases a1 <;> cases a2 <;> cases a3 <;> rfl
  | false =>
    cases h2 : decide (c.lm < -1) with
    | true =>
      simp only [Bool.true_or, Bool.or_true, cond_true]
      generalize (c.opt && !(c.k == 1 || c.k == 8) || c.ds && !(c.k == 3 || c.k == 4)) = a1
      generalize (decide (c.ps.length > 0) && !(c.k == 1 || (c.k == 5 || c.k == 6)) || decide (c.wh.length > 0) && !(c.k == 1 || c.k == 3)) = a2
      generalize (!(c.k == 2) && (!(zeroF c.e) || !(s0B c.nm)) || !(c.k == 3 || c.k == 4) && (decide (c.it.length > 0) || decide (c.od.length > 0))) = a3
      cases a1 <;> cases a2 <;> cases a3 <;> rfl
    | false =>
      rw [abs_pos h1 h2]
      simp only [pos_len, zer_len, bne]
      generalize decide (c.sk > 1000000000000000) = q1
      generalize decide (c.lm > 1000000000000000) = q2
      generalize decide (c.sk > 0) = q3
      generalize decide (c.lm > 0) = q4
      generalize decide (c.ps.length > 0) = p1
      generalize decide (c.wh.length > 0) = p2
      generalize decide (c.it.length > 0) = p3
      generalize decide (c.od.length > 0) = p4
      generalize decide (c.st.length > 0) = p5
      generalize decide (c.ns.length > 0) = p6
      generalize zeroF c.e = z
      generalize s0B c.nm = z2
      generalize c.opt = o
      generalize c.ds = d
      have hk : ∀ k : Int, (k = 1 ∨ k = 2 ∨ k = 3 ∨ k = 4 ∨ k = 5 ∨ k = 6 ∨ k = 7 ∨ k = 8) ∨ ((k == 1) = false ∧ (k == 2) = false ∧ (k == 3) = false ∧ (k == 4) = false ∧ (k == 5) = false ∧ (k == 6) = false ∧ (k == 7) = false ∧ (k == 8) = false) := by
        intro k
        simp
        omega
      rcases hk c.k with h | ⟨e1, e2, e3, e4, e5, e6, e7, e8⟩
      · rcases h with e | e | e | e | e | e | e | e
        all_goals (rw [e])
        · cases d <;> cases o <;> cases p1 <;> cases p2 <;> cases z <;> cases z2 <;> cases p3 <;> simp <;> ac_rfl
        · cases d <;> cases o <;> cases p1 <;> cases p2 <;> cases z <;> cases z2 <;> cases p3 <;> simp <;> ac_rfl
        · cases d <;> cases o <;> cases p1 <;> cases p2 <;> cases z <;> cases z2 <;> cases p3 <;> simp <;> ac_rfl
        · cases d <;> cases o <;> cases p1 <;> cases p2 <;> cases z <;> cases z2 <;> cases p3 <;> simp <;> ac_rfl
        · cases d <;> cases o <;> cases p1 <;> cases p2 <;> cases z <;> cases z2 <;> cases p3 <;> simp <;> ac_rfl
        · cases d <;> cases o <;> cases p1 <;> cases p2 <;> cases z <;> cases z2 <;> cases p3 <;> simp <;> ac_rfl
        · cases d <;> cases o <;> cases p1 <;> cases p2 <;> cases z <;> cases z2 <;> cases p3 <;> simp <;> ac_rfl
        · cases d <;> cases o <;> cases p1 <;> cases p2 <;> cases z <;> cases z2 <;> cases p3 <;> simp <;> ac_rfl
      · rw [e1, e2, e3, e4, e5, e6, e7, e8]
        cases d <;> cases o <;> cases p1 <;> cases p2 <;> cases z <;> cases z2 <;> cases p3 <;> simp <;> ac_rfl
end Go.Proofs.YtmfjfclpdmpncaaGreatDoor

/- Whether a clause uses a field that its kind does not have, by the program. Conditions: none. -/
namespace Go.Proofs.YtmfjfclpdmpncaaGreatDoor
set_option maxRecDepth 4000
open Go Go.Abs Go.Val Go.RowKit
attribute [local irreducible] go SGo HasBody Ev ExtEv EvO EvS RGo

def str1 (c : CL) : Bool := c.opt && !(c.k == 1 || c.k == 8)
def str2 (c : CL) : Bool := c.ds && !(c.k == 3 || c.k == 4)
def str3 (c : CL) : Bool := decide ((c.ps.length : Int) > 0) && !(c.k == 1 || (c.k == 5 || c.k == 6))
def str4 (c : CL) : Bool := decide ((c.wh.length : Int) > 0) && !(c.k == 1 || c.k == 3)
def str5 (c : CL) : Bool := !(c.k == 2) && (!(zeroF c.e) || !(s0B c.nm))
def str6 (c : CL) : Bool := !(c.k == 3 || c.k == 4) && (decide ((c.it.length : Int) > 0) || decide ((c.od.length : Int) > 0))
def str7 (c : CL) : Bool := !(c.k == 3 || c.k == 4) && (!(absF c.sk) || !(absF c.lm))
def str8 (c : CL) : Bool := decide (c.sk < -1) || (decide (c.sk > 1000000000000000) || (decide (c.lm < -1) || decide (c.lm > 1000000000000000)))
def str9 (c : CL) : Bool := decide ((c.st.length : Int) > 0) && !(c.k == 7) || decide ((c.ns.length : Int) > 0) && !(c.k == 8)
theorem str_eq (c : CL) : strayF c = (str1 c || (str2 c || (str3 c || (str4 c || (str5 c || (str6 c || (str7 c || (str8 c || str9 c)))))))) := by
  unfold strayF str1 str2 str3 str4 str5 str6 str7 str8 str9
  dsimp only
  simp only [pos_len]
  generalize (c.opt && !(c.k == 1 || c.k == 8)) = a1
  generalize (c.ds && !(c.k == 3 || c.k == 4)) = a2
  generalize (decide (c.ps.length > 0) && !(c.k == 1 || (c.k == 5 || c.k == 6))) = a3
  generalize (decide (c.wh.length > 0) && !(c.k == 1 || c.k == 3)) = a4
  generalize (!(c.k == 2) && (!(zeroF c.e) || !(s0B c.nm))) = a5
  generalize (!(c.k == 3 || c.k == 4) && (decide (c.it.length > 0) || decide (c.od.length > 0))) = a6
  generalize (!(c.k == 3 || c.k == 4) && (!(absF c.sk) || !(absF c.lm))) = a7
  generalize (decide (c.sk < -1) || (decide (c.sk > 1000000000000000) || (decide (c.lm < -1) || decide (c.lm > 1000000000000000)))) = a8
  cases a1 <;> cases a2 <;> cases a3 <;> cases a4 <;> cases a5 <;> cases a6 <;> cases a7 <;> cases a8 <;> rfl
theorem is_ev (c : CL) (l : List Int) (b : Bool) (h : (l.any fun y => c.k == y) = b) : EvS E 204 [.d (.sl (l.map D.int)), .ptr 0 0] [oCL c] (.d (.bool b)) [oCL c] := by
  have := stray1_evS c l
  rw [h] at this
  exact this
set_option maxHeartbeats 8000000 in
theorem stray_ev (c : CL) : Ev E 110 [encCL c] (.d (.bool (strayF c))) := by
  have l2 : (encEL c.wh).length = c.wh.length := by
    generalize c.wh = wh
    induction wh with
    | nil => rfl
    | cons x r ih => simp [encEL, ih]
  have hz := zero_ev c.e
  have ha := absent_ev c.sk
  have hb := absent_ev c.lm
  rw [str_eq]
  obtain ⟨w, hw⟩ : ∃ b, (c.k == 3 || c.k == 4) = b := ⟨_, rfl⟩
  have s0 := is_ev c [3, 4] w (by rw [← hw]; simp)
  have s1 := is_ev c [1, 8] (c.k == 1 || c.k == 8) (by simp)
  have s2 := is_ev c [1, 5, 6] (c.k == 1 || (c.k == 5 || c.k == 6)) (by simp)
  have s3 := is_ev c [1, 3] (c.k == 1 || c.k == 3) (by simp)
  have s4 := is_ev c [2] (c.k == 2) (by simp)
  have s5 := is_ev c [7] (c.k == 7) (by simp)
  have s6 := is_ev c [8] (c.k == 8) (by simp)
  obtain ⟨v1, h1⟩ : ∃ b, str1 c = b := ⟨_, rfl⟩
  obtain ⟨v2, h2⟩ : ∃ b, str2 c = b := ⟨_, rfl⟩
  obtain ⟨v3, h3⟩ : ∃ b, str3 c = b := ⟨_, rfl⟩
  obtain ⟨v4, h4⟩ : ∃ b, str4 c = b := ⟨_, rfl⟩
  obtain ⟨v5, h5⟩ : ∃ b, str5 c = b := ⟨_, rfl⟩
  obtain ⟨v6, h6⟩ : ∃ b, str6 c = b := ⟨_, rfl⟩
  obtain ⟨v7, h7⟩ : ∃ b, str7 c = b := ⟨_, rfl⟩
  obtain ⟨v8, h8⟩ : ∃ b, str8 c = b := ⟨_, rfl⟩
  obtain ⟨v9, h9⟩ : ∃ b, str9 c = b := ⟨_, rfl⟩
  rw [h1, h2, h3, h4, h5, h6, h7, h8, h9]
  unfold str1 at h1
  unfold str2 at h2
  unfold str3 at h3
  unfold str4 at h4
  unfold str5 at h5
  unfold str6 at h6
  unfold str7 at h7
  unfold str8 at h8
  unfold str9 at h9
  rw [hw] at h2 h6 h7
  obtain ⟨k, opt, ds, ps, wh, e, nm, it, od, sk, lm, st, ns⟩ := c
  dsimp only at l2 hz ha hb h1 h2 h3 h4 h5 h6 h7 h8 h9 hw s0 s1 s2 s3 s4 s5 s6
  have l1 : (ps.map encPA).length = ps.length := by simp
  have l3 : (it.map encIT).length = it.length := by simp
  have l4 : (od.map encSK).length = od.length := by simp
  have l5 : (st.map encSI).length = st.length := by simp
  have l6 : (ns.map D.str).length = ns.length := by simp
  have hs : s0B nm = (nm.toList == (⟨#[]⟩ : ByteArray).toList) := rfl
  obtain ⟨z, hzz⟩ : ∃ b, zeroF e = b := ⟨_, rfl⟩
  obtain ⟨z1, hz1⟩ : ∃ b, absF sk = b := ⟨_, rfl⟩
  obtain ⟨z2, hz2⟩ : ∃ b, absF lm = b := ⟨_, rfl⟩
  rw [hzz] at hz h5
  rw [hs] at h5
  rw [hz1] at ha h7
  rw [hz2] at hb h7
  clear hs hzz hz1 hz2 hw
  rw [← l1] at h3
  rw [← l2] at h4
  rw [← l3, ← l4] at h6
  rw [← l5, ← l6] at h9
  clear l1 l2 l3 l4 l5 l6
  generalize (k == 1 || k == 8) = k1 at *
  generalize (k == 1 || (k == 5 || k == 6)) = k2 at *
  generalize (k == 1 || k == 3) = k3 at *
  generalize (k == 2) = k4 at *
  generalize (k == 7) = k5 at *
  generalize (k == 8) = k6 at *
  refine enter1 Tryz.func110 Tryz.ntmps110 rfl rfl fun w0 F0 O => ?_
  repeat' (first | refine go_cutR 3 (fun b => ⟨[(9, .d (.bool b)), (1, .ptr 0 0), (3, .clo 204 [.ptr 0 0]), (4, .d (.bool w))], [oCL ⟨k, opt, ds, ps, wh, e, nm, it, od, sk, lm, st, ns⟩]⟩) (v1) ?_ ?_ | refine go_cutR 4 (fun b => ⟨[(9, .d (.bool b)), (1, .ptr 0 0), (3, .clo 204 [.ptr 0 0]), (4, .d (.bool w))], [oCL ⟨k, opt, ds, ps, wh, e, nm, it, od, sk, lm, st, ns⟩]⟩) (v2) ?_ ?_ | refine go_cutR 6 (fun b => ⟨[(24, .d (.bool b)), (1, .ptr 0 0), (3, .clo 204 [.ptr 0 0]), (4, .d (.bool w))], [oCL ⟨k, opt, ds, ps, wh, e, nm, it, od, sk, lm, st, ns⟩]⟩) (v3) ?_ ?_ | refine go_cutR 7 (fun b => ⟨[(24, .d (.bool b)), (1, .ptr 0 0), (3, .clo 204 [.ptr 0 0]), (4, .d (.bool w))], [oCL ⟨k, opt, ds, ps, wh, e, nm, it, od, sk, lm, st, ns⟩]⟩) (v4) ?_ ?_ | refine go_cutR 9 (fun b => ⟨[(45, .d (.bool b)), (1, .ptr 0 0), (3, .clo 204 [.ptr 0 0]), (4, .d (.bool w))], [oCL ⟨k, opt, ds, ps, wh, e, nm, it, od, sk, lm, st, ns⟩]⟩) (v5) ?_ ?_ | refine go_cutR 10 (fun b => ⟨[(45, .d (.bool b)), (1, .ptr 0 0), (3, .clo 204 [.ptr 0 0]), (4, .d (.bool w))], [oCL ⟨k, opt, ds, ps, wh, e, nm, it, od, sk, lm, st, ns⟩]⟩) (v6) ?_ ?_ | refine go_cutR 12 (fun b => ⟨[(75, .d (.bool b)), (1, .ptr 0 0), (3, .clo 204 [.ptr 0 0]), (4, .d (.bool w))], [oCL ⟨k, opt, ds, ps, wh, e, nm, it, od, sk, lm, st, ns⟩]⟩) (v7) ?_ ?_ | refine go_cutR 13 (fun b => ⟨[(75, .d (.bool b)), (1, .ptr 0 0), (3, .clo 204 [.ptr 0 0]), (4, .d (.bool w))], [oCL ⟨k, opt, ds, ps, wh, e, nm, it, od, sk, lm, st, ns⟩]⟩) (v8) ?_ ?_ | refine zS rfl ?_ | refine qA ?_ | refine qB rfl ?_ | refine qD ?_ | refine qE ?_ | refine qF ?_ | refine qG ?_ | refine go_makeFunc rfl rfl rfl rfl rfl ?_ | refine go_callS [0] rfl rfl rfl rfl (FnX.clo _ _) b204 (s0) rfl rfl rfl rfl rfl ?_ | refine go_callS [0] rfl rfl rfl rfl (FnX.clo _ _) b204 (s1) rfl rfl rfl rfl rfl ?_ | refine go_callS [0] rfl rfl rfl rfl (FnX.clo _ _) b204 (s2) rfl rfl rfl rfl rfl ?_ | refine go_callS [0] rfl rfl rfl rfl (FnX.clo _ _) b204 (s3) rfl rfl rfl rfl rfl ?_ | refine go_callS [0] rfl rfl rfl rfl (FnX.clo _ _) b204 (s4) rfl rfl rfl rfl rfl ?_ | refine go_callS [0] rfl rfl rfl rfl (FnX.clo _ _) b204 (s5) rfl rfl rfl rfl rfl ?_ | refine go_callS [0] rfl rfl rfl rfl (FnX.clo _ _) b204 (s6) rfl rfl rfl rfl rfl ?_ | refine qP rfl rfl rfl rfl rfl rfl b206 (hz) ?_ | refine qP (d := 81) rfl rfl rfl rfl rfl rfl b207 (ha) ?_ | refine qP (d := 86) rfl rfl rfl rfl rfl rfl b207 (hb) ?_ | refine go_stop ⟨_, ?_, (zle 1)⟩ | refine zT rfl ?_ | refine qL rfl rfl ?_ | (refine qY rfl rfl rfl rfl ?_ ?_ <;> intro _) | (refine qV rfl ?_ ?_ <;> intro _))
  all_goals clear hz ha hb s0 s1 s2 s3 s4 s5 s6
  any_goals (refine Eq.trans ?_ h1; clear h2 h3 h4 h5 h6 h7 h8 h9; simp_all; done)
  any_goals (refine Eq.trans ?_ h2; clear h1 h3 h4 h5 h6 h7 h8 h9; simp_all; done)
  any_goals (refine Eq.trans ?_ h3; clear h1 h2 h4 h5 h6 h7 h8 h9; simp_all; done)
  any_goals (refine Eq.trans ?_ h4; clear h1 h2 h3 h5 h6 h7 h8 h9; simp_all; done)
  any_goals (refine Eq.trans ?_ h5; clear h1 h2 h3 h4 h6 h7 h8 h9; simp_all; done)
  any_goals (refine Eq.trans ?_ h6; clear h1 h2 h3 h4 h5 h7 h8 h9; simp_all; done)
  any_goals (refine Eq.trans ?_ h7; clear h1 h2 h3 h4 h5 h6 h8 h9; simp_all; done)
  any_goals (refine Eq.trans ?_ h8; clear h1 h2 h3 h4 h5 h6 h7 h9; simp_all; done)
  any_goals (refine Eq.trans ?_ h8; clear h1 h2 h3 h4 h5 h6 h7 h9; clear h8; dsimp only at *; simp only [cond_false] at *; simp only [*, Bool.false_or]; done)
  all_goals (refine congrArg D.bool ?_; clear h1 h2 h3 h4 h5 h6 h7 h8; simp_all)
end Go.Proofs.YtmfjfclpdmpncaaGreatDoor

/- A variable that was declared may be read as one that was written; the list of the first error, written. Conditions: none. -/
namespace Go.Abs
/-- What a variable holds may be told as one value or cell by cell. -/
theorem Le.recell {C : Cx} {tm : List (Nat × X)} {ob ob' : List AObj} (hl : ob.length = ob'.length) (h : ∀ (i : Nat) (x y : AObj), ob[i]? = some x → ob'[i]? = some y → x = y ∨ ∃ ty a b, x = .var ty a ∧ y = .var ty b ∧ a.cells = b.cells) : Le C ⟨tm, ob⟩ ⟨tm, ob'⟩ := by
  rintro a w ⟨F, σ, h1, h2, h3, hi, h4, h5, hs⟩
  have hget : ∀ (i : Nat) (y : AObj), ob'[i]? = some y → ∃ x, ob[i]? = some x ∧ (x = y ∨ ∃ ty a b, x = .var ty a ∧ y = .var ty b ∧ a.cells = b.cells) := by
    intro i y hy
    have hlt : i < ob.length := by rw [hl]; exact (List.getElem?_eq_some_iff.1 hy).1
    exact ⟨_, List.getElem?_eq_getElem hlt, h i _ y (List.getElem?_eq_getElem hlt) hy⟩
  have hlive : ∀ x y : AObj, (x = y ∨ ∃ ty a b, x = .var ty a ∧ y = .var ty b ∧ a.cells = b.cells) → y.live = true → x.live = true := by
    rintro x y (rfl | ⟨ty, a, b, rfl, rfl, -⟩) hy
    · exact hy
    · rfl
  refine ⟨F, σ, h1, h2, h3, ⟨hi.flt, hi.glob, hi.len.trans hl, fun o x p hx hp => ?_, fun o o' x x' p p' hne hx hlx hx' hlx' hp hp' => ?_, hi.pre⟩, h4, h5, hs⟩
  · obtain ⟨x0, hx0, e⟩ := hget o x hx
    rcases e with rfl | ⟨ty, a, b, rfl, rfl, hc⟩
    · exact hi.obs o x0 p hx0 hp
    · have hob := hi.obs o _ p hx0 hp
      obtain ⟨pb, pc, pn⟩ := p
      obtain ⟨vs, q1, q2, q3, q4, q5⟩ := hob
      exact ⟨vs, q1, by rw [← hc]; exact q2, q3, fun i x v hx => q4 i x v (by rw [hc]; exact hx), q5⟩
  · obtain ⟨x0, hx0, e⟩ := hget o x hx
    obtain ⟨x1, hx1, e'⟩ := hget o' x' hx'
    exact hi.inj o o' x0 x1 p p' hne hx0 (hlive _ _ e hlx) hx1 (hlive _ _ e' hlx') hp hp'
end Go.Abs
namespace Go.Proofs.YtmfjfclpdmpncaaGreatDoor
set_option maxRecDepth 4000
open Go Go.Abs Go.Val Go.RowKit
attribute [local irreducible] go SGo HasBody Ev ExtEv EvO EvS RGo
abbrev oLT (a : Int) : AObj := .var 158 (.w (.d (.int a)))
theorem addT_ev (a e : Int) : EvS E 112 [.ptr 0 0, .d (.int e)] [oLT a] (.tup []) [oLT (adI a e)] := by
  have h := add_evS true a e
  have e1 : adB true a = true := by unfold adB; cases a == 0 <;> rfl
  rw [e1] at h
  exact h
theorem needT_ev (a : Int) (s : ByteArray) : EvS E 113 [.ptr 0 0, .d (.str s)] [oLT a] (.tup []) [oLT (adI a (wrdI s))] := by
  have h := need_evS true a s
  have e1 : neB true a s = true := by unfold neB adB; cases wordF s <;> cases a == 0 <;> rfl
  rw [e1] at h
  exact h
theorem oLi_w (c : AObj) : ∀ (i : Nat) (x y : AObj), [c, oLi false 0][i]? = some x → [c, oLT 0][i]? = some y → x = y ∨ ∃ ty a b, x = .var ty a ∧ y = .var ty b ∧ a.cells = b.cells
  | 0, x, y, hx, hy => by cases hx; cases hy; exact .inl rfl
  | 1, x, y, hx, hy => by cases hx; cases hy; exact .inr ⟨_, _, _, rfl, rfl, rfl⟩
  | i + 2, x, y, hx, hy => by cases hx
end Go.Proofs.YtmfjfclpdmpncaaGreatDoor
