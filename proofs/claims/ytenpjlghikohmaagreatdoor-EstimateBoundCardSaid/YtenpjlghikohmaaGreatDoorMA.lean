/- What the functions of layers 1 and 3 return: In, Gcd, Valid of both texts; The small functions of layer 4, of the program and of the specification: logic, constructors, classes; Which values are valid: the flat kinds, of the program and of the specification; Which flat values are valid, by both texts; Paths and lists: which values are valid, by both texts; Lists within lists: which values are valid, by both texts; Valid, Plain, Number and Truth, by both texts; The library's functions, by the kit's contracts, in the engine's form; and the program's test of a string's characters; The program's t. Conditions: each part's own, as it says. -/
import Derived.Test.YtenpjlghikohmaaGreatDoorGC
import Derived.Test.YtenpjlghikohmaaGreatDoorGS
import Derived.Lib.ItoaLen
import Derived.Lib.AppendIntMem
set_option linter.unusedVariables false
set_option linter.unusedSimpArgs false
namespace Go.Proofs.YtenpjlghikohmaaGreatDoor
set_option maxRecDepth 4000
open Go Go.Abs Go.Val Go.Proofs.Tryz
attribute [local irreducible] go SGo HasBody Ev
theorem in_ev (n : Int) : Ev E 366 [.int n] (.d (.bool (inM n))) := by
 refine ye1 func366 ntmps366 fun _ _ _=>?_
 repeat' (first | refine yz ?_ | (refine yy ?_ ?_ <;> intro _))
 all_goals (simp_all [inM]; try omega)
theorem abs_ev (n : Int) (h : inM n = true) : Ev E 407 [.int n] (.d (.int (n.natAbs : Int))) := by
 have hb := (inM_iff n).1 h
 refine ye1 func407 ntmps407 fun _ _ _=>?_
 repeat' (refine yz ?_)
 all_goals (simp only [cond_true]; congr 3; omega)
theorem tmod_facts {x y : Int} (hx : 0 ≤ x) (hy : 0 < y) : x.tmod y = x % y ∧ 0 ≤ x % y ∧ x % y < y := ⟨Int.tmod_eq_emod_of_nonneg hx, Int.emod_nonneg x (by omega), Int.emod_lt_of_pos x hy⟩
theorem gcd_step {x y : Int} (hx : 0 ≤ x) (hy : 0 ≤ y) : Int.gcd y (x % y) = Int.gcd x y := by
 obtain ⟨a, rfl⟩ := Int.eq_ofNat_of_zero_le hx
 obtain ⟨b, rfl⟩ := Int.eq_ofNat_of_zero_le hy
 have e : ((a : Int) % (b : Int)) = ((a % b : Nat) : Int) := by omega
 rw [e]
 simp only [Int.gcd, Int.natAbs_natCast]
 rw [Nat.gcd_comm b, ← Nat.gcd_rec, Nat.gcd_comm]
structure GS (g : Nat) where
 x : Int
 y : Int
 hx : 0 ≤ x
 hy : 0 ≤ y
 bx : x ≤ 9223372036854775807
 by_ : y ≤ 9223372036854775807
 hg : Int.gcd x y = g
theorem gcd_ev (a b : Int) : Ev E 391 [.int a, .int b] (.d (.int (gcdF a b))) := by
 cases ha : inM a with
 | false =>
  have ia : Ev E 366 [.int a] (.d (.bool false)) := ha ▸ in_ev a
  refine ye2 func391 ntmps391 fun _ _ _=>?_
  repeat' (first | refine yz ?_ | refine yp b366 ia ?_)
  simp [gcdF, ha]
 | true =>
  have ia : Ev E 366 [.int a] (.d (.bool true)) := ha ▸ in_ev a
  cases hb : inM b with
  | false =>
   have ib : Ev E 366 [.int b] (.d (.bool false)) := hb ▸ in_ev b
   refine ye2 func391 ntmps391 fun _ _ _=>?_
   repeat' (first | refine yz ?_ | refine yp b366 ia ?_ | refine yp b366 ib ?_)
   simp [gcdF, ha, hb]
  | true =>
   have ib : Ev E 366 [.int b] (.d (.bool true)) := hb ▸ in_ev b
   have ba := (inM_iff a).1 ha
   have bb := (inM_iff b).1 hb
   refine ye2 func391 ntmps391 fun _ _ _=>?_
   repeat' (first | refine yz ?_ | refine yp b366 ia ?_ | refine yp b366 ib ?_ | refine yp b407 (abs_ev a ha) ?_ | refine yp b407 (abs_ev b hb) ?_)
   refine go_loop_ (α := GS (Int.gcd a b)) (fun p => ⟨[(0, .d (.int p.x)), (1, .d (.int p.y))], []⟩) (fun p => p.y.toNat) ⟨a.natAbs, b.natAbs, by omega, by omega, by omega, by omega, by simp [Int.gcd]⟩ (zle 0) ?_
   rintro ⟨x, y, hx, hy, bx, by_, hg⟩
   dsimp only
   by_cases hlt : y = 0
   ·subst hlt
    repeat' (refine yz ?_)
    simp only [gcdF, ha, hb, Bool.and_self, cond_true]
    rw [← hg, Int.gcd_zero_right]
    congr 3
    omega
   ·have hd : (y != 0) = true := by simpa using hlt
    obtain ⟨e1, e2, e3⟩ := tmod_facts hx (show 0 < y by omega)
    repeat' (refine yz ?_)
    refine go_stop ?_
    refine ⟨⟨y, x % y, hy, e2, by_, by omega, by rw [gcd_step hx hy]; exact hg⟩, by dsimp only; omega, ?_⟩
    dsimp only
    rw [← e1]
    exact (zle 0)
theorem fvalid_ev (n d : Int) : Ev E 367 [.agg [.int n, .int d]] (.d (.bool (fval n d))) := by
 have hg := gcd_ev n d
 cases hn : inM n with
 | false =>
  have i1 : Ev E 366 [.int n] (.d (.bool false)) := hn ▸ in_ev n
  refine ye1 func367 ntmps367 fun _ _ _=>?_
  repeat' (first | refine yz ?_ | refine yp b366 i1 ?_ | (refine yy ?_ ?_ <;> intro _))
  all_goals (refine congrArg D.bool ?_; clear i1 hg; simp_all [fval])
 | true =>
  have i1 : Ev E 366 [.int n] (.d (.bool true)) := hn ▸ in_ev n
  refine ye1 func367 ntmps367 fun _ _ _=>?_
  repeat' (first | refine yz ?_ | refine yp b366 i1 ?_ | refine yp b391 hg ?_ | (refine yy ?_ ?_ <;> intro _))
  all_goals (refine congrArg D.bool ?_; clear i1 hg; simp_all [fval, gcdF]; try omega)
  rw [(inM_iff d).2 (by omega)]
  rfl
theorem known_ev (n : Int) : Ev E 374 [.int n] (.d (.int (kn n))) := by
 refine ye1 func374 ntmps374 fun _ _ _=>?_
 repeat' (first | refine yz ?_ | refine yx ?_ | (refine yy ?_ ?_ <;> intro _) | (refine qV rfl ?_ ?_ <;> intro _) | exact zD | exact zL)
 all_goals (refine congrArg D.int ?_; simp_all [kn]; try (rw [show (n == 0 || n == 2) = false by simp_all]; rfl))
theorem and_ev (a b : Int) : Ev E 313 [.int a, .int b] (.d (.int (min (kn a) (kn b)))) := by
 have h1 := kn_cases a
 have h2 := kn_cases b
 refine ye2 func313 ntmps313 fun _ _ _=>?_
 repeat' (first | refine yz ?_ | refine yp b374 (known_ev a) ?_ | refine yp b374 (known_ev b) ?_ | refine yx ?_ | (refine yy ?_ ?_ <;> intro _) | (refine qV rfl ?_ ?_ <;> intro _) | exact zD | exact zL)
theorem null_ev : Ev E 239 [] (.d (enc vNull)) := by
 refine enter0 func239 ntmps239 rfl rfl fun w0 F0 O => ?_
 repeat' (first | refine yz ?_ | refine yx ?_ | (refine yy ?_ ?_ <;> intro _) | (refine qV rfl ?_ ?_ <;> intro _) | exact zD | exact zL)
theorem truth_ev (b : Bool) : Ev E 312 [.bool b] (.d (.int (tt b))) := by
 cases b
 ·refine ye1 func312 ntmps312 fun _ _ _=>?_
  repeat' (first | refine yz ?_ | refine yx ?_ | (refine yy ?_ ?_ <;> intro _) | (refine qV rfl ?_ ?_ <;> intro _) | exact zD | exact zL)
 ·refine ye1 func312 ntmps312 fun _ _ _=>?_
  repeat' (first | refine yz ?_ | refine yx ?_ | (refine yy ?_ ?_ <;> intro _) | (refine qV rfl ?_ ?_ <;> intro _) | exact zD | exact zL)
def l0 (v : V) : Bool := ((kids v).length : Int) == 0
def bareF (v : V) (n d s l : Bool) : Bool := (n || v.n == 0) && ((d || v.d == 0) && ((s || s0 v.s) && (l || l0 v)))
theorem cOK_at {s : ByteArray} {i : Nat} (h : i < s.size) : ∃ b, s.data.toList[i]? = some b ∧ byteAt s i = (b.toNat : Int) := by
 have hl : i < s.data.toList.length := by simpa using h
 refine ⟨s.data.toList[i], List.getElem?_eq_getElem hl, ?_⟩
 unfold byteAt
 rw [List.getD_eq_getElem?_getD, List.getElem?_eq_getElem hl]
 rfl
def IxOK : Prop := ∀ s : ByteArray, ∃ n : Int, Ev E 368 [.str s, .imm (.func (.func 369) #[] #[])] (.d (.int n)) ∧ decide (n < 0) = s.data.toList.all (fun b => !(decide (b.toNat < 32) || decide (b.toNat > 126)))
theorem kids_nil (v : V) : kids v = [] ↔ v.l = [] := by
 rw [kids_eq]
 simp
theorem flat_ev (hix : IxOK) (k n d : Int) (s : ByteArray) (l : List V) (lists : Int) (h7 : k ≠ 7) (h8 : k ≠ 8) : Ev E 307 [enc (.mk k n d s l), .int lists] (.d (.bool (okFlat (.mk k n d s l)))) := by
 obtain ⟨ix, hi1, hi2⟩ := hix s
 have hst : strOK s = (decide (ix < 0) && decide ((s.size : Int) ≤ 100)) := by rw [hi2, show decide ((s.size : Int) ≤ 100) = decide (s.size ≤ 100) from by simp only [decide_eq_decide]; omega]; rfl
 clear hi2
 have hs0 : s0 s = (s.toList == (⟨#[]⟩ : ByteArray).toList) := rfl
 by_cases h0 : k = 0
 ·subst h0
  refine ye2 func307 ntmps307 fun _ _ _=>?_
  repeat' (first | refine yz ?_ | (refine yy ?_ ?_ <;> intro _) | (refine qV rfl ?_ ?_ <;> intro _))
  all_goals (refine congrArg D.bool ?_; clear hix hi1 hst; simp_all [okFlat, bareF, kids_nil, kids_len, V.k, V.n, V.d, V.s, V.l] <;> first | omega | exact of_decide_eq_true (by assumption) | exact Int.not_le.1 (of_decide_eq_false (by assumption)) | ac_rfl | (intros; omega) | (intros; simp_all; done))
 by_cases h0 : k = 1
 ·subst h0
  refine ye2 func307 ntmps307 fun _ _ _=>?_
  repeat' (first | refine yz ?_ | (refine yy ?_ ?_ <;> intro _) | (refine qV rfl ?_ ?_ <;> intro _))
  all_goals (refine congrArg D.bool ?_; clear hix hi1 hst; simp_all [okFlat, bareF, kids_nil, kids_len, V.k, V.n, V.d, V.s, V.l] <;> first | omega | exact of_decide_eq_true (by assumption) | exact Int.not_le.1 (of_decide_eq_false (by assumption)) | ac_rfl | (intros; omega) | (intros; simp_all; done))
 by_cases h0 : k = 2
 ·subst h0
  refine ye2 func307 ntmps307 fun _ _ _=>?_
  repeat' (first | refine yz ?_ | refine yp b366 (in_ev n) ?_ | (refine yy ?_ ?_ <;> intro _) | (refine qV rfl ?_ ?_ <;> intro _))
  all_goals (refine congrArg D.bool ?_; clear hix hi1 hst; simp_all [okFlat, bareF, kids_nil, kids_len, V.k, V.n, V.d, V.s, V.l] <;> first | omega | exact of_decide_eq_true (by assumption) | exact Int.not_le.1 (of_decide_eq_false (by assumption)) | ac_rfl | (intros; omega) | (intros; simp_all; done))
 by_cases h0 : k = 3
 ·subst h0
  refine ye2 func307 ntmps307 fun _ _ _=>?_
  repeat' (first | refine yz ?_ | refine yp b367 (fvalid_ev n d) ?_ | (refine yy ?_ ?_ <;> intro _) | (refine qV rfl ?_ ?_ <;> intro _))
  all_goals (refine congrArg D.bool ?_; clear hix hi1 hst; simp_all [okFlat, bareF, kids_nil, kids_len, V.k, V.n, V.d, V.s, V.l] <;> first | omega | exact of_decide_eq_true (by assumption) | exact Int.not_le.1 (of_decide_eq_false (by assumption)) | ac_rfl | (intros; omega) | (intros; simp_all; done))
 by_cases h0 : k = 4
 ·subst h0
  cases h100 : decide ((s.size : Int) ≤ 100) with
  | true =>
   rw [h100] at hst
   refine ye2 func307 ntmps307 fun _ _ _=>?_
   repeat' (first | refine yz ?_ | refine yp b368 hi1 ?_ | refine yx ?_ | (refine yy ?_ ?_ <;> intro _) | (refine qV rfl ?_ ?_ <;> intro _))
   all_goals (refine congrArg D.bool ?_; clear hix hi1; simp_all [okFlat, bareF, kids_nil, kids_len, V.k, V.n, V.d, V.s, V.l] <;> first | omega | exact of_decide_eq_true (by assumption) | exact Int.not_le.1 (of_decide_eq_false (by assumption)) | ac_rfl | (intros; omega) | (intros; simp_all; done))
  | false =>
   rw [h100] at hst
   refine ye2 func307 ntmps307 fun _ _ _=>?_
   repeat' (first | refine yz ?_ | refine yx ?_ | (refine yy ?_ ?_ <;> intro _) | (refine qV rfl ?_ ?_ <;> intro _))
   all_goals (refine congrArg D.bool ?_; clear hix hi1; simp_all [okFlat, bareF, kids_nil, kids_len, V.k, V.n, V.d, V.s, V.l] <;> first | omega | exact of_decide_eq_true (by assumption) | exact Int.not_le.1 (of_decide_eq_false (by assumption)) | ac_rfl | (intros; omega) | (intros; simp_all; done))
 by_cases h0 : k = 5
 ·subst h0
  refine ye2 func307 ntmps307 fun _ _ _=>?_
  repeat' (first | refine yz ?_ | (refine yy ?_ ?_ <;> intro _) | (refine qV rfl ?_ ?_ <;> intro _))
  all_goals (refine congrArg D.bool ?_; clear hix hi1 hst; simp_all [okFlat, bareF, kids_nil, kids_len, V.k, V.n, V.d, V.s, V.l] <;> first | omega | exact of_decide_eq_true (by assumption) | exact Int.not_le.1 (of_decide_eq_false (by assumption)) | ac_rfl | (intros; omega) | (intros; simp_all; done))
 by_cases h0 : k = 6
 ·subst h0
  refine ye2 func307 ntmps307 fun _ _ _=>?_
  repeat' (first | refine yz ?_ | (refine yy ?_ ?_ <;> intro _) | (refine qV rfl ?_ ?_ <;> intro _))
  all_goals (refine congrArg D.bool ?_; clear hix hi1 hst; simp_all [okFlat, bareF, kids_nil, kids_len, V.k, V.n, V.d, V.s, V.l] <;> first | omega | exact of_decide_eq_true (by assumption) | exact Int.not_le.1 (of_decide_eq_false (by assumption)) | ac_rfl | (intros; omega) | (intros; simp_all; done))
 have e0 : (k == 0) = false := by simpa
 have e1 : (k == 1) = false := by simpa
 have e2 : (k == 2) = false := by simpa
 have e3 : (k == 3) = false := by simpa
 have e4 : (k == 4) = false := by simpa
 have e5 : (k == 5) = false := by simpa
 have e6 : (k == 6) = false := by simpa
 have e7 : (k == 7) = false := by simpa
 have e8 : (k == 8) = false := by simpa
 have f3 : (k != 3) = true := by simpa
 have f4 : (k != 4) = true := by simpa
 have f7 : (k != 7) = true := by simpa
 have f8 : (k != 8) = true := by simpa
 have key : okFlat (.mk k n d s l) = false := by simp only [okFlat, V.k, e0, e1, e2, e3, e4, e5, e6, Bool.false_and, Bool.or_false]
 refine ye2 func307 ntmps307 fun _ _ _=>?_
 repeat' (first | refine yz ?_ | refine yx ?_ | (refine yy ?_ ?_ <;> intro _) | (refine qV rfl ?_ ?_ <;> intro _))
 all_goals (rw [key])
theorem drop_at {α : Type} {l : List α} {i : Nat} {x : α} (h : l[i]? = some x) : l.drop i = x :: l.drop (i + 1) := by
 have hi := (List.getElem?_eq_some_iff.1 h).1
 rw [List.drop_eq_getElem_cons hi]
 rw [List.getElem?_eq_getElem hi] at h
 cases h
 rfl
structure SP (l : List V) where
 i : Nat
 hi : i ≤ l.length
 ok : okSteps 0 l = okSteps i (l.drop i)
theorem kd_cases (i : Nat) : (bif i % 2 == 0 then (5 : Int) else 6) = 5 ∧ i % 2 = 0 ∨ (bif i % 2 == 0 then (5 : Int) else 6) = 6 ∧ i % 2 = 1 := by
 rcases Nat.mod_two_eq_zero_or_one i with h | h <;> simp [h]
theorem path_ev (hix : IxOK) (l : List V) : Ev E 370 [.sl (encL l)] (.d (.bool (okPath l))) := Ev.fit fun hfit => by
  obtain ⟨hmax, -⟩ := fit_encL (hfit (.sl (encL l)) (by simp))
  have hlen : (encL l).length = l.length := encL_len l
  have hmod : ((l.length : Int).tmod 2 == 0) = (l.length % 2 == 0) := by
    rw [Int.tmod_eq_emod_of_nonneg (by omega)]
    cases h : l.length % 2 == 0 with
    | true => simp at h ⊢; omega
    | false => simp at h ⊢; omega
  cases h2 : l.length % 2 == 0 with
  | true =>
    have key : okPath l = false := by unfold okPath; have : (l.length % 2 == 1) = false := by simp at h2 ⊢; omega
                                      rw [this]; rfl
    rw [h2] at hmod
    rw [← hlen] at hmod
    refine ye1 func370 ntmps370 fun _ _ _=>?_
    repeat' (first | refine yz ?_ | refine yx ?_)
    rw [key]
  | false =>
    rw [h2] at hmod
    rw [← hlen] at hmod
    have h21 : (l.length % 2 == 1) = true := by simp at h2 ⊢; omega
    by_cases h25 : l.length ≤ 25
    · have hd : decide (((encL l).length : Int) > 25) = false := by rw [hlen]; simp; omega
      have hokp : okPath l = okSteps 0 l := by unfold okPath; rw [h21]; simp [h25]
      rw [hokp]
      refine ye1 func370 ntmps370 fun _ _ _=>?_
      repeat' (first | refine yz ?_ | refine yx ?_)
      refine go_loop_ (α := SP l) (fun p => ⟨[(15, .d (.sl (encL l))), (16, .d (.int (encL l).length)), (17, .d (.int p.i))], []⟩) (fun p => l.length - p.i) ⟨0, by omega, rfl⟩ (zle 0) ?_
      rintro ⟨i, hi, ok⟩
      dsimp only
      rcases Nat.lt_or_ge i l.length with hlt | hge
      · have hd : decide ((i : Int) < ((encL l).length : Int)) = true := by rw [hlen]; simpa using hlt
        have hx0 := List.getElem?_eq_getElem hlt
        obtain ⟨k, n, d, s, r, hv⟩ : ∃ k n d s r, l[i] = V.mk k n d s r := ⟨_, _, _, _, _, (V.eta _).symm⟩
        rw [hv] at hx0
        have hx : (encL l)[(i : Int).toNat]? = some (enc (V.mk k n d s r)) := encL_get (by rw [Int.toNat_natCast]; exact hx0)
        have hm : (([.int 5, .int 6] : List D))[((i : Int).tmod 2).toNat]? = some (.int (bif i % 2 == 0 then 5 else 6)) := by
          rw [Int.tmod_eq_emod_of_nonneg (by omega)]
          rcases Nat.mod_two_eq_zero_or_one i with h | h
          · rw [show ((i : Int) % 2).toNat = 0 from by omega, h]; rfl
          · rw [show ((i : Int) % 2).toNat = 1 from by omega, h]; rfl
        have hmn : 0 ≤ (i : Int).tmod 2 := Int.tmod_nonneg _ (by omega)
        have hmx : (i : Int).tmod 2 ≤ 2 := by have := Int.tmod_lt_of_pos (i : Int) (show (0 : Int) < 2 by omega); omega
        have hkd := kd_cases i
        have hst : okStep i (V.mk k n d s r) = (k == (bif i % 2 == 0 then 5 else 6) && okFlat (V.mk k n d s r)) := rfl
        generalize (bif i % 2 == 0 then (5 : Int) else 6) = kd at *
        rw [ok, drop_at hx0]
        simp only [okSteps, hst]
        cases hkk : k != kd with
        | true =>
          have : (k == kd) = false := by simpa using hkk
          rw [this]
          repeat' (first | refine yz ?_ | refine yi (enc _) hx ?_ | refine yi (.int kd) hm ?_ | refine yx ?_ | exact zD)
        | false =>
          have hk : k = kd := by simpa using hkk
          have hf := flat_ev hix k n d s r 0 (by omega) (by omega)
          cases hfl : okFlat (V.mk k n d s r) with
          | true =>
            rw [hfl] at hf
            repeat' (first | refine yz ?_ | refine yi (enc _) hx ?_ | refine yi (.int kd) hm ?_ | refine yp b307 hf ?_ | refine yx ?_)
            refine go_stop ?_
            refine ⟨⟨i + 1, by omega, ?_⟩, by dsimp only; omega, (zle 0)⟩
            rw [ok, drop_at hx0]
            simp only [okSteps]
            rw [hst, hfl, hk]
            simp
          | false =>
            rw [hfl] at hf
            repeat' (first | refine yz ?_ | refine yi (enc _) hx ?_ | refine yi (.int kd) hm ?_ | refine yp b307 hf ?_ | refine yx ?_)
            simp
      · have hd : decide ((i : Int) < ((encL l).length : Int)) = false := by rw [hlen]; simp; omega
        have : l.drop i = [] := List.drop_eq_nil_of_le hge
        rw [ok, this]
        repeat' (first | refine yz ?_ | exact zD)
    · have hd : decide (((encL l).length : Int) > 25) = true := by rw [hlen]; simp; omega
      have key : okPath l = false := by unfold okPath; simp [h25]
      rw [key]
      refine ye1 func370 ntmps370 fun _ _ _=>?_
      repeat' (first | refine yz ?_ | refine yx ?_ | exact zD)
theorem okFlat_78 (k n d : Int) (s : ByteArray) (l : List V) (h : k = 7 ∨ k = 8) : okFlat (.mk k n d s l) = false := by
 rcases h with h | h <;> subst h <;> simp [okFlat, V.k]
theorem okN_flat (m : Nat) (k n d : Int) (s : ByteArray) (l : List V) (h7 : k ≠ 7) (h8 : k ≠ 8) : okN m (.mk k n d s l) = okFlat (.mk k n d s l) := by
 have e7 : (k == 7) = false := by simpa
 have e8 : (k == 8) = false := by simpa
 cases m <;> simp [okN, V.k, e7, e8]
theorem okN_7 (m : Nat) (n d : Int) (s : ByteArray) (l : List V) : okN m (.mk 7 n d s l) = ((d == 0 && s0 s) && (n == 0 && okPath l)) := by
 cases m <;> simp [okN, V.k, V.n, V.d, V.s, V.l, okFlat_78 7 n d s l (.inl rfl)]
theorem okN_80 (n d : Int) (s : ByteArray) (l : List V) : okN 0 (.mk 8 n d s l) = false := by
 simp [okN, V.k, okFlat_78 8 n d s l (.inr rfl)]
theorem okN_8 (m : Nat) (n d : Int) (s : ByteArray) (l : List V) : okN (m + 1) (.mk 8 n d s l) = ((d == 0 && s0 s) && ((n == 0 && decide (l.length ≤ 64)) && l.all (okN m))) := by
 simp [okN, V.k, V.n, V.d, V.s, V.l, okFlat_78 8 n d s l (.inr rfl), Bool.and_assoc]
 try rfl
structure SA (p : V → Bool) (l : List V) where
 i : Nat
 hi : i ≤ l.length
 ok : l.all p = (l.drop i).all p
theorem validN_ev (hix : IxOK) (m : Nat) : m ≤ 8 → ∀ v : V, Ev E 307 [enc v, .int (8 - (m : Int))] (.d (.bool (okN m v))) := by
 induction m with
 | zero =>
  rintro - ⟨k, n, d, s, l⟩
  by_cases h7 : k = 7
  ·subst h7
   rw [okN_7]
   refine ye2 func307 ntmps307 fun _ _ _=>?_
   repeat' (first | refine yz ?_ | refine yp b370 (path_ev hix l) ?_ | (refine yy ?_ ?_ <;> intro _))
   all_goals (refine congrArg D.bool ?_; clear hix; simp_all [s0, V.k, V.n, V.d, V.s, V.l] <;> first | ac_rfl | (intros; simp_all; done))
  by_cases h8 : k = 8
  ·subst h8
   rw [okN_80]
   refine ye2 func307 ntmps307 fun _ _ _=>?_
   repeat' (first | refine yz ?_ | (refine yy ?_ ?_ <;> intro _) | exact zD)
  rw [okN_flat _ _ _ _ _ _ h7 h8]
  exact flat_ev hix k n d s l _ h7 h8
 | succ m ih =>
  rintro hm ⟨k, n, d, s, l⟩
  have ih := ih (by omega)
  by_cases h7 : k = 7
  ·subst h7
   rw [okN_7]
   refine ye2 func307 ntmps307 fun _ _ _=>?_
   repeat' (first | refine yz ?_ | refine yp b370 (path_ev hix l) ?_ | (refine yy ?_ ?_ <;> intro _))
   all_goals (refine congrArg D.bool ?_; clear hix ih; simp_all [s0, V.k, V.n, V.d, V.s, V.l] <;> first | ac_rfl | (intros; simp_all; done))
  by_cases h8 : k = 8
  ·subst h8
   rw [okN_8]
   refine Ev.fit fun hfit => ?_
   obtain ⟨-, -, -, -, hmax, -⟩ := fit_enc (hfit (enc (.mk 8 n d s l)) (by simp))
   simp only [V.l] at hmax
   have hk : kids (.mk 8 n d s l) = encL l := by simp [kids]
   have hlen : (kids (.mk 8 n d s l)).length = l.length := by rw [kids_len]; rfl
   have hn1 : 8 - ((m + 1 : Nat) : Int) + 1 = 8 - (m : Int) := by omega
   have hn8 : decide (8 - ((m + 1 : Nat) : Int) ≥ 8) = false := by simp; omega
   cases hd0 : d == 0 with
   | false =>
    have hdn : (d != 0) = true := by simpa using hd0
    rw [Bool.false_and, Bool.false_and]
    refine ye2 func307 ntmps307 fun _ _ _=>?_
    repeat' (first | refine yz ?_ | refine yx ?_ | exact zD)
   | true =>
   have hdn : (d != 0) = false := by simpa using hd0
   cases hs0 : s0 s with
   | false =>
    have hsn : (!(s.toList == (⟨#[]⟩ : ByteArray).toList)) = true := by rw [show (s.toList == (⟨#[]⟩ : ByteArray).toList) = false from hs0]; rfl
    rw [Bool.and_false, Bool.false_and]
    refine ye2 func307 ntmps307 fun _ _ _=>?_
    repeat' (first | refine yz ?_ | refine yx ?_ | exact zD)
   | true =>
   have hsn : (!(s.toList == (⟨#[]⟩ : ByteArray).toList)) = false := by rw [show (s.toList == (⟨#[]⟩ : ByteArray).toList) = true from hs0]; rfl
   cases hnn : n == 0 with
   | false =>
    have hnn' : (n != 0) = true := by simpa using hnn
    simp only [Bool.false_and, Bool.and_false]
    refine ye2 func307 ntmps307 fun _ _ _=>?_
    repeat' (first | refine yz ?_ | refine yx ?_ | exact zD)
   | true =>
   have hnn' : (n != 0) = false := by simpa using hnn
   by_cases h64 : l.length ≤ 64
   ·have hd : decide (((kids (.mk 8 n d s l)).length : Int) > 64) = false := by rw [hlen]; simp; omega
    rw [show decide (l.length ≤ 64) = true by simpa using h64]
    simp only [Bool.true_and]
    refine ye2 func307 ntmps307 fun _ _ _=>?_
    repeat' (first | refine yz ?_ | refine yx ?_)
    refine go_loop_ (α := SA (okN m) l) (fun p => ⟨[(1, .d (.int (8 - ((m + 1 : Nat) : Int)))), (120, .d (.sl (kids (.mk 8 n d s l)))), (121, .d (.int (kids (.mk 8 n d s l)).length)), (122, .d (.int p.i))], []⟩) (fun p => l.length - p.i) ⟨0, by omega, rfl⟩ (zle 0) ?_
    rintro ⟨i, hi, ok⟩
    dsimp only
    rcases Nat.lt_or_ge i l.length with hlt | hge
    ·have hd : decide ((i : Int) < ((kids (.mk 8 n d s l)).length : Int)) = true := by rw [hlen]; simpa using hlt
     have hx0 := List.getElem?_eq_getElem hlt
     generalize l[i] = v at hx0
     have hx : (kids (.mk 8 n d s l))[(i : Int).toNat]? = some (enc v) := by rw [hk]; exact encL_get (by rw [Int.toNat_natCast]; exact hx0)
     have hv := ih v
     rw [← hn1] at hv
     rw [ok, drop_at hx0, List.all_cons]
     cases hvv : okN m v with
     | true =>
      rw [hvv] at hv
      repeat' (first | refine yz ?_ | refine yi (enc _) hx ?_ | refine yp b307 hv ?_)
      refine go_stop ?_
      refine ⟨⟨i + 1, by omega, by rw [ok, drop_at hx0, List.all_cons, hvv, Bool.true_and]⟩, by dsimp only; omega, (zle 0)⟩
     | false =>
      rw [hvv] at hv
      repeat' (first | refine yz ?_ | refine yi (enc _) hx ?_ | refine yp b307 hv ?_ | exact zD)
    ·have hd : decide ((i : Int) < ((kids (.mk 8 n d s l)).length : Int)) = false := by rw [hlen]; simp; omega
     have : l.drop i = [] := List.drop_eq_nil_of_le hge
     rw [ok, this]
     repeat' (first | refine yz ?_ | exact zD)
   ·have hd : decide (((kids (.mk 8 n d s l)).length : Int) > 64) = true := by rw [hlen]; simp; omega
    rw [show decide (l.length ≤ 64) = false by simpa using h64]
    simp only [Bool.false_and, Bool.and_false]
    refine ye2 func307 ntmps307 fun _ _ _=>?_
    repeat' (first | refine yz ?_ | refine yx ?_ | exact zD)
  rw [okN_flat _ _ _ _ _ _ h7 h8]
  exact flat_ev hix k n d s l _ h7 h8
theorem Valid_ev (hix : IxOK) (v : V) : Ev E 231 [enc v] (.d (.bool (okV v))) := by
 have h := validN_ev hix 8 (by omega) v
 refine ye1 func231 ntmps231 fun _ _ _=>?_
 repeat' (first | refine yz ?_ | refine yp b307 h ?_ | refine yx ?_ | (refine yy ?_ ?_ <;> intro _) | exact zD | exact zL)
theorem Plain_ev (hix : IxOK) (v : V) : Ev E 147 [enc v] (.d (.bool (plainF v))) := by
 have h := Valid_ev hix v
 refine ye1 func147 ntmps147 fun _ _ _=>?_
 repeat' (first | refine yz ?_ | refine yp b231 h ?_ | refine yx ?_ | (refine yy ?_ ?_ <;> intro _) | (refine qV rfl ?_ ?_ <;> intro _) | exact zD | exact zL)
 all_goals (refine congrArg D.bool ?_; clear h hix; simp_all [plainF])
theorem Number_ev (hix : IxOK) (v : V) : Ev E 309 [enc v] (.tup [.agg [.int (numN v), .int (numD v)], .bool (isNum v)]) := by
 have h := Valid_ev hix v
 cases h2 : v.k == 2 with
 | true =>
  cases hv : okV v with
  | true =>
   rw [hv] at h
   refine ye1 func309 ntmps309 fun _ _ _=>?_
   repeat' (first | refine yz ?_ | refine yp b231 h ?_ | refine yx ?_ | (refine yy ?_ ?_ <;> intro _) | exact zD | exact zL)
   simp [numN, numD, isNum, h2, hv, setAll, D.cells]
  | false =>
   rw [hv] at h
   have h3 : (v.k == 3) = false := by simp at h2 ⊢; omega
   refine ye1 func309 ntmps309 fun _ _ _=>?_
   repeat' (first | refine yz ?_ | refine yp b231 h ?_ | refine yx ?_ | (refine yy ?_ ?_ <;> intro _) | exact zD | exact zL)
   simp [numN, numD, isNum, h2, hv]
 | false =>
  cases h3 : v.k == 3 with
  | true =>
   cases hv : okV v with
   | true =>
    rw [hv] at h
    refine ye1 func309 ntmps309 fun _ _ _=>?_
    repeat' (first | refine yz ?_ | refine yp b231 h ?_ | refine yx ?_ | (refine yy ?_ ?_ <;> intro _) | exact zD | exact zL)
    simp [numN, numD, isNum, h2, h3, hv, setAll, D.cells]
   | false =>
    rw [hv] at h
    refine ye1 func309 ntmps309 fun _ _ _=>?_
    repeat' (first | refine yz ?_ | refine yp b231 h ?_ | refine yx ?_ | (refine yy ?_ ?_ <;> intro _) | exact zD | exact zL)
    simp [numN, numD, isNum, h2, hv]
  | false =>
   refine ye1 func309 ntmps309 fun _ _ _=>?_
   repeat' (first | refine yz ?_ | refine yp b231 h ?_ | refine yx ?_ | (refine yy ?_ ?_ <;> intro _) | exact zD | exact zL)
   simp [numN, numD, isNum, h2, h3]
end Go.Proofs.YtenpjlghikohmaaGreatDoor
namespace Go.Proofs.YtenpjlghikohmaaGreatDoor
set_option maxRecDepth 4000
open Go Go.Abs Go.Val Go.RowKit Go.Proofs.Tryz
theorem of_lib {f : FuncId} {ds : List D} {r : Value} (hok : Go.Abs.okV r = true) (h : ∀ (w : World) (F : Nat → Prop) (vs : List Value), E.GI w F → vs.length = ds.length → (∀ (i : Nat) d v, ds[i]? = some d → vs[i]? = some v → Rd w F d v) →
  Calls E.P f vs.toArray w fun e w' => e = .returned r ∧ Below w.heap.size w w') : Ev E f ds (.d (.imm r)) := by
 intro w F vs hF hG hl hr
 refine (h w F vs hG hl hr).mono ?_
 rintro e w' ⟨rfl, hb⟩
 exact ⟨r, F, rfl, Ext.of_below hb hF, .imm r hok⟩
theorem of_lib1 {f : FuncId} {a r : Value} (hok : Go.Abs.okV r = true) (h : ∀ (w : World) (F : Nat → Prop), E.GI w F → Go.Abs.okV a = true → Calls E.P f #[a] w fun e w' => e = .returned r ∧ Below w.heap.size w w') : Ev E f [.imm a] (.d (.imm r)) := by
 refine of_lib hok fun w F vs hG hl hr => ?_
 match vs, hl with
 | [v], _ =>
  obtain ⟨rfl, hk⟩ := Rd.imm_inv (hr 0 _ v rfl rfl)
  exact h w F hG hk
theorem of_lib2 {f : FuncId} {a b r : Value} (hok : Go.Abs.okV r = true) (h : ∀ (w : World) (F : Nat → Prop), E.GI w F → Go.Abs.okV a = true → Go.Abs.okV b = true → Calls E.P f #[a, b] w fun e w' => e = .returned r ∧ Below w.heap.size w w') : Ev E f [.imm a, .imm b] (.d (.imm r)) := by
 refine of_lib hok fun w F vs hG hl hr => ?_
 match vs, hl with
 | [v, u], _ =>
  obtain ⟨rfl, hk⟩ := Rd.imm_inv (hr 0 _ v rfl rfl)
  obtain ⟨rfl, hk'⟩ := Rd.imm_inv (hr 1 _ u rfl rfl)
  exact h w F hG hk hk'
theorem compare_ev (x y : Int) : Ev E 52 [.int x, .int y] (.d (.int (Lib.compareInt x y))) := by
 refine of_lib2 (inR_ok (k := .i64) (by unfold Lib.compareInt; simp only [inR]; split <;> (try split) <;> omega)) fun w F _ _ _ => ?_
 refine (Tryz.cmp_Compare_int x y w).mono ?_
 rintro e w' ⟨rfl, rfl⟩
 exact ⟨rfl, Below.refl _ _⟩
open Go.Shelf
def badR (r : Nat) : Bool := decide (r < 32) || decide (r > 126)
theorem decode_at (s : ByteArray) (i : Nat) (b : UInt8) (hb : s.get! i = b) : (b.toNat < 128 → Utf8.decode s i = (b.toNat, 1)) ∧ (128 ≤ b.toNat → 128 ≤ (Utf8.decode s i).1) := by
 have h0 : (s.get! (i + 0)).toNat = b.toNat := by rw [Nat.add_zero, hb]
 constructor
 ·intro h
  unfold Utf8.decode
  simp only [h0]
  rw [if_pos h]
 ·intro h
  unfold Utf8.decode
  simp only [h0, Utf8.runeError]
  rw [if_neg (by omega)]
  split
  ·split <;> simp only [] <;> omega
  ·split
   ·split
    ·rename_i h1 h2; simp only [Bool.and_eq_true, decide_eq_true_eq] at h2; simp only []; omega
    ·simp only []; omega
   ·split
    ·split
     ·rename_i h1 h2; simp only [Bool.and_eq_true, decide_eq_true_eq] at h2; simp only []; omega
     ·simp only []; omega
    ·simp only []; omega
theorem get_at {s : ByteArray} {i : Nat} {b : UInt8} (h : s.data.toList[i]? = some b) : s.get! i = b := by
 have hl : i < s.data.size := by simpa using (List.getElem?_eq_some_iff.1 h).1
 have : s.data.toList[i]? = some s.data[i] := by simp [hl]
 rw [this] at h
 cases h
 cases s
 simp only [ByteArray.get!]
 simp [hl]
theorem idx_neg (s : ByteArray) : ∀ (f pos : Nat), s.size ≤ pos + f → (decide (Lib.idxFuncFrom badR true s f pos < 0)) = (s.data.toList.drop pos).all fun b => !(decide (b.toNat < 32) || decide (b.toNat > 126))
 | 0, pos, h => by
  have hlen : s.data.toList.length = s.size := by simp
  have : s.data.toList.drop pos = [] := List.drop_eq_nil_of_le (by omega)
  rw [this]
  simp [Lib.idxFuncFrom]
 | f + 1, pos, h => by
  have hlen : s.data.toList.length = s.size := by simp
  unfold Lib.idxFuncFrom
  by_cases hp : pos < s.size
  ·rw [if_pos hp]
   have hx := List.getElem?_eq_getElem (show pos < s.data.toList.length by omega)
   generalize s.data.toList[pos] = b at hx
   rw [drop_at hx, List.all_cons]
   obtain ⟨d1, d2⟩ := decode_at s pos b (get_at hx)
   by_cases hb : b.toNat < 128
   ·rw [d1 hb]
    simp only []
    cases hbad : badR b.toNat with
    | true =>
     rw [if_pos rfl]
     have : (!(decide (b.toNat < 32) || decide (b.toNat > 126))) = false := by unfold badR at hbad; rw [hbad]; rfl
     rw [this, Bool.false_and]
     simp
    | false =>
     rw [if_neg (by simp), idx_neg s f (pos + 1) (by omega)]
     have : (!(decide (b.toNat < 32) || decide (b.toNat > 126))) = true := by unfold badR at hbad; rw [hbad]; rfl
     rw [this, Bool.true_and]
   ·have h128 := d2 (by omega)
    have hbad : badR (Utf8.decode s pos).1 = true := by unfold badR; simp; omega
    rw [hbad, if_pos rfl]
    have : (!(decide (b.toNat < 32) || decide (b.toNat > 126))) = false := by simp; omega
    rw [this, Bool.false_and]
    simp
  ·rw [if_neg hp]
   have : s.data.toList.drop pos = [] := List.drop_eq_nil_of_le (by omega)
   rw [this]
   simp
theorem pred_gives (w : World) : PredAt Tryz.prog 369 #[] encR badR w := fun W r _ => by
 unfold FnGives
 by_cases h1 : r < 32 <;> by_cases h2 : r > 126
 all_goals
  have z1 : (r : Int) < 32 ↔ r < 32 := by omega
  have z2 : (126 : Int) < (r : Int) ↔ r > 126 := by omega
  go_enter func369, ntmps369
  go_wp2
  all_goals first | (exfalso; omega) | (go_ret; exact ⟨by simp [badR, h1, h2], 0, rfl⟩)
theorem ixOK : IxOK := by
 intro s
 refine ⟨Lib.idxFunc badR true s, ?_, ?_⟩
 ·refine Ev.fit fun hfit => ?_
  have hs := (hfit (.str s) (by simp)).str
  refine of_lib2 (inR_ok (k := .i64) ?_) fun w F _ _ _ => ?_
  ·unfold Lib.idxFunc
   rcases Lib.idxFuncFrom_range badR true s s.size 0 with h | h <;> simp only [inR] <;> omega
  ·refine (Tryz.strings_IndexFunc 369 #[] Tryz.call369 badR s w (pred_gives w)).mono ?_
   rintro e w' ⟨rfl, hb⟩
   exact ⟨rfl, hb⟩
 ·unfold Lib.idxFunc
  rw [idx_neg s s.size 0 (by omega), List.drop_zero]
end Go.Proofs.YtenpjlghikohmaaGreatDoor
