/- What the specification's test of smallness comes to. Conditions: the budget is between 0 and 2^40. -/
import Derived.Test.YtpjnngfjbcjikaaDoorM11
namespace Go.Proofs.YtpjnngfjbcjikaaDoor
open Go Go.Abs Go.Val
attribute [local irreducible] go SGo HasBody Ev

def lightL : List (List V) → Int → Int
  | [], most => most
  | r :: q, most => bif decide (most ≥ 0) then lightL q (weighL (weighF 12) r (most - 1)) else most
def lightF (l : List (List V)) (most : Int) : Bool := decide (lightL l most ≥ 0)
theorem encR_get {l : List (List V)} {i : Nat} {r : List V} (h : l[i]? = some r) : (Val.encR l)[i]? = some (.sl (encL r)) := by
  unfold Val.encR
  rw [List.getElem?_map, h]
  rfl
theorem encR_len (l : List (List V)) : (Val.encR l).length = l.length := by simp [Val.encR]
structure SL (l : List (List V)) (most0 : Int) where
  i : Nat
  most : Int
  hi : i ≤ l.length
  hl : -300000000000000000 ≤ most
  hu : most ≤ 1099511627776
  ok : lightL l most0 = lightL (l.drop i) most
theorem light_ev (l : List (List V)) (most : Int) (h0 : 0 ≤ most) (hu0 : most ≤ 1099511627776) : Ev E 12 [.sl (Val.encR l), .int most] (.d (.bool (lightF l most))) := by
  refine Ev.fit fun hfit => ?_
  have hf := (hfit (.sl (Val.encR l)) (by simp)).sls
  have hlen : (Val.encR l).length = l.length := encR_len l
  have hrow : ∀ r ∈ l, Fit (.sl (encL r)) := fun r hr => hf.2 _ (by unfold Val.encR; exact List.mem_map_of_mem hr)
  generalize hres : lightF l most = res
  unfold lightF at hres
  refine enter2 Tryd.func12 Tryd.ntmps12 rfl rfl fun w0 F0 => ?_
  repeat' (first | (refine qS rfl ?_ ?_; (first | exact True.intro | rfl | assumption | omega | (simp only [inR]; omega) | ((show _ ≤ (9223372036854775807 : Nat)); (try simp only [ByteArray.size_append]); omega) | exact tmod_ok (by omega) (by omega) | exact tdiv_ok (by omega) (by omega) | exact ⟨rfl, by decide, by decide⟩)) | refine qA ?_ | refine qB rfl ?_ | refine qC (by kernel_rfl) ?_ | refine qD ?_ | refine qE ?_ | refine qF ?_ | refine qG ?_ | refine qH rfl ?_ | (refine qT rfl ?_ ?_; (first | rfl | assumption)) | (refine qU rfl ?_ ?_; (first | rfl | assumption)) | refine qL rfl rfl ?_ | refine qM rfl rfl rfl ?_ | refine qO rfl rfl rfl ?_ | refine qX (b' := true) rfl rfl rfl rfl (by assumption) ?_ | refine qX (b' := false) rfl rfl rfl rfl (by assumption) ?_ | (refine qY rfl rfl rfl rfl ?_ ?_ <;> intro _) | exact (rfl : (_ : D) = _) | exact (rfl : (_ : List D) = _))
  refine go_loop_ (α := SL l most) (fun p => ⟨[(0, .d (.sl (Val.encR l))), (1, .d (.int p.most)), (5, .d (.int p.i))], []⟩) (fun p => l.length - p.i) ⟨0, most, by omega, by omega, by omega, rfl⟩ ((Le.of' 0 rfl (by repeat (first | exact trivial | refine ⟨⟨rfl, rfl⟩, ?_⟩)) (by repeat (first | exact trivial | refine ⟨rfl, ?_⟩)))) ?_
  rintro ⟨i, mo, hi, hl, hu, ok⟩
  dsimp only
  rcases Nat.lt_or_ge i l.length with hlt | hge
  · have hd1 : decide ((i : Int) < ((Val.encR l).length : Int)) = true := by rw [hlen]; simpa using hlt
    have hx0 := List.getElem?_eq_getElem hlt
    generalize l[i] = r at hx0
    have hx : (Val.encR l)[(i : Int).toNat]? = some (.sl (encL r)) := encR_get (by rw [Int.toNat_natCast]; exact hx0)
    obtain ⟨hrl, hrk⟩ := fit_encL (hrow r (List.mem_of_getElem? hx0))
    have hlr : (encL r).length = r.length := encL_len r
    cases hge0 : decide (mo ≥ 0) with
    | false =>
      repeat' (first | (refine qS rfl ?_ ?_; (first | exact True.intro | rfl | assumption | omega | (simp only [inR]; omega) | ((show _ ≤ (9223372036854775807 : Nat)); (try simp only [ByteArray.size_append]); omega) | exact tmod_ok (by omega) (by omega) | exact tdiv_ok (by omega) (by omega) | exact ⟨rfl, by decide, by decide⟩)) | refine qA ?_ | refine qB rfl ?_ | refine qC (by kernel_rfl) ?_ | refine qD ?_ | refine qE ?_ | refine qF ?_ | refine qG ?_ | refine qH rfl ?_ | (refine qT rfl ?_ ?_; (first | rfl | assumption)) | (refine qU rfl ?_ ?_; (first | rfl | assumption)) | refine qL rfl rfl ?_ | refine qM rfl rfl rfl ?_ | refine qO rfl rfl rfl ?_ | refine qX (b' := true) rfl rfl rfl rfl (by assumption) ?_ | refine qX (b' := false) rfl rfl rfl rfl (by assumption) ?_ | (refine qY rfl rfl rfl rfl ?_ ?_ <;> intro _) | exact (rfl : (_ : D) = _) | exact (rfl : (_ : List D) = _))
      all_goals (refine congrArg D.bool ?_; rw [← hres, ok, drop_at hx0]; simp only [lightL, hge0, cond_false])
    | true =>
      have hmo : 0 ≤ mo := of_decide_eq_true hge0
      repeat' (first | (refine qS rfl ?_ ?_; (first | exact True.intro | rfl | assumption | omega | (simp only [inR]; omega) | ((show _ ≤ (9223372036854775807 : Nat)); (try simp only [ByteArray.size_append]); omega) | exact tmod_ok (by omega) (by omega) | exact tdiv_ok (by omega) (by omega) | exact ⟨rfl, by decide, by decide⟩)) | refine qA ?_ | refine qB rfl ?_ | refine qC (by kernel_rfl) ?_ | refine qD ?_ | refine qE ?_ | refine qF ?_ | refine qG ?_ | refine qH rfl ?_ | refine qI (.sl (encL r)) rfl (guardX_ok rfl) rfl rfl rfl rfl rfl rfl (by first | omega | decide) hx ?_ | (refine qT rfl ?_ ?_; (first | rfl | assumption)) | (refine qU rfl ?_ ?_; (first | rfl | assumption)) | refine qL rfl rfl ?_ | refine qM rfl rfl rfl ?_ | refine qO rfl rfl rfl ?_ | refine qX (b' := true) rfl rfl rfl rfl (by assumption) ?_ | refine qX (b' := false) rfl rfl rfl rfl (by assumption) ?_ | (refine qY rfl rfl rfl rfl ?_ ?_ <;> intro _) | exact (rfl : (_ : D) = _) | exact (rfl : (_ : List D) = _))
      refine go_loop_ (α := SW (weighF 12) r (mo - 1)) (fun p => ⟨[(0, .d (.sl (Val.encR l))), (1, .d (.int p.left)), (5, .d (.int i)), (6, .d (.int p.i))], []⟩) (fun p => r.length - p.i) ⟨0, mo - 1, by omega, by omega, by omega, rfl⟩ ((Le.of' 0 rfl (by repeat (first | exact trivial | refine ⟨⟨rfl, rfl⟩, ?_⟩)) (by repeat (first | exact trivial | refine ⟨rfl, ?_⟩)))) ?_
      rintro ⟨k, le, hk, hl2, hu2, ok2⟩
      dsimp only
      rcases Nat.lt_or_ge k r.length with hklt | hkge
      · have hd2 : decide ((k : Int) < ((encL r).length : Int)) = true := by rw [hlr]; simpa using hklt
        have hy0 := List.getElem?_eq_getElem hklt
        generalize r[k] = v at hy0
        have hy : (encL r)[(k : Int).toNat]? = some (enc v) := encL_get (by rw [Int.toNat_natCast]; exact hy0)
        cases hle0 : decide (le ≥ 0) with
        | false =>
          repeat' (first | (refine qS rfl ?_ ?_; (first | exact True.intro | rfl | assumption | omega | (simp only [inR]; omega) | ((show _ ≤ (9223372036854775807 : Nat)); (try simp only [ByteArray.size_append]); omega) | exact tmod_ok (by omega) (by omega) | exact tdiv_ok (by omega) (by omega) | exact ⟨rfl, by decide, by decide⟩)) | refine qA ?_ | refine qB rfl ?_ | refine qC (by kernel_rfl) ?_ | refine qD ?_ | refine qE ?_ | refine qF ?_ | refine qG ?_ | refine qH rfl ?_ | refine qI (.sl (encL r)) rfl (guardX_ok rfl) rfl rfl rfl rfl rfl rfl (by first | omega | decide) hx ?_ | (refine qT rfl ?_ ?_; (first | rfl | assumption)) | (refine qU rfl ?_ ?_; (first | rfl | assumption)) | refine qL rfl rfl ?_ | refine qM rfl rfl rfl ?_ | refine qO rfl rfl rfl ?_ | refine qX (b' := true) rfl rfl rfl rfl (by assumption) ?_ | refine qX (b' := false) rfl rfl rfl rfl (by assumption) ?_ | (refine qY rfl rfl rfl rfl ?_ ?_ <;> intro _) | exact (rfl : (_ : D) = _) | exact (rfl : (_ : List D) = _))
          refine go_stop ?_
          refine ⟨⟨i + 1, le, by omega, hl2, hu2, ?_⟩, by dsimp only; omega, (Le.of' 0 rfl (by repeat (first | exact trivial | refine ⟨⟨rfl, rfl⟩, ?_⟩)) (by repeat (first | exact trivial | refine ⟨rfl, ?_⟩)))⟩
          rw [ok, drop_at hx0]
          simp only [lightL]
          rw [hge0, cond_true, ok2, drop_at hy0]
          simp only [weighL]
          rw [hle0, cond_false]
        | true =>
          have hle : 0 ≤ le := of_decide_eq_true hle0
          have hw := weigh_ev 12 v le (by omega) hle hu2
          have hg := weighF_ge 12 v le (hrk v (List.mem_of_getElem? hy0)) hle
          have hg2 := weighF_le 12 v le hle
          repeat' (first | (refine qS rfl ?_ ?_; (first | exact True.intro | rfl | assumption | omega | (simp only [inR]; omega) | ((show _ ≤ (9223372036854775807 : Nat)); (try simp only [ByteArray.size_append]); omega) | exact tmod_ok (by omega) (by omega) | exact tdiv_ok (by omega) (by omega) | exact ⟨rfl, by decide, by decide⟩)) | refine qA ?_ | refine qB rfl ?_ | refine qC (by kernel_rfl) ?_ | refine qD ?_ | refine qE ?_ | refine qF ?_ | refine qG ?_ | refine qH rfl ?_ | refine qI (.sl (encL r)) rfl (guardX_ok rfl) rfl rfl rfl rfl rfl rfl (by first | omega | decide) hx ?_ | refine qI (enc v) rfl (guardX_ok rfl) rfl rfl rfl rfl rfl rfl (by first | omega | decide) hy ?_ | refine qP rfl rfl rfl rfl rfl rfl b33 (hw) ?_ | (refine qT rfl ?_ ?_; (first | rfl | assumption)) | (refine qU rfl ?_ ?_; (first | rfl | assumption)) | refine qL rfl rfl ?_ | refine qM rfl rfl rfl ?_ | refine qO rfl rfl rfl ?_ | refine qX (b' := true) rfl rfl rfl rfl (by assumption) ?_ | refine qX (b' := false) rfl rfl rfl rfl (by assumption) ?_ | (refine qY rfl rfl rfl rfl ?_ ?_ <;> intro _) | exact (rfl : (_ : D) = _) | exact (rfl : (_ : List D) = _))
          refine go_stop ?_
          refine ⟨⟨k + 1, weighF 12 v le, by omega, hg, by omega, by rw [ok2, drop_at hy0]; simp only [weighL]; rw [hle0]; rfl⟩, by dsimp only; omega, (Le.of' 0 rfl (by repeat (first | exact trivial | refine ⟨⟨rfl, rfl⟩, ?_⟩)) (by repeat (first | exact trivial | refine ⟨rfl, ?_⟩)))⟩
      · have hd2 : decide ((k : Int) < ((encL r).length : Int)) = false := by rw [hlr]; simp; omega
        have hnil : r.drop k = [] := List.drop_eq_nil_of_le hkge
        repeat' (first | (refine qS rfl ?_ ?_; (first | exact True.intro | rfl | assumption | omega | (simp only [inR]; omega) | ((show _ ≤ (9223372036854775807 : Nat)); (try simp only [ByteArray.size_append]); omega) | exact tmod_ok (by omega) (by omega) | exact tdiv_ok (by omega) (by omega) | exact ⟨rfl, by decide, by decide⟩)) | refine qA ?_ | refine qB rfl ?_ | refine qC (by kernel_rfl) ?_ | refine qD ?_ | refine qE ?_ | refine qF ?_ | refine qG ?_ | refine qH rfl ?_ | refine qI (.sl (encL r)) rfl (guardX_ok rfl) rfl rfl rfl rfl rfl rfl (by first | omega | decide) hx ?_ | (refine qT rfl ?_ ?_; (first | rfl | assumption)) | (refine qU rfl ?_ ?_; (first | rfl | assumption)) | refine qL rfl rfl ?_ | refine qM rfl rfl rfl ?_ | refine qO rfl rfl rfl ?_ | refine qX (b' := true) rfl rfl rfl rfl (by assumption) ?_ | refine qX (b' := false) rfl rfl rfl rfl (by assumption) ?_ | (refine qY rfl rfl rfl rfl ?_ ?_ <;> intro _) | exact (rfl : (_ : D) = _) | exact (rfl : (_ : List D) = _))
        refine go_stop ?_
        refine ⟨⟨i + 1, le, by omega, hl2, hu2, ?_⟩, by dsimp only; omega, (Le.of' 0 rfl (by repeat (first | exact trivial | refine ⟨⟨rfl, rfl⟩, ?_⟩)) (by repeat (first | exact trivial | refine ⟨rfl, ?_⟩)))⟩
        rw [ok, drop_at hx0]
        simp only [lightL]
        rw [hge0, cond_true, ok2, hnil]
        rfl
  · have hd1 : decide ((i : Int) < ((Val.encR l).length : Int)) = false := by rw [hlen]; simp; omega
    have : l.drop i = [] := List.drop_eq_nil_of_le hge
    repeat' (first | (refine qS rfl ?_ ?_; (first | exact True.intro | rfl | assumption | omega | (simp only [inR]; omega) | ((show _ ≤ (9223372036854775807 : Nat)); (try simp only [ByteArray.size_append]); omega) | exact tmod_ok (by omega) (by omega) | exact tdiv_ok (by omega) (by omega) | exact ⟨rfl, by decide, by decide⟩)) | refine qA ?_ | refine qB rfl ?_ | refine qC (by kernel_rfl) ?_ | refine qD ?_ | refine qE ?_ | refine qF ?_ | refine qG ?_ | refine qH rfl ?_ | (refine qT rfl ?_ ?_; (first | rfl | assumption)) | (refine qU rfl ?_ ?_; (first | rfl | assumption)) | refine qL rfl rfl ?_ | refine qM rfl rfl rfl ?_ | refine qO rfl rfl rfl ?_ | refine qX (b' := true) rfl rfl rfl rfl (by assumption) ?_ | refine qX (b' := false) rfl rfl rfl rfl (by assumption) ?_ | (refine qY rfl rfl rfl rfl ?_ ?_ <;> intro _) | exact (rfl : (_ : D) = _) | exact (rfl : (_ : List D) = _))
    all_goals (refine congrArg D.bool ?_; rw [← hres, ok, this]; rfl)
end Go.Proofs.YtpjnngfjbcjikaaDoor
