/- Comparisons: of integers, strings, lists; the specification's order of values. Conditions: none. -/
import Derived.Test.YtpjnngfjbcjikaaDoorM22
namespace Go.Proofs.YtpjnngfjbcjikaaDoor
open Go Go.Abs Go.Val Go.RowKit
attribute [local irreducible] go SGo HasBody Ev ExtEv EvO

def ci (x y : Int) : Int := Lib.compareInt x y
theorem ci_lt {x y : Int} (h : x < y) : ci x y = -1 := by unfold ci Lib.compareInt; rw [if_pos h]
theorem ci_gt {x y : Int} (h : x > y) : ci x y = 1 := by unfold ci Lib.compareInt; rw [if_neg (by omega), if_pos h]
theorem ci_eq (x : Int) : ci x x = 0 := by unfold ci Lib.compareInt; rw [if_neg (by omega), if_neg (by omega)]
theorem ci_rng (x y : Int) : -1 ≤ ci x y ∧ ci x y ≤ 1 := by unfold ci Lib.compareInt; split <;> (try split) <;> omega
/-- The order of strings. -/
def cs (a b : ByteArray) : Int := bif Op.bytesLess a.toList b.toList then -1 else bif (Op.bytesLess a.toList b.toList || a.toList == b.toList) then 0 else 1
def orI (x y : Int) : Int := bif x != 0 then x else y
theorem nanS_ev (a : ByteArray) : Ev E 40 [.str a] (.d (.bool false)) := by
  have h : (!(a.toList == a.toList)) = false := by simp
  rw [← h]
  refine enter1 Tryd.func40 Tryd.ntmps40 rfl rfl fun w0 F0 => ?_
  repeat' (first | (refine qS rfl ?_ ?_; (first | exact True.intro | rfl | assumption | omega | (simp only [inR]; omega) | ((show _ ≤ (9223372036854775807 : Nat)); (try simp only [ByteArray.size_append]); omega) | exact tmod_ok (by omega) (by omega) | exact tdiv_ok (by omega) (by omega) | exact ⟨rfl, by decide, by decide⟩)) | refine qA ?_ | refine qB rfl ?_ | refine qC (by kernel_rfl) ?_ | refine qD ?_ | refine qE ?_ | refine qF ?_ | refine qG ?_ | refine qH rfl ?_ | (refine qT rfl ?_ ?_; (first | rfl | assumption)) | (refine qU rfl ?_ ?_; (first | rfl | assumption)) | refine qL rfl rfl ?_ | refine qM rfl rfl rfl ?_ | refine qO rfl rfl rfl ?_ | refine qX (b' := true) rfl rfl rfl rfl (by assumption) ?_ | refine qX (b' := false) rfl rfl rfl rfl (by assumption) ?_ | (refine qY rfl rfl rfl rfl ?_ ?_ <;> intro _) | exact (rfl : (_ : D) = _) | exact (rfl : (_ : List D) = _))
theorem compareS_ev (a b : ByteArray) : Ev E 24 [.str a, .str b] (.d (.int (cs a b))) := by
  unfold cs
  cases h1 : Op.bytesLess a.toList b.toList with
  | true =>
    refine enter2 Tryd.func24 Tryd.ntmps24 rfl rfl fun w0 F0 => ?_
    repeat' (first | (refine qS rfl ?_ ?_; (first | exact True.intro | rfl | assumption | omega | (simp only [inR]; omega) | ((show _ ≤ (9223372036854775807 : Nat)); (try simp only [ByteArray.size_append]); omega) | exact tmod_ok (by omega) (by omega) | exact tdiv_ok (by omega) (by omega) | exact ⟨rfl, by decide, by decide⟩)) | refine qA ?_ | refine qB rfl ?_ | refine qC (by kernel_rfl) ?_ | refine qD ?_ | refine qE ?_ | refine qF ?_ | refine qG ?_ | refine qH rfl ?_ | refine qP rfl rfl rfl rfl rfl rfl b40 (nanS_ev _) ?_ | (refine qT rfl ?_ ?_; (first | rfl | assumption)) | (refine qU rfl ?_ ?_; (first | rfl | assumption)) | refine qL rfl rfl ?_ | refine qM rfl rfl rfl ?_ | refine qO rfl rfl rfl ?_ | refine qX (b' := true) rfl rfl rfl rfl (by assumption) ?_ | refine qX (b' := false) rfl rfl rfl rfl (by assumption) ?_ | (refine qY rfl rfl rfl rfl ?_ ?_ <;> intro _) | exact (rfl : (_ : D) = _) | exact (rfl : (_ : List D) = _))
  | false =>
    cases h2 : a.toList == b.toList with
    | true =>
      have g2 : (!(Op.bytesLess a.toList b.toList || a.toList == b.toList)) = false := by rw [h1, h2]; rfl
      refine enter2 Tryd.func24 Tryd.ntmps24 rfl rfl fun w0 F0 => ?_
      repeat' (first | (refine qS rfl ?_ ?_; (first | exact True.intro | rfl | assumption | omega | (simp only [inR]; omega) | ((show _ ≤ (9223372036854775807 : Nat)); (try simp only [ByteArray.size_append]); omega) | exact tmod_ok (by omega) (by omega) | exact tdiv_ok (by omega) (by omega) | exact ⟨rfl, by decide, by decide⟩)) | refine qA ?_ | refine qB rfl ?_ | refine qC (by kernel_rfl) ?_ | refine qD ?_ | refine qE ?_ | refine qF ?_ | refine qG ?_ | refine qH rfl ?_ | refine qP rfl rfl rfl rfl rfl rfl b40 (nanS_ev _) ?_ | (refine qT rfl ?_ ?_; (first | rfl | assumption)) | (refine qU rfl ?_ ?_; (first | rfl | assumption)) | refine qL rfl rfl ?_ | refine qM rfl rfl rfl ?_ | refine qO rfl rfl rfl ?_ | refine qX (b' := true) rfl rfl rfl rfl (by assumption) ?_ | refine qX (b' := false) rfl rfl rfl rfl (by assumption) ?_ | (refine qY rfl rfl rfl rfl ?_ ?_ <;> intro _) | exact (rfl : (_ : D) = _) | exact (rfl : (_ : List D) = _))
    | false =>
      have g2 : (!(Op.bytesLess a.toList b.toList || a.toList == b.toList)) = true := by rw [h1, h2]; rfl
      refine enter2 Tryd.func24 Tryd.ntmps24 rfl rfl fun w0 F0 => ?_
      repeat' (first | (refine qS rfl ?_ ?_; (first | exact True.intro | rfl | assumption | omega | (simp only [inR]; omega) | ((show _ ≤ (9223372036854775807 : Nat)); (try simp only [ByteArray.size_append]); omega) | exact tmod_ok (by omega) (by omega) | exact tdiv_ok (by omega) (by omega) | exact ⟨rfl, by decide, by decide⟩)) | refine qA ?_ | refine qB rfl ?_ | refine qC (by kernel_rfl) ?_ | refine qD ?_ | refine qE ?_ | refine qF ?_ | refine qG ?_ | refine qH rfl ?_ | refine qP rfl rfl rfl rfl rfl rfl b40 (nanS_ev _) ?_ | (refine qT rfl ?_ ?_; (first | rfl | assumption)) | (refine qU rfl ?_ ?_; (first | rfl | assumption)) | refine qL rfl rfl ?_ | refine qM rfl rfl rfl ?_ | refine qO rfl rfl rfl ?_ | refine qX (b' := true) rfl rfl rfl rfl (by assumption) ?_ | refine qX (b' := false) rfl rfl rfl rfl (by assumption) ?_ | (refine qY rfl rfl rfl rfl ?_ ?_ <;> intro _) | exact (rfl : (_ : D) = _) | exact (rfl : (_ : List D) = _))
/-- The first that is not zero. -/
def orL : List Int → Int
  | [] => 0
  | x :: r => orI x (orL r)
structure SOr (l : List Int) where
  i : Nat
  hi : i ≤ l.length
  ok : orL l = orL (l.drop i)
theorem or_ev2 (l : List Int) : Ev E 22 [.sl (encI l)] (.d (.int (orL l))) := Ev.fit fun hfit => by
  have hmax := ((hfit (.sl (encI l)) (by simp)).sls).1
  rw [encI_len] at hmax
  have hle : (encI l).length = l.length := encI_len l
  refine enter1 Tryd.func22 Tryd.ntmps22 rfl rfl fun w0 F0 => ?_
  repeat' (first | (refine qS rfl ?_ ?_; (first | exact True.intro | rfl | assumption | omega | (simp only [inR]; omega) | ((show _ ≤ (9223372036854775807 : Nat)); (try simp only [ByteArray.size_append]); omega) | exact tmod_ok (by omega) (by omega) | exact tdiv_ok (by omega) (by omega) | exact ⟨rfl, by decide, by decide⟩)) | refine qA ?_ | refine qB rfl ?_ | refine qC (by kernel_rfl) ?_ | refine qD ?_ | refine qE ?_ | refine qF ?_ | refine qG ?_ | refine qH rfl ?_ | (refine qT rfl ?_ ?_; (first | rfl | assumption)) | (refine qU rfl ?_ ?_; (first | rfl | assumption)) | refine qL rfl rfl ?_ | refine qM rfl rfl rfl ?_ | refine qO rfl rfl rfl ?_ | refine qX (b' := true) rfl rfl rfl rfl (by assumption) ?_ | refine qX (b' := false) rfl rfl rfl rfl (by assumption) ?_ | (refine qY rfl rfl rfl rfl ?_ ?_ <;> intro _) | exact (rfl : (_ : D) = _) | exact (rfl : (_ : List D) = _))
  refine go_loop_ (α := SOr l) (fun p => ⟨[(3, .d (.int 0)), (6, .d (.sl (encI l))), (7, .d (.int (encI l).length)), (8, .d (.int p.i))], []⟩) (fun p => l.length - p.i) ⟨0, by omega, rfl⟩ ((Le.of' 0 rfl (by repeat (first | exact trivial | refine ⟨⟨rfl, rfl⟩, ?_⟩)) (by repeat (first | exact trivial | refine ⟨rfl, ?_⟩)))) ?_
  rintro ⟨i, hi, ok⟩
  dsimp only
  rcases Nat.lt_or_ge i l.length with hlt | hge
  · have g1 : decide ((i : Int) < ((encI l).length : Int)) = true := by rw [hle]; simpa using hlt
    have hx0 := List.getElem?_eq_getElem hlt
    generalize l[i] = x at hx0
    have hx : (encI l)[(i : Int).toNat]? = some (.int x) := encI_get (by rw [Int.toNat_natCast]; exact hx0)
    rw [ok, drop_at hx0]
    simp only [orL, orI]
    cases h : x != 0 with
    | true =>
      repeat' (first | (refine qS rfl ?_ ?_; (first | exact True.intro | rfl | assumption | omega | (simp only [inR]; omega) | ((show _ ≤ (9223372036854775807 : Nat)); (try simp only [ByteArray.size_append]); omega) | exact tmod_ok (by omega) (by omega) | exact tdiv_ok (by omega) (by omega) | exact ⟨rfl, by decide, by decide⟩)) | refine qA ?_ | refine qB rfl ?_ | refine qC (by kernel_rfl) ?_ | refine qD ?_ | refine qE ?_ | refine qF ?_ | refine qG ?_ | refine qH rfl ?_ | refine qI (.int x) rfl (guardX_ok rfl) rfl rfl rfl rfl rfl rfl (by first | omega | decide) hx ?_ | (refine qT rfl ?_ ?_; (first | rfl | assumption)) | (refine qU rfl ?_ ?_; (first | rfl | assumption)) | refine qL rfl rfl ?_ | refine qM rfl rfl rfl ?_ | refine qO rfl rfl rfl ?_ | refine qX (b' := true) rfl rfl rfl rfl (by assumption) ?_ | refine qX (b' := false) rfl rfl rfl rfl (by assumption) ?_ | (refine qY rfl rfl rfl rfl ?_ ?_ <;> intro _) | exact (rfl : (_ : D) = _) | exact (rfl : (_ : List D) = _))
    | false =>
      repeat' (first | (refine qS rfl ?_ ?_; (first | exact True.intro | rfl | assumption | omega | (simp only [inR]; omega) | ((show _ ≤ (9223372036854775807 : Nat)); (try simp only [ByteArray.size_append]); omega) | exact tmod_ok (by omega) (by omega) | exact tdiv_ok (by omega) (by omega) | exact ⟨rfl, by decide, by decide⟩)) | refine qA ?_ | refine qB rfl ?_ | refine qC (by kernel_rfl) ?_ | refine qD ?_ | refine qE ?_ | refine qF ?_ | refine qG ?_ | refine qH rfl ?_ | refine qI (.int x) rfl (guardX_ok rfl) rfl rfl rfl rfl rfl rfl (by first | omega | decide) hx ?_ | (refine qT rfl ?_ ?_; (first | rfl | assumption)) | (refine qU rfl ?_ ?_; (first | rfl | assumption)) | refine qL rfl rfl ?_ | refine qM rfl rfl rfl ?_ | refine qO rfl rfl rfl ?_ | refine qX (b' := true) rfl rfl rfl rfl (by assumption) ?_ | refine qX (b' := false) rfl rfl rfl rfl (by assumption) ?_ | (refine qY rfl rfl rfl rfl ?_ ?_ <;> intro _) | exact (rfl : (_ : D) = _) | exact (rfl : (_ : List D) = _))
      refine go_stop ?_
      exact ⟨⟨i + 1, by omega, by rw [ok, drop_at hx0]; simp only [orL, orI]; rw [h]; rfl⟩, by dsimp only; omega, (Le.of' 0 rfl (by repeat (first | exact trivial | refine ⟨⟨rfl, rfl⟩, ?_⟩)) (by repeat (first | exact trivial | refine ⟨rfl, ?_⟩)))⟩
  · have g1 : decide ((i : Int) < ((encI l).length : Int)) = false := by rw [hle]; simp; omega
    have : l.drop i = [] := List.drop_eq_nil_of_le hge
    rw [ok, this]
    repeat' (first | (refine qS rfl ?_ ?_; (first | exact True.intro | rfl | assumption | omega | (simp only [inR]; omega) | ((show _ ≤ (9223372036854775807 : Nat)); (try simp only [ByteArray.size_append]); omega) | exact tmod_ok (by omega) (by omega) | exact tdiv_ok (by omega) (by omega) | exact ⟨rfl, by decide, by decide⟩)) | refine qA ?_ | refine qB rfl ?_ | refine qC (by kernel_rfl) ?_ | refine qD ?_ | refine qE ?_ | refine qF ?_ | refine qG ?_ | refine qH rfl ?_ | (refine qT rfl ?_ ?_; (first | rfl | assumption)) | (refine qU rfl ?_ ?_; (first | rfl | assumption)) | refine qL rfl rfl ?_ | refine qM rfl rfl rfl ?_ | refine qO rfl rfl rfl ?_ | refine qX (b' := true) rfl rfl rfl rfl (by assumption) ?_ | refine qX (b' := false) rfl rfl rfl rfl (by assumption) ?_ | (refine qY rfl rfl rfl rfl ?_ ?_ <;> intro _) | exact (rfl : (_ : D) = _) | exact (rfl : (_ : List D) = _))
/-- The order of lists by an order of their elements. -/
def cmpL (g : V → V → Int) : List V → List V → Int
  | [], [] => 0
  | [], _ :: _ => -1
  | _ :: _, [] => 1
  | x :: r, y :: q => orI (g x y) (cmpL g r q)
theorem cmpL_nil (g : V → V → Int) (a b : List V) (h : a = [] ∨ b = []) : cmpL g a b = ci a.length b.length := by
  cases a with
  | nil =>
    cases b with
    | nil => exact (ci_eq 0).symm
    | cons y q => simp only [cmpL]; rw [ci_lt (by simp only [List.length_nil, List.length_cons]; omega)]
  | cons x r =>
    cases b with
    | nil => simp only [cmpL]; rw [ci_gt (by simp only [List.length_nil, List.length_cons]; omega)]
    | cons y q => rcases h with h | h <;> cases h
structure SCF (g : V → V → Int) (a b : List V) where
  i : Nat
  hi : i ≤ a.length
  hj : i ≤ b.length
  ok : cmpL g a b = cmpL g (a.drop i) (b.drop i)
theorem compareFunc_ev (f : FuncId) (hb : HasBody E f) (g : V → V → Int) (a b : List V) (hf : ∀ x ∈ a, ∀ y ∈ b, Ev E f [enc x, enc y] (.d (.int (g x y)))) :
    Ev E 25 [.sl (encL a), .sl (encL b), .imm (.func (.func f) #[] #[])] (.d (.int (cmpL g a b))) := Ev.fit fun hfit => by
  obtain ⟨hma, -⟩ := fit_encL (hfit (.sl (encL a)) (by simp))
  have hla : (encL a).length = a.length := encL_len a
  have hlb : (encL b).length = b.length := encL_len b
  refine enter3 Tryd.func25 Tryd.ntmps25 rfl rfl fun w0 F0 => ?_
  repeat' (first | (refine qS rfl ?_ ?_; (first | exact True.intro | rfl | assumption | omega | (simp only [inR]; omega) | ((show _ ≤ (9223372036854775807 : Nat)); (try simp only [ByteArray.size_append]); omega) | exact tmod_ok (by omega) (by omega) | exact tdiv_ok (by omega) (by omega) | exact ⟨rfl, by decide, by decide⟩)) | refine qA ?_ | refine qB rfl ?_ | refine qC (by kernel_rfl) ?_ | refine qD ?_ | refine qE ?_ | refine qF ?_ | refine qG ?_ | refine qH rfl ?_ | (refine qT rfl ?_ ?_; (first | rfl | assumption)) | (refine qU rfl ?_ ?_; (first | rfl | assumption)) | refine qL rfl rfl ?_ | refine qM rfl rfl rfl ?_ | refine qO rfl rfl rfl ?_ | refine qX (b' := true) rfl rfl rfl rfl (by assumption) ?_ | refine qX (b' := false) rfl rfl rfl rfl (by assumption) ?_ | (refine qY rfl rfl rfl rfl ?_ ?_ <;> intro _) | exact (rfl : (_ : D) = _) | exact (rfl : (_ : List D) = _))
  refine go_loop_ (α := SCF g a b) (fun p => ⟨[(0, .d (.sl (encL a))), (1, .d (.sl (encL b))), (2, .d (.imm (.func (.func f) #[] #[]))), (11, .d (.sl (encL a))), (12, .d (.int (encL a).length)), (13, .d (.int p.i))], []⟩) (fun p => a.length - p.i) ⟨0, by omega, by omega, rfl⟩ ((Le.of' 0 rfl (by repeat (first | exact trivial | refine ⟨⟨rfl, rfl⟩, ?_⟩)) (by repeat (first | exact trivial | refine ⟨rfl, ?_⟩)))) ?_
  rintro ⟨i, hi, hj, ok⟩
  dsimp only
  rcases Nat.lt_or_ge i a.length with hlt | hge
  · have g1 : decide ((i : Int) < ((encL a).length : Int)) = true := by rw [hla]; simpa using hlt
    have hx0 := List.getElem?_eq_getElem hlt
    generalize a[i] = x at hx0
    have hx : (encL a)[(i : Int).toNat]? = some (enc x) := encL_get (by rw [Int.toNat_natCast]; exact hx0)
    rcases Nat.lt_or_ge i b.length with hltb | hgeb
    · have g2 : decide ((i : Int) ≥ ((encL b).length : Int)) = false := by rw [hlb]; simpa using hltb
      have hy0 := List.getElem?_eq_getElem hltb
      generalize b[i] = y at hy0
      have hy : (encL b)[(i : Int).toNat]? = some (enc y) := encL_get (by rw [Int.toNat_natCast]; exact hy0)
      have hxy := hf x (List.mem_of_getElem? hx0) y (List.mem_of_getElem? hy0)
      rw [ok, drop_at hx0, drop_at hy0]
      simp only [cmpL, orI]
      cases h : g x y != 0 with
      | true =>
        repeat' (first | (refine qS rfl ?_ ?_; (first | exact True.intro | rfl | assumption | omega | (simp only [inR]; omega) | ((show _ ≤ (9223372036854775807 : Nat)); (try simp only [ByteArray.size_append]); omega) | exact tmod_ok (by omega) (by omega) | exact tdiv_ok (by omega) (by omega) | exact ⟨rfl, by decide, by decide⟩)) | refine qA ?_ | refine qB rfl ?_ | refine qC (by kernel_rfl) ?_ | refine qD ?_ | refine qE ?_ | refine qF ?_ | refine qG ?_ | refine qH rfl ?_ | refine qI (enc x) rfl (guardX_ok rfl) rfl rfl rfl rfl rfl rfl (by first | omega | decide) hx ?_ | refine qI (enc y) rfl (guardX_ok rfl) rfl rfl rfl rfl rfl rfl (by first | omega | decide) hy ?_ | refine qP rfl rfl rfl rfl rfl rfl hb (hxy) ?_ | (refine qT rfl ?_ ?_; (first | rfl | assumption)) | (refine qU rfl ?_ ?_; (first | rfl | assumption)) | refine qL rfl rfl ?_ | refine qM rfl rfl rfl ?_ | refine qO rfl rfl rfl ?_ | refine qX (b' := true) rfl rfl rfl rfl (by assumption) ?_ | refine qX (b' := false) rfl rfl rfl rfl (by assumption) ?_ | (refine qY rfl rfl rfl rfl ?_ ?_ <;> intro _) | exact (rfl : (_ : D) = _) | exact (rfl : (_ : List D) = _))
      | false =>
        repeat' (first | (refine qS rfl ?_ ?_; (first | exact True.intro | rfl | assumption | omega | (simp only [inR]; omega) | ((show _ ≤ (9223372036854775807 : Nat)); (try simp only [ByteArray.size_append]); omega) | exact tmod_ok (by omega) (by omega) | exact tdiv_ok (by omega) (by omega) | exact ⟨rfl, by decide, by decide⟩)) | refine qA ?_ | refine qB rfl ?_ | refine qC (by kernel_rfl) ?_ | refine qD ?_ | refine qE ?_ | refine qF ?_ | refine qG ?_ | refine qH rfl ?_ | refine qI (enc x) rfl (guardX_ok rfl) rfl rfl rfl rfl rfl rfl (by first | omega | decide) hx ?_ | refine qI (enc y) rfl (guardX_ok rfl) rfl rfl rfl rfl rfl rfl (by first | omega | decide) hy ?_ | refine qP rfl rfl rfl rfl rfl rfl hb (hxy) ?_ | (refine qT rfl ?_ ?_; (first | rfl | assumption)) | (refine qU rfl ?_ ?_; (first | rfl | assumption)) | refine qL rfl rfl ?_ | refine qM rfl rfl rfl ?_ | refine qO rfl rfl rfl ?_ | refine qX (b' := true) rfl rfl rfl rfl (by assumption) ?_ | refine qX (b' := false) rfl rfl rfl rfl (by assumption) ?_ | (refine qY rfl rfl rfl rfl ?_ ?_ <;> intro _) | exact (rfl : (_ : D) = _) | exact (rfl : (_ : List D) = _))
        refine go_stop ?_
        exact ⟨⟨i + 1, by omega, by omega, by rw [ok, drop_at hx0, drop_at hy0]; simp only [cmpL, orI]; rw [h]; rfl⟩, by dsimp only; omega, (Le.of' 0 rfl (by repeat (first | exact trivial | refine ⟨⟨rfl, rfl⟩, ?_⟩)) (by repeat (first | exact trivial | refine ⟨rfl, ?_⟩)))⟩
    · have g2 : decide ((i : Int) ≥ ((encL b).length : Int)) = true := by rw [hlb]; simp; omega
      rw [ok, drop_at hx0, List.drop_eq_nil_of_le hgeb]
      repeat' (first | (refine qS rfl ?_ ?_; (first | exact True.intro | rfl | assumption | omega | (simp only [inR]; omega) | ((show _ ≤ (9223372036854775807 : Nat)); (try simp only [ByteArray.size_append]); omega) | exact tmod_ok (by omega) (by omega) | exact tdiv_ok (by omega) (by omega) | exact ⟨rfl, by decide, by decide⟩)) | refine qA ?_ | refine qB rfl ?_ | refine qC (by kernel_rfl) ?_ | refine qD ?_ | refine qE ?_ | refine qF ?_ | refine qG ?_ | refine qH rfl ?_ | refine qI (enc x) rfl (guardX_ok rfl) rfl rfl rfl rfl rfl rfl (by first | omega | decide) hx ?_ | (refine qT rfl ?_ ?_; (first | rfl | assumption)) | (refine qU rfl ?_ ?_; (first | rfl | assumption)) | refine qL rfl rfl ?_ | refine qM rfl rfl rfl ?_ | refine qO rfl rfl rfl ?_ | refine qX (b' := true) rfl rfl rfl rfl (by assumption) ?_ | refine qX (b' := false) rfl rfl rfl rfl (by assumption) ?_ | (refine qY rfl rfl rfl rfl ?_ ?_ <;> intro _) | exact (rfl : (_ : D) = _) | exact (rfl : (_ : List D) = _))
  · have g1 : decide ((i : Int) < ((encL a).length : Int)) = false := by rw [hla]; simp; omega
    have hia : i = a.length := by omega
    rcases Nat.lt_or_ge i b.length with hltb | hgeb
    · have g2 : decide (((encL a).length : Int) < ((encL b).length : Int)) = true := by rw [hla, hlb, decide_eq_true_eq]; omega
      rw [ok, List.drop_eq_nil_of_le hge, List.drop_eq_getElem_cons hltb]
      repeat' (first | (refine qS rfl ?_ ?_; (first | exact True.intro | rfl | assumption | omega | (simp only [inR]; omega) | ((show _ ≤ (9223372036854775807 : Nat)); (try simp only [ByteArray.size_append]); omega) | exact tmod_ok (by omega) (by omega) | exact tdiv_ok (by omega) (by omega) | exact ⟨rfl, by decide, by decide⟩)) | refine qA ?_ | refine qB rfl ?_ | refine qC (by kernel_rfl) ?_ | refine qD ?_ | refine qE ?_ | refine qF ?_ | refine qG ?_ | refine qH rfl ?_ | (refine qT rfl ?_ ?_; (first | rfl | assumption)) | (refine qU rfl ?_ ?_; (first | rfl | assumption)) | refine qL rfl rfl ?_ | refine qM rfl rfl rfl ?_ | refine qO rfl rfl rfl ?_ | refine qX (b' := true) rfl rfl rfl rfl (by assumption) ?_ | refine qX (b' := false) rfl rfl rfl rfl (by assumption) ?_ | (refine qY rfl rfl rfl rfl ?_ ?_ <;> intro _) | exact (rfl : (_ : D) = _) | exact (rfl : (_ : List D) = _))
    · have g2 : decide (((encL a).length : Int) < ((encL b).length : Int)) = false := by rw [hla, hlb, decide_eq_false_iff_not]; omega
      rw [ok, List.drop_eq_nil_of_le hge, List.drop_eq_nil_of_le hgeb]
      repeat' (first | (refine qS rfl ?_ ?_; (first | exact True.intro | rfl | assumption | omega | (simp only [inR]; omega) | ((show _ ≤ (9223372036854775807 : Nat)); (try simp only [ByteArray.size_append]); omega) | exact tmod_ok (by omega) (by omega) | exact tdiv_ok (by omega) (by omega) | exact ⟨rfl, by decide, by decide⟩)) | refine qA ?_ | refine qB rfl ?_ | refine qC (by kernel_rfl) ?_ | refine qD ?_ | refine qE ?_ | refine qF ?_ | refine qG ?_ | refine qH rfl ?_ | (refine qT rfl ?_ ?_; (first | rfl | assumption)) | (refine qU rfl ?_ ?_; (first | rfl | assumption)) | refine qL rfl rfl ?_ | refine qM rfl rfl rfl ?_ | refine qO rfl rfl rfl ?_ | refine qX (b' := true) rfl rfl rfl rfl (by assumption) ?_ | refine qX (b' := false) rfl rfl rfl rfl (by assumption) ?_ | (refine qY rfl rfl rfl rfl ?_ ?_ <;> intro _) | exact (rfl : (_ : D) = _) | exact (rfl : (_ : List D) = _))

/-! ## The order of values -/
def rcls (k : Int) : Int := bif k == 0 then 0 else bif k == 1 then 1 else bif k == 2 || k == 3 then 2 else bif k == 4 then 3 else bif k == 5 then 4 else bif k == 6 then 5 else bif k == 8 then 6 else 7
def headO (a b : V) (t : Int) : Int := orI (ci a.k b.k) (orI (ci a.n b.n) (orI (ci a.d b.d) (orI (cs a.s b.s) t)))
/-- The specification's order, given that of the elements. -/
def stepO (a b : V) (t : Int) : Int :=
  bif Val.okV a != Val.okV b then 1 - tt (Val.okV a) else
  bif !Val.okV a then headO a b t else
  bif ci (rcls a.k) (rcls b.k) != 0 then ci (rcls a.k) (rcls b.k) else
  bif isNum a then cmpQ (numN a) (numD a) (numN b) (numD b) else headO a b t
mutual
def ordF : V → V → Int
  | .mk k n d s l, b => stepO (.mk k n d s l) b (ordL l b.l)
def ordL : List V → List V → Int
  | [], [] => 0
  | [], _ :: _ => -1
  | _ :: _, [] => 1
  | x :: r, y :: q => orI (ordF x y) (ordL r q)
end
theorem ordL_eq : ∀ a b : List V, ordL a b = cmpL ordF a b
  | [], [] => by simp [ordL, cmpL]
  | [], _ :: _ => by simp [ordL, cmpL]
  | _ :: _, [] => by simp [ordL, cmpL]
  | x :: r, y :: q => by simp only [ordL, cmpL, ordL_eq r q]
theorem ordF_eq (a b : V) : ordF a b = stepO a b (cmpL ordF a.l b.l) := by
  cases a
  simp only [ordF, ordL_eq, V.l]
end Go.Proofs.YtpjnngfjbcjikaaDoor
