/- What the law's own same comes to. Conditions: none. -/
import Derived.Test.YtpjnngfjbcjikaaDoorM9
namespace Go.Proofs.YtpjnngfjbcjikaaDoor
open Go Go.Abs Go.Val
attribute [local irreducible] go SGo HasBody Ev

def headSame (a b : V) : Bool := (a.k == b.k) && ((a.n == b.n) && ((a.d == b.d) && ((a.s.toList == b.s.toList) && (((kids a).length : Int) == ((kids b).length : Int)))))
mutual
def sameF : V → V → Bool
  | .mk k n d s l, b => headSame (.mk k n d s l) b && sameL l b.l
def sameL : List V → List V → Bool
  | a :: r, b :: q => sameF a b && sameL r q
  | _, _ => true
end
theorem sameF_eq (a b : V) : sameF a b = (headSame a b && sameL a.l b.l) := by cases a; simp [sameF, V.l]
theorem vind {P : V → Prop} (h : ∀ (k n d : Int) (s : ByteArray) (l : List V), (∀ x ∈ l, P x) → P (.mk k n d s l)) (v : V) : P v :=
  V.rec (motive_1 := P) (motive_2 := fun l => ∀ x ∈ l, P x) (fun k n d s l ih => h k n d s l ih) (fun x hx => by simp at hx)
    (fun a r ha hr x hx => by
      rcases List.mem_cons.1 hx with e | e
      · rw [e]; exact ha
      · exact hr x e) v
structure SS (l m : List V) where
  i : Nat
  hi : i ≤ l.length
  ok : sameL l m = sameL (l.drop i) (m.drop i)
theorem same_ev (a : V) : ∀ b : V, Ev E 8 [enc a, enc b] (.d (.bool (sameF a b))) := by
  refine vind (P := fun a => ∀ b : V, Ev E 8 [enc a, enc b] (.d (.bool (sameF a b)))) (fun ka na da sa la ih b => ?_) a
  refine Ev.fit fun hfit => ?_
  obtain ⟨-, -, -, -, hmax, -⟩ := fit_enc (hfit (enc (.mk ka na da sa la)) (by simp))
  rw [sameF_eq]
  generalize hva : V.mk ka na da sa la = a at *
  have hal : a.l = la := by rw [← hva]; rfl
  have e1 : (a.k != b.k) = !(a.k == b.k) := rfl
  cases hh : headSame a b with
  | false =>
    rw [Bool.false_and]
    refine enter2 Tryd.func8 Tryd.ntmps8 rfl rfl fun w0 F0 => ?_
    repeat' (first | (refine qS rfl ?_ ?_; (first | exact True.intro | rfl | assumption | omega | (simp only [inR]; omega) | ((show _ ≤ (9223372036854775807 : Nat)); (try simp only [ByteArray.size_append]); omega) | exact tmod_ok (by omega) (by omega) | exact tdiv_ok (by omega) (by omega) | exact ⟨rfl, by decide, by decide⟩)) | refine qA ?_ | refine qB rfl ?_ | refine qC (by kernel_rfl) ?_ | refine qD ?_ | refine qE ?_ | refine qF ?_ | refine qG ?_ | refine qH rfl ?_ | (refine qT rfl ?_ ?_; (first | rfl | assumption)) | (refine qU rfl ?_ ?_; (first | rfl | assumption)) | refine qL rfl rfl ?_ | refine qM rfl rfl rfl ?_ | refine qO rfl rfl rfl ?_ | refine qX (b' := true) rfl rfl rfl rfl (by assumption) ?_ | refine qX (b' := false) rfl rfl rfl rfl (by assumption) ?_ | (refine qY rfl rfl rfl rfl ?_ ?_ <;> intro _) | (refine qV rfl ?_ ?_ <;> intro _) | exact (rfl : (_ : D) = _) | exact (rfl : (_ : List D) = _))
    all_goals (exfalso; clear ih hfit; simp_all [headSame])
  | true =>
    unfold headSame at hh
    simp only [Bool.and_eq_true] at hh
    obtain ⟨h1, h2, h3, h4, h5⟩ := hh
    have g1 : (a.k != b.k) = false := by simpa using h1
    have g2 : (a.n != b.n) = false := by simpa using h2
    have g3 : (a.d != b.d) = false := by simpa using h3
    have g4 : (!(a.s.toList == b.s.toList)) = false := by rw [h4]; rfl
    have g5 : (((kids a).length : Int) != ((kids b).length : Int)) = false := by simpa using h5
    have hla : (kids a).length = a.l.length := kids_len a
    have hlb : (kids b).length = b.l.length := kids_len b
    have hlen : a.l.length = b.l.length := by
      have h6 : ((kids a).length : Int) = ((kids b).length : Int) := by simpa using h5
      omega
    rw [Bool.true_and]
    refine enter2 Tryd.func8 Tryd.ntmps8 rfl rfl fun w0 F0 => ?_
    repeat' (first | (refine qS rfl ?_ ?_; (first | exact True.intro | rfl | assumption | omega | (simp only [inR]; omega) | ((show _ ≤ (9223372036854775807 : Nat)); (try simp only [ByteArray.size_append]); omega) | exact tmod_ok (by omega) (by omega) | exact tdiv_ok (by omega) (by omega) | exact ⟨rfl, by decide, by decide⟩)) | refine qA ?_ | refine qB rfl ?_ | refine qC (by kernel_rfl) ?_ | refine qD ?_ | refine qE ?_ | refine qF ?_ | refine qG ?_ | refine qH rfl ?_ | (refine qT rfl ?_ ?_; (first | rfl | assumption)) | (refine qU rfl ?_ ?_; (first | rfl | assumption)) | refine qL rfl rfl ?_ | refine qM rfl rfl rfl ?_ | refine qO rfl rfl rfl ?_ | refine qX (b' := true) rfl rfl rfl rfl (by assumption) ?_ | refine qX (b' := false) rfl rfl rfl rfl (by assumption) ?_ | (refine qY rfl rfl rfl rfl ?_ ?_ <;> intro _) | exact (rfl : (_ : D) = _) | exact (rfl : (_ : List D) = _))
    refine go_loop_ (α := SS a.l b.l) (fun p => ⟨[(2, .ptr 0 0), (3, .ptr 1 0), (43, .d (.int (kids a).length)), (44, .d (.int p.i))], [.var 24 (.w (.d (enc a))), .var 24 (.w (.d (enc b)))]⟩) (fun p => a.l.length - p.i) ⟨0, by omega, rfl⟩ ((Le.of' 2 rfl (by repeat (first | exact trivial | refine ⟨⟨rfl, rfl⟩, ?_⟩)) (by repeat (first | exact trivial | refine ⟨rfl, ?_⟩)))) ?_
    rintro ⟨i, hi, ok⟩
    dsimp only
    rcases Nat.lt_or_ge i a.l.length with hlt | hge
    · have hd : decide ((i : Int) < ((kids a).length : Int)) = true := by rw [hla]; simpa using hlt
      have hx0 := List.getElem?_eq_getElem hlt
      have hy0 := List.getElem?_eq_getElem (show i < b.l.length by omega)
      generalize a.l[i] = x at hx0
      generalize b.l[i] = y at hy0
      have hx : (kids a)[(i : Int).toNat]? = some (enc x) := kids_get (by rw [Int.toNat_natCast]; exact hx0)
      have hy : (kids b)[(i : Int).toNat]? = some (enc y) := kids_get (by rw [Int.toNat_natCast]; exact hy0)
      have hs := ih x (by rw [← hal]; exact List.mem_of_getElem? hx0) y
      rw [ok, drop_at hx0, drop_at hy0]
      simp only [sameL]
      cases hsv : sameF x y with
      | true =>
        rw [hsv] at hs
        repeat' (first | (refine qS rfl ?_ ?_; (first | exact True.intro | rfl | assumption | omega | (simp only [inR]; omega) | ((show _ ≤ (9223372036854775807 : Nat)); (try simp only [ByteArray.size_append]); omega) | exact tmod_ok (by omega) (by omega) | exact tdiv_ok (by omega) (by omega) | exact ⟨rfl, by decide, by decide⟩)) | refine qA ?_ | refine qB rfl ?_ | refine qC (by kernel_rfl) ?_ | refine qD ?_ | refine qE ?_ | refine qF ?_ | refine qG ?_ | refine qH rfl ?_ | refine qI (enc x) rfl (guardX_ok rfl) rfl rfl rfl rfl rfl rfl (by first | omega | decide) hx ?_ | refine qI (enc y) rfl (guardX_ok rfl) rfl rfl rfl rfl rfl rfl (by first | omega | decide) hy ?_ | refine qP rfl rfl rfl rfl rfl rfl b8 (hs) ?_ | (refine qT rfl ?_ ?_; (first | rfl | assumption)) | (refine qU rfl ?_ ?_; (first | rfl | assumption)) | refine qL rfl rfl ?_ | refine qM rfl rfl rfl ?_ | refine qO rfl rfl rfl ?_ | refine qX (b' := true) rfl rfl rfl rfl (by assumption) ?_ | refine qX (b' := false) rfl rfl rfl rfl (by assumption) ?_ | (refine qY rfl rfl rfl rfl ?_ ?_ <;> intro _) | exact (rfl : (_ : D) = _) | exact (rfl : (_ : List D) = _))
        refine go_stop ?_
        refine ⟨⟨i + 1, by omega, by rw [ok, drop_at hx0, drop_at hy0]; simp only [sameL]; rw [hsv, Bool.true_and]⟩, by dsimp only; omega, (Le.of' 2 rfl (by repeat (first | exact trivial | refine ⟨⟨rfl, rfl⟩, ?_⟩)) (by repeat (first | exact trivial | refine ⟨rfl, ?_⟩)))⟩
      | false =>
        rw [hsv] at hs
        repeat' (first | (refine qS rfl ?_ ?_; (first | exact True.intro | rfl | assumption | omega | (simp only [inR]; omega) | ((show _ ≤ (9223372036854775807 : Nat)); (try simp only [ByteArray.size_append]); omega) | exact tmod_ok (by omega) (by omega) | exact tdiv_ok (by omega) (by omega) | exact ⟨rfl, by decide, by decide⟩)) | refine qA ?_ | refine qB rfl ?_ | refine qC (by kernel_rfl) ?_ | refine qD ?_ | refine qE ?_ | refine qF ?_ | refine qG ?_ | refine qH rfl ?_ | refine qI (enc x) rfl (guardX_ok rfl) rfl rfl rfl rfl rfl rfl (by first | omega | decide) hx ?_ | refine qI (enc y) rfl (guardX_ok rfl) rfl rfl rfl rfl rfl rfl (by first | omega | decide) hy ?_ | refine qP rfl rfl rfl rfl rfl rfl b8 (hs) ?_ | (refine qT rfl ?_ ?_; (first | rfl | assumption)) | (refine qU rfl ?_ ?_; (first | rfl | assumption)) | refine qL rfl rfl ?_ | refine qM rfl rfl rfl ?_ | refine qO rfl rfl rfl ?_ | refine qX (b' := true) rfl rfl rfl rfl (by assumption) ?_ | refine qX (b' := false) rfl rfl rfl rfl (by assumption) ?_ | (refine qY rfl rfl rfl rfl ?_ ?_ <;> intro _) | exact (rfl : (_ : D) = _) | exact (rfl : (_ : List D) = _))
    · have hd : decide ((i : Int) < ((kids a).length : Int)) = false := by rw [hla]; simp; omega
      have : a.l.drop i = [] := List.drop_eq_nil_of_le hge
      rw [ok, this]
      repeat' (first | (refine qS rfl ?_ ?_; (first | exact True.intro | rfl | assumption | omega | (simp only [inR]; omega) | ((show _ ≤ (9223372036854775807 : Nat)); (try simp only [ByteArray.size_append]); omega) | exact tmod_ok (by omega) (by omega) | exact tdiv_ok (by omega) (by omega) | exact ⟨rfl, by decide, by decide⟩)) | refine qA ?_ | refine qB rfl ?_ | refine qC (by kernel_rfl) ?_ | refine qD ?_ | refine qE ?_ | refine qF ?_ | refine qG ?_ | refine qH rfl ?_ | (refine qT rfl ?_ ?_; (first | rfl | assumption)) | (refine qU rfl ?_ ?_; (first | rfl | assumption)) | refine qL rfl rfl ?_ | refine qM rfl rfl rfl ?_ | refine qO rfl rfl rfl ?_ | refine qX (b' := true) rfl rfl rfl rfl (by assumption) ?_ | refine qX (b' := false) rfl rfl rfl rfl (by assumption) ?_ | (refine qY rfl rfl rfl rfl ?_ ?_ <;> intro _) | exact (rfl : (_ : D) = _) | exact (rfl : (_ : List D) = _))
end Go.Proofs.YtpjnngfjbcjikaaDoor
