/- The specification's sums of wide numbers. Conditions: fourteen digits each. -/
import Derived.Test.YtpjnngfjbcjikaaGreatDoorM15
import Derived.Test.YtpjnngfjbcjikaaGreatDoorEng14
namespace Go.Proofs.YtpjnngfjbcjikaaGreatDoor
open Go Go.Abs Go.Val
attribute [local irreducible] go SGo HasBody Ev

/-- The state of a sum (s = 1) or a difference (s = -1) of wide numbers. -/
structure SPM (x y : List Int) (s : Int) where
  k : Nat
  carry : Int
  out : List Int
  hk : k ≤ 14
  hca : carry = 0 ∨ carry = s
  ok : wok out
  hl : out.length = 14
  hz : ∀ j, k ≤ j → j < 14 → out[j]? = some 0
  hv : wv out + pw k * (carry + wv (x.drop k) + s * wv (y.drop k)) = wv x + s * wv y
theorem spm_next {x y : List Int} {s : Int} (p : SPM x y s) (hk : p.k < 14) {a b r q : Int} (ha : x[p.k]? = some a) (hb : y[p.k]? = some b) (he : p.carry + a + s * b = r + 1000 * q) (hr : 0 ≤ r ∧ r ≤ 999) (hq : q = 0 ∨ q = s) :
    ∃ p' : SPM x y s, p'.k = p.k + 1 ∧ p'.carry = q ∧ p'.out = p.out.set p.k r := by
  refine ⟨⟨p.k + 1, q, p.out.set p.k r, by omega, hq, wok_set p.ok _ _ hr, by simpa using p.hl, fun j h1 h2 => ?_, ?_⟩, rfl, rfl, rfl⟩
  · rw [List.getElem?_set_ne (by omega)]
    exact p.hz j (by omega) h2
  · rw [wv_set p.out p.k 0 r (p.hz p.k (Nat.le_refl _) hk), ← p.hv, drop_at ha, drop_at hb]
    simp only [wv, pw]
    have e1 : s * (b + 1000 * wv (List.drop (p.k + 1) y)) = s * b + 1000 * (s * wv (List.drop (p.k + 1) y)) := by rw [Int.mul_add, Int.mul_left_comm]
    have e2 : p.carry + (a + 1000 * wv (List.drop (p.k + 1) x)) + s * (b + 1000 * wv (List.drop (p.k + 1) y)) = r + 1000 * (q + wv (List.drop (p.k + 1) x) + s * wv (List.drop (p.k + 1) y)) := by
      rw [e1]
      omega
    rw [e2, Int.mul_add (pw p.k) r, ← Int.mul_assoc (pw p.k) 1000, Int.mul_comm (pw p.k) 1000, Int.sub_zero, Int.add_assoc]
theorem wv_bnd : ∀ (l : List Int), wok l → wv l < pw l.length
  | [], _ => by decide
  | d :: r, h => by
    have h1 := h d (by simp)
    have h2 := wv_bnd r fun x hx => h x (by simp [hx])
    simp only [wv, List.length_cons, pw]
    omega
theorem spm_end {x y : List Int} {s : Int} (p : SPM x y s) (hx : x.length = 14) (hy : y.length = 14) (hk : p.k = 14) (hs : s = 1 ∨ s = -1) (h0 : 0 ≤ wv x + s * wv y) (h1 : wv x + s * wv y < pw 14) : p.out = wdig 14 (wv x + s * wv y) := by
  have hb := wv_bnd p.out p.ok
  rw [p.hl] at hb
  have hv := p.hv
  rw [hk, List.drop_eq_nil_of_le (by omega), List.drop_eq_nil_of_le (by omega)] at hv
  simp only [wv, Int.mul_zero, Int.add_zero] at hv
  have hp : pw 14 = 1000000000000000000000000000000000000000000 := by decide
  rw [hp] at h1 hb hv
  have hn := wv_nonneg p.out p.ok
  refine wdig_of p.ok p.hl ?_
  rcases p.hca with h | h <;> rcases hs with h' | h' <;> rw [h] at hv <;> (try rw [h'] at hv h0 h1 ⊢) <;> omega
def spm0 (x y : List Int) (s : Int) : SPM x y s := ⟨0, 0, List.replicate 14 0, by omega, .inl rfl, fun d hd => by rw [(List.mem_replicate.1 hd).2]; omega, by simp, fun j _ h => by rw [List.getElem?_replicate, if_pos h], by
  have : wv (List.replicate 14 0) = 0 := by decide
  rw [this]
  simp [pw]⟩
theorem get_dig {x : List Int} (hx : wok x) (hl : x.length = 14) {k : Nat} (hk : k < 14) : ∃ a, x[k]? = some a ∧ (encI x)[((k : Int)).toNat]? = some (.int a) ∧ 0 ≤ a ∧ a ≤ 999 := by
  obtain ⟨a, ha⟩ := get14 hl hk
  exact ⟨a, ha, encI_get (by rw [Int.toNat_natCast]; exact ha), hx a (List.mem_of_getElem? ha)⟩
theorem plus_ev (x y : List Int) (hx : wok x) (hy : wok y) (lx : x.length = 14) (ly : y.length = 14) (h1 : wv x + wv y < pw 14) : Ev E 123 [.sl (encI x), .sl (encI y)] (.d (.sl (encI (wdig 14 (wv x + wv y))))) := by
  have zx := wv_nonneg x hx
  have zy := wv_nonneg y hy
  have hlx : (encI x).length = 14 := by rw [encI_len]; exact lx
  have hlxz : ((encI x).length : Int) = 14 := by rw [hlx]; rfl
  refine enter2 Tryz.func123 Tryz.ntmps123 rfl rfl fun w0 F0 => ?_
  repeat' (first | (refine qS rfl ?_ ?_; (first | exact True.intro | rfl | assumption | omega | (simp only [inR]; omega) | ((show _ ≤ (9223372036854775807 : Nat)); (try simp only [ByteArray.size_append]); omega) | exact tmod_ok (by omega) (by omega) | exact tdiv_ok (by omega) (by omega) | exact ⟨rfl, by decide, by decide⟩)) | refine qA ?_ | refine qB rfl ?_ | refine qC (by kernel_rfl) ?_ | refine qD ?_ | refine qE ?_ | refine qF ?_ | refine qG ?_ | refine qH rfl ?_ | (refine qS rfl ⟨rfl, by (show 8 * (encI x).length ≤ 281474976710656; omega), by omega⟩ ?_) | (refine qT rfl ?_ ?_; (first | rfl | assumption)) | (refine qU rfl ?_ ?_; (first | rfl | assumption)) | refine qL rfl rfl ?_ | refine qM rfl rfl rfl ?_ | refine qO rfl rfl rfl ?_ | refine qX (b' := true) rfl rfl rfl rfl (by assumption) ?_ | refine qX (b' := false) rfl rfl rfl rfl (by assumption) ?_ | (refine qY rfl rfl rfl rfl ?_ ?_ <;> intro _) | exact (rfl : (_ : D) = _) | exact (rfl : (_ : List D) = _))
  refine go_loop_ (α := SPM x y 1) (fun p => ⟨[(0, .d (.sl (encI x))), (1, .d (.sl (encI y))), (5, .own 0), (6, .d (.int p.carry)), (7, .d (.int p.k))], [.row 3 1 (encI p.out)]⟩) (fun p => 14 - p.k) (spm0 x y 1) (by rw [hlx]; exact (Le.of' 1 rfl (by repeat (first | exact trivial | refine ⟨⟨rfl, rfl⟩, ?_⟩)) (by repeat (first | exact trivial | refine ⟨rfl, ?_⟩)))) ?_
  intro p
  have hkk := p.hk
  rcases Nat.lt_or_ge p.k 14 with hlt | hge
  · have hd : decide ((p.k : Int) < ((encI x).length : Int)) = true := by rw [hlx]; simp; omega
    obtain ⟨a, a1, a2, a3⟩ := get_dig hx lx hlt
    obtain ⟨b, b1, b2, b3⟩ := get_dig hy ly hlt
    have c2 : (encI p.out)[((p.k : Int)).toNat]? = some (.int 0) := encI_get (by rw [Int.toNat_natCast]; exact p.hz p.k (Nat.le_refl _) hlt)
    have hle : (encI p.out).length = 14 := by rw [encI_len]; exact p.hl
    have hca := p.hca
    have t0 : 0 ≤ p.carry + a + b := by omega
    obtain ⟨p', e1, e2, e3⟩ := spm_next p hlt a1 b1 (r := (p.carry + a + b).tmod 1000) (q := (p.carry + a + b).tdiv 1000) (by rw [Int.tmod_eq_emod_of_nonneg t0, Int.tdiv_eq_ediv_of_nonneg t0]; omega) (by rw [Int.tmod_eq_emod_of_nonneg t0]; omega) (by rw [Int.tdiv_eq_ediv_of_nonneg t0]; omega)
    repeat' (first | (refine qS rfl ?_ ?_; (first | exact True.intro | rfl | assumption | omega | (simp only [inR]; omega) | ((show _ ≤ (9223372036854775807 : Nat)); (try simp only [ByteArray.size_append]); omega) | exact tmod_ok (by omega) (by omega) | exact tdiv_ok (by omega) (by omega) | exact ⟨rfl, by decide, by decide⟩)) | refine qA ?_ | refine qB rfl ?_ | refine qC (by kernel_rfl) ?_ | refine qD ?_ | refine qE ?_ | refine qF ?_ | refine qG ?_ | refine qH rfl ?_ | refine qI (.int a) rfl (guardX_ok rfl) rfl rfl rfl rfl rfl rfl (by first | omega | decide) a2 ?_ | refine qI (.int b) rfl (guardX_ok rfl) rfl rfl rfl rfl rfl rfl (by first | omega | decide) b2 ?_ | refine qZ (.int 0) rfl rfl rfl rfl rfl rfl c2 rfl rfl rfl ?_ | (refine qT rfl ?_ ?_; (first | rfl | assumption)) | (refine qU rfl ?_ ?_; (first | rfl | assumption)) | refine qL rfl rfl ?_ | refine qM rfl rfl rfl ?_ | refine qO rfl rfl rfl ?_ | refine qX (b' := true) rfl rfl rfl rfl (by assumption) ?_ | refine qX (b' := false) rfl rfl rfl rfl (by assumption) ?_ | (refine qY rfl rfl rfl rfl ?_ ?_ <;> intro _) | exact (rfl : (_ : D) = _) | exact (rfl : (_ : List D) = _))
    refine go_stop ?_
    refine ⟨p', by omega, ?_⟩
    rw [e1, e2, e3, ← own_set p.out p.k 0]
    exact (Le.of' 1 rfl (by repeat (first | exact trivial | refine ⟨⟨rfl, rfl⟩, ?_⟩)) (by repeat (first | exact trivial | refine ⟨rfl, ?_⟩)))
  · have hd : decide ((p.k : Int) < ((encI x).length : Int)) = false := by rw [hlx]; simp; omega
    have hend := spm_end p lx ly (by omega) (.inl rfl) (by omega) (by omega)
    rw [Int.one_mul] at hend
    rw [← hend]
    repeat' (first | (refine qS rfl ?_ ?_; (first | exact True.intro | rfl | assumption | omega | (simp only [inR]; omega) | ((show _ ≤ (9223372036854775807 : Nat)); (try simp only [ByteArray.size_append]); omega) | exact tmod_ok (by omega) (by omega) | exact tdiv_ok (by omega) (by omega) | exact ⟨rfl, by decide, by decide⟩)) | refine qA ?_ | refine qB rfl ?_ | refine qC (by kernel_rfl) ?_ | refine qD ?_ | refine qE ?_ | refine qF ?_ | refine qG ?_ | refine qH rfl ?_ | (refine qT rfl ?_ ?_; (first | rfl | assumption)) | (refine qU rfl ?_ ?_; (first | rfl | assumption)) | refine qL rfl rfl ?_ | refine qM rfl rfl rfl ?_ | refine qO rfl rfl rfl ?_ | refine qX (b' := true) rfl rfl rfl rfl (by assumption) ?_ | refine qX (b' := false) rfl rfl rfl rfl (by assumption) ?_ | (refine qY rfl rfl rfl rfl ?_ ?_ <;> intro _) | exact (rfl : (_ : D) = _) | exact (rfl : (_ : List D) = _))
    refine go_frz 0 rfl ?_
    repeat' (first | (refine qS rfl ?_ ?_; (first | exact True.intro | rfl | assumption | omega | (simp only [inR]; omega) | ((show _ ≤ (9223372036854775807 : Nat)); (try simp only [ByteArray.size_append]); omega) | exact tmod_ok (by omega) (by omega) | exact tdiv_ok (by omega) (by omega) | exact ⟨rfl, by decide, by decide⟩)) | refine qA ?_ | refine qB rfl ?_ | refine qC (by kernel_rfl) ?_ | refine qD ?_ | refine qE ?_ | refine qF ?_ | refine qG ?_ | refine qH rfl ?_ | (refine qT rfl ?_ ?_; (first | rfl | assumption)) | (refine qU rfl ?_ ?_; (first | rfl | assumption)) | refine qL rfl rfl ?_ | refine qM rfl rfl rfl ?_ | refine qO rfl rfl rfl ?_ | refine qX (b' := true) rfl rfl rfl rfl (by assumption) ?_ | refine qX (b' := false) rfl rfl rfl rfl (by assumption) ?_ | (refine qY rfl rfl rfl rfl ?_ ?_ <;> intro _) | exact (rfl : (_ : D) = _) | exact (rfl : (_ : List D) = _))
theorem minus_ev (x y : List Int) (hx : wok x) (hy : wok y) (lx : x.length = 14) (ly : y.length = 14) (h1 : wv y ≤ wv x) : Ev E 125 [.sl (encI x), .sl (encI y)] (.d (.sl (encI (wdig 14 (wv x - wv y))))) := by
  have zx := wv_bnd x hx
  rw [lx] at zx
  have zy := wv_nonneg y hy
  have hlx : (encI x).length = 14 := by rw [encI_len]; exact lx
  refine enter2 Tryz.func125 Tryz.ntmps125 rfl rfl fun w0 F0 => ?_
  repeat' (first | (refine qS rfl ?_ ?_; (first | exact True.intro | rfl | assumption | omega | (simp only [inR]; omega) | ((show _ ≤ (9223372036854775807 : Nat)); (try simp only [ByteArray.size_append]); omega) | exact tmod_ok (by omega) (by omega) | exact tdiv_ok (by omega) (by omega) | exact ⟨rfl, by decide, by decide⟩)) | refine qA ?_ | refine qB rfl ?_ | refine qC (by kernel_rfl) ?_ | refine qD ?_ | refine qE ?_ | refine qF ?_ | refine qG ?_ | refine qH rfl ?_ | (refine qS rfl ⟨rfl, by (show 8 * (encI x).length ≤ 281474976710656; omega), by omega⟩ ?_) | (refine qT rfl ?_ ?_; (first | rfl | assumption)) | (refine qU rfl ?_ ?_; (first | rfl | assumption)) | refine qL rfl rfl ?_ | refine qM rfl rfl rfl ?_ | refine qO rfl rfl rfl ?_ | refine qX (b' := true) rfl rfl rfl rfl (by assumption) ?_ | refine qX (b' := false) rfl rfl rfl rfl (by assumption) ?_ | (refine qY rfl rfl rfl rfl ?_ ?_ <;> intro _) | exact (rfl : (_ : D) = _) | exact (rfl : (_ : List D) = _))
  refine go_loop_ (α := SPM x y (-1)) (fun p => ⟨[(0, .d (.sl (encI x))), (1, .d (.sl (encI y))), (5, .own 0), (6, .d (.int p.carry)), (7, .d (.int p.k))], [.row 3 1 (encI p.out)]⟩) (fun p => 14 - p.k) (spm0 x y (-1)) (by rw [hlx]; exact (Le.of' 1 rfl (by repeat (first | exact trivial | refine ⟨⟨rfl, rfl⟩, ?_⟩)) (by repeat (first | exact trivial | refine ⟨rfl, ?_⟩)))) ?_
  intro p
  have hkk := p.hk
  rcases Nat.lt_or_ge p.k 14 with hlt | hge
  · have hd : decide ((p.k : Int) < ((encI x).length : Int)) = true := by rw [hlx]; simp; omega
    obtain ⟨a, a1, a2, a3⟩ := get_dig hx lx hlt
    obtain ⟨b, b1, b2, b3⟩ := get_dig hy ly hlt
    have c2 : (encI p.out)[((p.k : Int)).toNat]? = some (.int 0) := encI_get (by rw [Int.toNat_natCast]; exact p.hz p.k (Nat.le_refl _) hlt)
    have hle : (encI p.out).length = 14 := by rw [encI_len]; exact p.hl
    have hca := p.hca
    by_cases hneg : p.carry + a - b < 0
    · have g1 : decide (p.carry + a - b < 0) = true := by simpa using hneg
      obtain ⟨p', e1, e2, e3⟩ := spm_next p hlt a1 b1 (r := p.carry + a - b + 1000) (q := -1) (by omega) (by omega) (by omega)
      repeat' (first | (refine qS rfl ?_ ?_; (first | exact True.intro | rfl | assumption | omega | (simp only [inR]; omega) | ((show _ ≤ (9223372036854775807 : Nat)); (try simp only [ByteArray.size_append]); omega) | exact tmod_ok (by omega) (by omega) | exact tdiv_ok (by omega) (by omega) | exact ⟨rfl, by decide, by decide⟩)) | refine qA ?_ | refine qB rfl ?_ | refine qC (by kernel_rfl) ?_ | refine qD ?_ | refine qE ?_ | refine qF ?_ | refine qG ?_ | refine qH rfl ?_ | refine qI (.int a) rfl (guardX_ok rfl) rfl rfl rfl rfl rfl rfl (by first | omega | decide) a2 ?_ | refine qI (.int b) rfl (guardX_ok rfl) rfl rfl rfl rfl rfl rfl (by first | omega | decide) b2 ?_ | refine qZ (.int 0) rfl rfl rfl rfl rfl rfl c2 rfl rfl rfl ?_ | (refine qT rfl ?_ ?_; (first | rfl | assumption)) | (refine qU rfl ?_ ?_; (first | rfl | assumption)) | refine qL rfl rfl ?_ | refine qM rfl rfl rfl ?_ | refine qO rfl rfl rfl ?_ | refine qX (b' := true) rfl rfl rfl rfl (by assumption) ?_ | refine qX (b' := false) rfl rfl rfl rfl (by assumption) ?_ | (refine qY rfl rfl rfl rfl ?_ ?_ <;> intro _) | exact (rfl : (_ : D) = _) | exact (rfl : (_ : List D) = _))
      refine go_stop ?_
      refine ⟨p', by omega, ?_⟩
      rw [e1, e2, e3, ← own_set p.out p.k 0]
      exact (Le.of' 1 rfl (by repeat (first | exact trivial | refine ⟨⟨rfl, rfl⟩, ?_⟩)) (by repeat (first | exact trivial | refine ⟨rfl, ?_⟩)))
    · have g1 : decide (p.carry + a - b < 0) = false := by simpa using hneg
      obtain ⟨p', e1, e2, e3⟩ := spm_next p hlt a1 b1 (r := p.carry + a - b) (q := 0) (by omega) (by omega) (by omega)
      repeat' (first | (refine qS rfl ?_ ?_; (first | exact True.intro | rfl | assumption | omega | (simp only [inR]; omega) | ((show _ ≤ (9223372036854775807 : Nat)); (try simp only [ByteArray.size_append]); omega) | exact tmod_ok (by omega) (by omega) | exact tdiv_ok (by omega) (by omega) | exact ⟨rfl, by decide, by decide⟩)) | refine qA ?_ | refine qB rfl ?_ | refine qC (by kernel_rfl) ?_ | refine qD ?_ | refine qE ?_ | refine qF ?_ | refine qG ?_ | refine qH rfl ?_ | refine qI (.int a) rfl (guardX_ok rfl) rfl rfl rfl rfl rfl rfl (by first | omega | decide) a2 ?_ | refine qI (.int b) rfl (guardX_ok rfl) rfl rfl rfl rfl rfl rfl (by first | omega | decide) b2 ?_ | refine qZ (.int 0) rfl rfl rfl rfl rfl rfl c2 rfl rfl rfl ?_ | (refine qT rfl ?_ ?_; (first | rfl | assumption)) | (refine qU rfl ?_ ?_; (first | rfl | assumption)) | refine qL rfl rfl ?_ | refine qM rfl rfl rfl ?_ | refine qO rfl rfl rfl ?_ | refine qX (b' := true) rfl rfl rfl rfl (by assumption) ?_ | refine qX (b' := false) rfl rfl rfl rfl (by assumption) ?_ | (refine qY rfl rfl rfl rfl ?_ ?_ <;> intro _) | exact (rfl : (_ : D) = _) | exact (rfl : (_ : List D) = _))
      refine go_stop ?_
      refine ⟨p', by omega, ?_⟩
      rw [e1, e2, e3, ← own_set p.out p.k 0]
      exact (Le.of' 1 rfl (by repeat (first | exact trivial | refine ⟨⟨rfl, rfl⟩, ?_⟩)) (by repeat (first | exact trivial | refine ⟨rfl, ?_⟩)))
  · have hd : decide ((p.k : Int) < ((encI x).length : Int)) = false := by rw [hlx]; simp; omega
    have hend := spm_end p lx ly (by omega) (.inr rfl) (by omega) (by omega)
    rw [show wv x + -1 * wv y = wv x - wv y from by omega] at hend
    rw [← hend]
    repeat' (first | (refine qS rfl ?_ ?_; (first | exact True.intro | rfl | assumption | omega | (simp only [inR]; omega) | ((show _ ≤ (9223372036854775807 : Nat)); (try simp only [ByteArray.size_append]); omega) | exact tmod_ok (by omega) (by omega) | exact tdiv_ok (by omega) (by omega) | exact ⟨rfl, by decide, by decide⟩)) | refine qA ?_ | refine qB rfl ?_ | refine qC (by kernel_rfl) ?_ | refine qD ?_ | refine qE ?_ | refine qF ?_ | refine qG ?_ | refine qH rfl ?_ | (refine qT rfl ?_ ?_; (first | rfl | assumption)) | (refine qU rfl ?_ ?_; (first | rfl | assumption)) | refine qL rfl rfl ?_ | refine qM rfl rfl rfl ?_ | refine qO rfl rfl rfl ?_ | refine qX (b' := true) rfl rfl rfl rfl (by assumption) ?_ | refine qX (b' := false) rfl rfl rfl rfl (by assumption) ?_ | (refine qY rfl rfl rfl rfl ?_ ?_ <;> intro _) | exact (rfl : (_ : D) = _) | exact (rfl : (_ : List D) = _))
    refine go_frz 0 rfl ?_
    repeat' (first | (refine qS rfl ?_ ?_; (first | exact True.intro | rfl | assumption | omega | (simp only [inR]; omega) | ((show _ ≤ (9223372036854775807 : Nat)); (try simp only [ByteArray.size_append]); omega) | exact tmod_ok (by omega) (by omega) | exact tdiv_ok (by omega) (by omega) | exact ⟨rfl, by decide, by decide⟩)) | refine qA ?_ | refine qB rfl ?_ | refine qC (by kernel_rfl) ?_ | refine qD ?_ | refine qE ?_ | refine qF ?_ | refine qG ?_ | refine qH rfl ?_ | (refine qT rfl ?_ ?_; (first | rfl | assumption)) | (refine qU rfl ?_ ?_; (first | rfl | assumption)) | refine qL rfl rfl ?_ | refine qM rfl rfl rfl ?_ | refine qO rfl rfl rfl ?_ | refine qX (b' := true) rfl rfl rfl rfl (by assumption) ?_ | refine qX (b' := false) rfl rfl rfl rfl (by assumption) ?_ | (refine qY rfl rfl rfl rfl ?_ ?_ <;> intro _) | exact (rfl : (_ : D) = _) | exact (rfl : (_ : List D) = _))
theorem wv_split : ∀ (l : List Int) (k : Nat), k ≤ l.length → wv l = wv (l.take k) + pw k * wv (l.drop k)
  | l, 0, _ => by simp [wv, pw]
  | [], k + 1, h => by simp at h
  | d :: r, k + 1, h => by
    simp only [List.take_succ_cons, List.drop_succ_cons, wv, pw]
    rw [wv_split r k (by simpa using h), Int.mul_add, Int.mul_assoc]
    omega
theorem wv_lt {x y : List Int} (hx : wok x) (lx : x.length = 14) (ly : y.length = 14) (hy : wok y) {k : Nat} (hk : k < 14) {a b : Int} (ha : x[k]? = some a) (hb : y[k]? = some b) (he : x.drop (k + 1) = y.drop (k + 1)) (hab : a < b) : wv x < wv y := by
  rw [wv_split x k (by omega), wv_split y k (by omega), drop_at ha, drop_at hb, he]
  simp only [wv]
  have h1 := wv_bnd (x.take k) fun d hd => hx d (List.mem_of_mem_take hd)
  have h2 := wv_nonneg (y.take k) fun d hd => hy d (List.mem_of_mem_take hd)
  rw [List.length_take, lx, Nat.min_eq_left (by omega)] at h1
  have h3 : pw k * (a + 1000 * wv (List.drop (k + 1) y)) + pw k ≤ pw k * (b + 1000 * wv (List.drop (k + 1) y)) := by
    have := Int.mul_le_mul_of_nonneg_left (show a + 1000 * wv (List.drop (k + 1) y) + 1 ≤ b + 1000 * wv (List.drop (k + 1) y) by omega) (show 0 ≤ pw k by have := pw_pos k; omega)
    rw [Int.mul_add _ _ 1, Int.mul_one] at this
    exact this
  omega
structure SO (x y : List Int) where
  n : Nat
  hn : n ≤ 14
  he : x.drop n = y.drop n
theorem order_ev (x y : List Int) (hx : wok x) (hy : wok y) (lx : x.length = 14) (ly : y.length = 14) : Ev E 124 [.sl (encI x), .sl (encI y)] (.d (.int (sgn (wv x - wv y)))) := by
  have hlx : (encI x).length = 14 := by rw [encI_len]; exact lx
  refine enter2 Tryz.func124 Tryz.ntmps124 rfl rfl fun w0 F0 => ?_
  repeat' (first | (refine qS rfl ?_ ?_; (first | exact True.intro | rfl | assumption | omega | (simp only [inR]; omega) | ((show _ ≤ (9223372036854775807 : Nat)); (try simp only [ByteArray.size_append]); omega) | exact tmod_ok (by omega) (by omega) | exact tdiv_ok (by omega) (by omega) | exact ⟨rfl, by decide, by decide⟩)) | refine qA ?_ | refine qB rfl ?_ | refine qC (by kernel_rfl) ?_ | refine qD ?_ | refine qE ?_ | refine qF ?_ | refine qG ?_ | refine qH rfl ?_ | (refine qT rfl ?_ ?_; (first | rfl | assumption)) | (refine qU rfl ?_ ?_; (first | rfl | assumption)) | refine qL rfl rfl ?_ | refine qM rfl rfl rfl ?_ | refine qO rfl rfl rfl ?_ | refine qX (b' := true) rfl rfl rfl rfl (by assumption) ?_ | refine qX (b' := false) rfl rfl rfl rfl (by assumption) ?_ | (refine qY rfl rfl rfl rfl ?_ ?_ <;> intro _) | exact (rfl : (_ : D) = _) | exact (rfl : (_ : List D) = _))
  refine go_loop_ (α := SO x y) (fun p => ⟨[(0, .d (.sl (encI x))), (1, .d (.sl (encI y))), (5, .d (.int ((p.n : Int) - 1)))], []⟩) (fun p => p.n) ⟨14, by omega, by rw [List.drop_eq_nil_of_le (by omega), List.drop_eq_nil_of_le (by omega)]⟩ (by rw [hlx]; exact (Le.of' 0 rfl (by repeat (first | exact trivial | refine ⟨⟨rfl, rfl⟩, ?_⟩)) (by repeat (first | exact trivial | refine ⟨rfl, ?_⟩)))) ?_
  rintro ⟨n, hn, he⟩
  dsimp only
  match n, hn, he with
  | 0, _, he =>
    have g1 : decide (((0 : Nat) : Int) - 1 ≥ 0) = false := by decide
    have : x = y := by simpa using he
    repeat' (first | (refine qS rfl ?_ ?_; (first | exact True.intro | rfl | assumption | omega | (simp only [inR]; omega) | ((show _ ≤ (9223372036854775807 : Nat)); (try simp only [ByteArray.size_append]); omega) | exact tmod_ok (by omega) (by omega) | exact tdiv_ok (by omega) (by omega) | exact ⟨rfl, by decide, by decide⟩)) | refine qA ?_ | refine qB rfl ?_ | refine qC (by kernel_rfl) ?_ | refine qD ?_ | refine qE ?_ | refine qF ?_ | refine qG ?_ | refine qH rfl ?_ | (refine qT rfl ?_ ?_; (first | rfl | assumption)) | (refine qU rfl ?_ ?_; (first | rfl | assumption)) | refine qL rfl rfl ?_ | refine qM rfl rfl rfl ?_ | refine qO rfl rfl rfl ?_ | refine qX (b' := true) rfl rfl rfl rfl (by assumption) ?_ | refine qX (b' := false) rfl rfl rfl rfl (by assumption) ?_ | (refine qY rfl rfl rfl rfl ?_ ?_ <;> intro _) | exact (rfl : (_ : D) = _) | exact (rfl : (_ : List D) = _))
    rw [this, Int.sub_self]
    rfl
  | k + 1, hn, he =>
    have hk : (((k + 1 : Nat) : Int) - 1) = (k : Int) := by omega
    rw [hk]
    have g1 : decide ((k : Int) ≥ 0) = true := by simp
    obtain ⟨a, a1, a2, a3⟩ := get_dig hx lx (show k < 14 by omega)
    obtain ⟨b, b1, b2, b3⟩ := get_dig hy ly (show k < 14 by omega)
    by_cases h1 : a < b
    · have g2 : decide (a < b) = true := by simpa using h1
      have := wv_lt hx lx ly hy (by omega) a1 b1 he h1
      repeat' (first | (refine qS rfl ?_ ?_; (first | exact True.intro | rfl | assumption | omega | (simp only [inR]; omega) | ((show _ ≤ (9223372036854775807 : Nat)); (try simp only [ByteArray.size_append]); omega) | exact tmod_ok (by omega) (by omega) | exact tdiv_ok (by omega) (by omega) | exact ⟨rfl, by decide, by decide⟩)) | refine qA ?_ | refine qB rfl ?_ | refine qC (by kernel_rfl) ?_ | refine qD ?_ | refine qE ?_ | refine qF ?_ | refine qG ?_ | refine qH rfl ?_ | refine qI (.int a) rfl (guardX_ok rfl) rfl rfl rfl rfl rfl rfl (by first | omega | decide) a2 ?_ | refine qI (.int b) rfl (guardX_ok rfl) rfl rfl rfl rfl rfl rfl (by first | omega | decide) b2 ?_ | (refine qT rfl ?_ ?_; (first | rfl | assumption)) | (refine qU rfl ?_ ?_; (first | rfl | assumption)) | refine qL rfl rfl ?_ | refine qM rfl rfl rfl ?_ | refine qO rfl rfl rfl ?_ | refine qX (b' := true) rfl rfl rfl rfl (by assumption) ?_ | refine qX (b' := false) rfl rfl rfl rfl (by assumption) ?_ | (refine qY rfl rfl rfl rfl ?_ ?_ <;> intro _) | exact (rfl : (_ : D) = _) | exact (rfl : (_ : List D) = _))
      unfold sgn
      rw [if_pos (by omega)]
    · have g2 : decide (a < b) = false := by simpa using h1
      by_cases h2 : a > b
      · have g3 : decide (a > b) = true := by simpa using h2
        have := wv_lt hy ly lx hx (by omega) b1 a1 he.symm h2
        repeat' (first | (refine qS rfl ?_ ?_; (first | exact True.intro | rfl | assumption | omega | (simp only [inR]; omega) | ((show _ ≤ (9223372036854775807 : Nat)); (try simp only [ByteArray.size_append]); omega) | exact tmod_ok (by omega) (by omega) | exact tdiv_ok (by omega) (by omega) | exact ⟨rfl, by decide, by decide⟩)) | refine qA ?_ | refine qB rfl ?_ | refine qC (by kernel_rfl) ?_ | refine qD ?_ | refine qE ?_ | refine qF ?_ | refine qG ?_ | refine qH rfl ?_ | refine qI (.int a) rfl (guardX_ok rfl) rfl rfl rfl rfl rfl rfl (by first | omega | decide) a2 ?_ | refine qI (.int b) rfl (guardX_ok rfl) rfl rfl rfl rfl rfl rfl (by first | omega | decide) b2 ?_ | (refine qT rfl ?_ ?_; (first | rfl | assumption)) | (refine qU rfl ?_ ?_; (first | rfl | assumption)) | refine qL rfl rfl ?_ | refine qM rfl rfl rfl ?_ | refine qO rfl rfl rfl ?_ | refine qX (b' := true) rfl rfl rfl rfl (by assumption) ?_ | refine qX (b' := false) rfl rfl rfl rfl (by assumption) ?_ | (refine qY rfl rfl rfl rfl ?_ ?_ <;> intro _) | exact (rfl : (_ : D) = _) | exact (rfl : (_ : List D) = _))
        unfold sgn
        rw [if_neg (by omega), if_pos (by omega)]
      · have g3 : decide (a > b) = false := by simpa using h2
        repeat' (first | (refine qS rfl ?_ ?_; (first | exact True.intro | rfl | assumption | omega | (simp only [inR]; omega) | ((show _ ≤ (9223372036854775807 : Nat)); (try simp only [ByteArray.size_append]); omega) | exact tmod_ok (by omega) (by omega) | exact tdiv_ok (by omega) (by omega) | exact ⟨rfl, by decide, by decide⟩)) | refine qA ?_ | refine qB rfl ?_ | refine qC (by kernel_rfl) ?_ | refine qD ?_ | refine qE ?_ | refine qF ?_ | refine qG ?_ | refine qH rfl ?_ | refine qI (.int a) rfl (guardX_ok rfl) rfl rfl rfl rfl rfl rfl (by first | omega | decide) a2 ?_ | refine qI (.int b) rfl (guardX_ok rfl) rfl rfl rfl rfl rfl rfl (by first | omega | decide) b2 ?_ | (refine qT rfl ?_ ?_; (first | rfl | assumption)) | (refine qU rfl ?_ ?_; (first | rfl | assumption)) | refine qL rfl rfl ?_ | refine qM rfl rfl rfl ?_ | refine qO rfl rfl rfl ?_ | refine qX (b' := true) rfl rfl rfl rfl (by assumption) ?_ | refine qX (b' := false) rfl rfl rfl rfl (by assumption) ?_ | (refine qY rfl rfl rfl rfl ?_ ?_ <;> intro _) | exact (rfl : (_ : D) = _) | exact (rfl : (_ : List D) = _))
        refine go_stop ?_
        refine ⟨⟨k, by omega, ?_⟩, by dsimp only; omega, (Le.of' 0 rfl (by repeat (first | exact trivial | refine ⟨⟨rfl, rfl⟩, ?_⟩)) (by repeat (first | exact trivial | refine ⟨rfl, ?_⟩)))⟩
        rw [drop_at a1, drop_at b1, he, show a = b from by omega]
end Go.Proofs.YtpjnngfjbcjikaaGreatDoor
