/- The program's values as text. Conditions: a text of at most 2^40 bytes. -/
import Derived.Test.YtpjnngfjbcjikaaDoorM20
namespace Go.Proofs.YtpjnngfjbcjikaaDoor
open Go Go.Abs Go.Val Go.RowKit
attribute [local irreducible] go SGo HasBody Ev ExtEv

def strD (xs : List (List UInt8)) : List D := xs.map fun t => .str (bs t)
structure STx (l : List V) where
  i : Nat
  hi : i ≤ l.length
theorem take_at {l : List V} {i : Nat} {x : V} (h : l[i]? = some x) : strD ((l.take (i + 1)).map txt) = strD ((l.take i).map txt) ++ [.str (bs (txt x))] := by
  have hi := (List.getElem?_eq_some_iff.1 h).1
  rw [List.take_succ_eq_append_getElem hi]
  rw [List.getElem?_eq_getElem hi] at h
  cases h
  simp only [strD, List.map_append, List.map_cons, List.map_nil]
theorem texts_ev (l : List V) (sep : List UInt8) (hT : ∀ x ∈ l, Ev E 11 [enc x] (.d (.str (bs (txt x))))) (hn : l.length ≤ 1000000) (hlen : (Lib.join (l.map txt) sep).length ≤ 1099511627776) :
    Ev E 32 [.sl (encL l), .str (bs sep)] (.d (.str (bs (Lib.join (l.map txt) sep)))) := by
  have hle : (encL l).length = l.length := encL_len l
  have e1 : (l.map fun x => bs (txt x)).map D.str = strD (l.map txt) := by simp [strD]
  have e2 : (l.map fun x => bs (txt x)).map (·.data.toList) = l.map txt := by simp [bs_data]
  have hj := join_ev (l.map fun x => bs (txt x)) (bs sep) (by simp; omega) (by rw [e2, bs_data]; omega)
  rw [e1, e2, bs_data] at hj
  refine enter2 Tryd.func32 Tryd.ntmps32 rfl rfl fun w0 F0 => ?_
  repeat' (first | (refine qS rfl ?_ ?_; (first | exact True.intro | rfl | assumption | omega | (simp only [inR]; omega) | ((show _ ≤ (9223372036854775807 : Nat)); (try simp only [ByteArray.size_append]); omega) | exact tmod_ok (by omega) (by omega) | exact tdiv_ok (by omega) (by omega) | exact ⟨rfl, by decide, by decide⟩)) | refine qA ?_ | refine qB rfl ?_ | refine qC (by kernel_rfl) ?_ | refine qD ?_ | refine qE ?_ | refine qF ?_ | refine qG ?_ | refine qH rfl ?_ | (refine qT rfl ?_ ?_; (first | rfl | assumption)) | (refine qU rfl ?_ ?_; (first | rfl | assumption)) | refine qL rfl rfl ?_ | refine qM rfl rfl rfl ?_ | refine qO rfl rfl rfl ?_ | refine qX (b' := true) rfl rfl rfl rfl (by assumption) ?_ | refine qX (b' := false) rfl rfl rfl rfl (by assumption) ?_ | (refine qY rfl rfl rfl rfl ?_ ?_ <;> intro _) | exact (rfl : (_ : D) = _) | exact (rfl : (_ : List D) = _))
  refine go_loop_ (α := STx l) (fun p => ⟨[(1, .d (.str (bs sep))), (5, rowX (strD ((l.take p.i).map txt))), (8, .d (.sl (encL l))), (9, .d (.int (encL l).length)), (10, .d (.int p.i))], rowO 9 1 (strD ((l.take p.i).map txt))⟩) (fun p => l.length - p.i) ⟨0, by omega⟩ (by rw [List.take_zero]; exact (Le.of' 0 rfl (by repeat (first | exact trivial | refine ⟨⟨rfl, rfl⟩, ?_⟩)) (by repeat (first | exact trivial | refine ⟨rfl, ?_⟩)))) ?_
  rintro ⟨i, hi⟩
  dsimp only
  rcases Nat.lt_or_ge i l.length with hlt | hge
  · have g1 : decide ((i : Int) < ((encL l).length : Int)) = true := by rw [hle]; simpa using hlt
    have hx0 := List.getElem?_eq_getElem hlt
    generalize l[i] = x at hx0
    have hx : (encL l)[(i : Int).toNat]? = some (enc x) := encL_get (by rw [Int.toNat_natCast]; exact hx0)
    have ht := hT x (List.mem_of_getElem? hx0)
    have hta := take_at hx0
    have hll : (strD ((l.take i).map txt)).length ≤ i := by simp [strD]; omega
    generalize strD ((l.take i).map txt) = out at *
    match out, hll with
    | [], hll =>
      dsimp only [rowX, rowO]
      repeat' (first | (refine qS rfl ?_ ?_; (first | exact True.intro | rfl | assumption | omega | (simp only [inR]; omega) | ((show _ ≤ (9223372036854775807 : Nat)); (try simp only [ByteArray.size_append]); omega) | exact tmod_ok (by omega) (by omega) | exact tdiv_ok (by omega) (by omega) | exact ⟨rfl, by decide, by decide⟩)) | refine qA ?_ | refine qB rfl ?_ | refine qC (by kernel_rfl) ?_ | refine qD ?_ | refine qE ?_ | refine qF ?_ | refine qG ?_ | refine qH rfl ?_ | refine qI (enc x) rfl (guardX_ok rfl) rfl rfl rfl rfl rfl rfl (by first | omega | decide) hx ?_ | refine qP rfl rfl rfl rfl rfl rfl b11 (ht) ?_ | (refine qS rfl ⟨by simp, by simp [D.cells]; rfl, by (show (0 + 1) * 16 ≤ 140737488355328; omega), by (show 0 + 1 ≤ 9223372036854775807; omega)⟩ ?_) | (refine qT rfl ?_ ?_; (first | rfl | assumption)) | (refine qU rfl ?_ ?_; (first | rfl | assumption)) | refine qL rfl rfl ?_ | refine qM rfl rfl rfl ?_ | refine qO rfl rfl rfl ?_ | refine qX (b' := true) rfl rfl rfl rfl (by assumption) ?_ | refine qX (b' := false) rfl rfl rfl rfl (by assumption) ?_ | (refine qY rfl rfl rfl rfl ?_ ?_ <;> intro _) | exact (rfl : (_ : D) = _) | exact (rfl : (_ : List D) = _))
      refine go_stop ?_
      refine ⟨⟨i + 1, by omega⟩, by dsimp only; omega, ?_⟩
      dsimp only
      rw [hta]
      exact (Le.ren [1] rfl rfl (by repeat (first | exact trivial | refine ⟨rfl, ?_⟩)))
    | a :: q, hll =>
      dsimp only [rowX, rowO]
      repeat' (first | (refine qS rfl ?_ ?_; (first | exact True.intro | rfl | assumption | omega | (simp only [inR]; omega) | ((show _ ≤ (9223372036854775807 : Nat)); (try simp only [ByteArray.size_append]); omega) | exact tmod_ok (by omega) (by omega) | exact tdiv_ok (by omega) (by omega) | exact ⟨rfl, by decide, by decide⟩)) | refine qA ?_ | refine qB rfl ?_ | refine qC (by kernel_rfl) ?_ | refine qD ?_ | refine qE ?_ | refine qF ?_ | refine qG ?_ | refine qH rfl ?_ | refine qI (enc x) rfl (guardX_ok rfl) rfl rfl rfl rfl rfl rfl (by first | omega | decide) hx ?_ | refine qP rfl rfl rfl rfl rfl rfl b11 (ht) ?_ | (refine qS rfl ⟨by simp, by simp [D.cells]; rfl, by (show ((a :: q).length + 1) * 16 ≤ 140737488355328; omega), by (show (a :: q).length + 1 ≤ 9223372036854775807; omega)⟩ ?_) | (refine qT rfl ?_ ?_; (first | rfl | assumption)) | (refine qU rfl ?_ ?_; (first | rfl | assumption)) | refine qL rfl rfl ?_ | refine qM rfl rfl rfl ?_ | refine qO rfl rfl rfl ?_ | refine qX (b' := true) rfl rfl rfl rfl (by assumption) ?_ | refine qX (b' := false) rfl rfl rfl rfl (by assumption) ?_ | (refine qY rfl rfl rfl rfl ?_ ?_ <;> intro _) | exact (rfl : (_ : D) = _) | exact (rfl : (_ : List D) = _))
      refine go_stop ?_
      refine ⟨⟨i + 1, by omega⟩, by dsimp only; omega, ?_⟩
      dsimp only
      rw [hta]
      exact (Le.ren [2] rfl rfl (by repeat (first | exact trivial | refine ⟨rfl, ?_⟩)))
  · have g1 : decide ((i : Int) < ((encL l).length : Int)) = false := by rw [hle]; simp; omega
    rw [List.take_of_length_le hge]
    generalize strD (l.map txt) = out at *
    match out, hj with
    | [], hj =>
      dsimp only [rowX, rowO]
      repeat' (first | (refine qS rfl ?_ ?_; (first | exact True.intro | rfl | assumption | omega | (simp only [inR]; omega) | ((show _ ≤ (9223372036854775807 : Nat)); (try simp only [ByteArray.size_append]); omega) | exact tmod_ok (by omega) (by omega) | exact tdiv_ok (by omega) (by omega) | exact ⟨rfl, by decide, by decide⟩)) | refine qA ?_ | refine qB rfl ?_ | refine qC (by kernel_rfl) ?_ | refine qD ?_ | refine qE ?_ | refine qF ?_ | refine qG ?_ | refine qH rfl ?_ | refine qP rfl rfl rfl rfl rfl rfl b50 (hj) ?_ | (refine qT rfl ?_ ?_; (first | rfl | assumption)) | (refine qU rfl ?_ ?_; (first | rfl | assumption)) | refine qL rfl rfl ?_ | refine qM rfl rfl rfl ?_ | refine qO rfl rfl rfl ?_ | refine qX (b' := true) rfl rfl rfl rfl (by assumption) ?_ | refine qX (b' := false) rfl rfl rfl rfl (by assumption) ?_ | (refine qY rfl rfl rfl rfl ?_ ?_ <;> intro _) | exact (rfl : (_ : D) = _) | exact (rfl : (_ : List D) = _))
    | a :: q, hj =>
      dsimp only [rowX, rowO]
      refine qA ?_
      refine go_frz 0 rfl ?_
      repeat' (first | (refine qS rfl ?_ ?_; (first | exact True.intro | rfl | assumption | omega | (simp only [inR]; omega) | ((show _ ≤ (9223372036854775807 : Nat)); (try simp only [ByteArray.size_append]); omega) | exact tmod_ok (by omega) (by omega) | exact tdiv_ok (by omega) (by omega) | exact ⟨rfl, by decide, by decide⟩)) | refine qA ?_ | refine qB rfl ?_ | refine qC (by kernel_rfl) ?_ | refine qD ?_ | refine qE ?_ | refine qF ?_ | refine qG ?_ | refine qH rfl ?_ | refine qP rfl rfl rfl rfl rfl rfl b50 (hj) ?_ | (refine qT rfl ?_ ?_; (first | rfl | assumption)) | (refine qU rfl ?_ ?_; (first | rfl | assumption)) | refine qL rfl rfl ?_ | refine qM rfl rfl rfl ?_ | refine qO rfl rfl rfl ?_ | refine qX (b' := true) rfl rfl rfl rfl (by assumption) ?_ | refine qX (b' := false) rfl rfl rfl rfl (by assumption) ?_ | (refine qY rfl rfl rfl rfl ?_ ?_ <;> intro _) | exact (rfl : (_ : D) = _) | exact (rfl : (_ : List D) = _))
theorem txt_ev (v : V) : (txt v).length ≤ 1099511627776 → Ev E 11 [enc v] (.d (.str (bs (txt v)))) := by
  refine vind (P := fun v => (txt v).length ≤ 1099511627776 → Ev E 11 [enc v] (.d (.str (bs (txt v))))) (fun k n d s l ih hlen => Ev.fit fun hfit => ?_) v
  obtain ⟨-, hn, hd, -, -, -⟩ := fit_enc (hfit (enc (.mk k n d s l)) (by simp))
  have hv := Valid_ev ixOK (.mk k n d s l)
  cases hok : Val.okV (.mk k n d s l) with
  | false =>
    rw [hok] at hv
    have e : txt (.mk k n d s l) = [63] := by simp only [txt, hok]; rfl
    rw [e]
    show Ev E _ _ (.d (.str ⟨#[63]⟩))
    refine enter1 Tryd.func11 Tryd.ntmps11 rfl rfl fun w0 F0 => ?_
    repeat' (first | (refine qS rfl ?_ ?_; (first | exact True.intro | rfl | assumption | omega | (simp only [inR]; omega) | ((show _ ≤ (9223372036854775807 : Nat)); (try simp only [ByteArray.size_append]); omega) | exact tmod_ok (by omega) (by omega) | exact tdiv_ok (by omega) (by omega) | exact ⟨rfl, by decide, by decide⟩)) | refine qA ?_ | refine qB rfl ?_ | refine qC (by kernel_rfl) ?_ | refine qD ?_ | refine qE ?_ | refine qF ?_ | refine qG ?_ | refine qH rfl ?_ | refine qP rfl rfl rfl rfl rfl rfl b10 (hv) ?_ | (refine qT rfl ?_ ?_; (first | rfl | assumption)) | (refine qU rfl ?_ ?_; (first | rfl | assumption)) | refine qL rfl rfl ?_ | refine qM rfl rfl rfl ?_ | refine qO rfl rfl rfl ?_ | refine qX (b' := true) rfl rfl rfl rfl (by assumption) ?_ | refine qX (b' := false) rfl rfl rfl rfl (by assumption) ?_ | (refine qY rfl rfl rfl rfl ?_ ?_ <;> intro _) | exact (rfl : (_ : D) = _) | exact (rfl : (_ : List D) = _))
  | true =>
    rw [hok] at hv
    have ln := itoa_len hn
    have ld := itoa_len hd
    have zn : (bs (Lib.itoa n)).size ≤ 21 := by rw [bs_size]; exact ln
    have zn' : (⟨(Lib.itoa n).toArray⟩ : ByteArray).size ≤ 21 := zn
    have o2 : (⟨#[39]⟩ : ByteArray).size = 1 := rfl
    have o3 : (⟨#[35]⟩ : ByteArray).size = 1 := rfl
    have o4 : (⟨#[64]⟩ : ByteArray).size = 1 := rfl
    have o5 : (⟨#[91]⟩ : ByteArray).size = 1 := rfl
    have o6 : (⟨#[93]⟩ : ByteArray).size = 1 := rfl
    have o7 : (⟨#[60]⟩ : ByteArray).size = 1 := rfl
    have o8 : (⟨#[62]⟩ : ByteArray).size = 1 := rfl
    have hk := okV_k hok
    simp only [V.k] at hk
    have tn := itoa_ev n
    have td := itoa_ev d
    rcases hk with rfl | rfl | rfl | rfl | rfl | rfl | rfl | rfl | rfl
    · have e : txt (.mk 0 n d s l) = [110, 117, 108, 108] := by simp only [txt, hok]; rfl
      rw [e]
      show Ev E _ _ (.d (.str ⟨#[110, 117, 108, 108]⟩))
      refine enter1 Tryd.func11 Tryd.ntmps11 rfl rfl fun w0 F0 => ?_
      repeat' (first | (refine qS rfl ?_ ?_; (first | exact True.intro | rfl | assumption | omega | (simp only [inR]; omega) | ((show _ ≤ (9223372036854775807 : Nat)); (try simp only [ByteArray.size_append]); omega) | exact tmod_ok (by omega) (by omega) | exact tdiv_ok (by omega) (by omega) | exact ⟨rfl, by decide, by decide⟩)) | refine qA ?_ | refine qB rfl ?_ | refine qC (by kernel_rfl) ?_ | refine qD ?_ | refine qE ?_ | refine qF ?_ | refine qG ?_ | refine qH rfl ?_ | refine qP rfl rfl rfl rfl rfl rfl b10 (hv) ?_ | (refine qT rfl ?_ ?_; (first | rfl | assumption)) | (refine qU rfl ?_ ?_; (first | rfl | assumption)) | refine qL rfl rfl ?_ | refine qM rfl rfl rfl ?_ | refine qO rfl rfl rfl ?_ | refine qX (b' := true) rfl rfl rfl rfl (by assumption) ?_ | refine qX (b' := false) rfl rfl rfl rfl (by assumption) ?_ | (refine qY rfl rfl rfl rfl ?_ ?_ <;> intro _) | exact (rfl : (_ : D) = _) | exact (rfl : (_ : List D) = _))
    · have e : bs (txt (.mk 1 n d s l)) = ⟨(Lib.formatBool (n == 1)).toArray⟩ := by
        have : txt (.mk 1 n d s l) = (bif n == 1 then [116, 114, 117, 101] else [102, 97, 108, 115, 101]) := by simp only [txt, hok]; rfl
        rw [this]
        cases n == 1 <;> decide
      rw [e]
      have hb := formatBool_ev (n == 1)
      refine enter1 Tryd.func11 Tryd.ntmps11 rfl rfl fun w0 F0 => ?_
      repeat' (first | (refine qS rfl ?_ ?_; (first | exact True.intro | rfl | assumption | omega | (simp only [inR]; omega) | ((show _ ≤ (9223372036854775807 : Nat)); (try simp only [ByteArray.size_append]); omega) | exact tmod_ok (by omega) (by omega) | exact tdiv_ok (by omega) (by omega) | exact ⟨rfl, by decide, by decide⟩)) | refine qA ?_ | refine qB rfl ?_ | refine qC (by kernel_rfl) ?_ | refine qD ?_ | refine qE ?_ | refine qF ?_ | refine qG ?_ | refine qH rfl ?_ | refine qP rfl rfl rfl rfl rfl rfl b10 (hv) ?_ | refine qP rfl rfl rfl rfl rfl rfl b28 (hb) ?_ | (refine qT rfl ?_ ?_; (first | rfl | assumption)) | (refine qU rfl ?_ ?_; (first | rfl | assumption)) | refine qL rfl rfl ?_ | refine qM rfl rfl rfl ?_ | refine qO rfl rfl rfl ?_ | refine qX (b' := true) rfl rfl rfl rfl (by assumption) ?_ | refine qX (b' := false) rfl rfl rfl rfl (by assumption) ?_ | (refine qY rfl rfl rfl rfl ?_ ?_ <;> intro _) | exact (rfl : (_ : D) = _) | exact (rfl : (_ : List D) = _))
    · have e : txt (.mk 2 n d s l) = Lib.itoa n := by simp only [txt, hok]; rfl
      rw [e]
      refine enter1 Tryd.func11 Tryd.ntmps11 rfl rfl fun w0 F0 => ?_
      repeat' (first | (refine qS rfl ?_ ?_; (first | exact True.intro | rfl | assumption | omega | (simp only [inR]; omega) | ((show _ ≤ (9223372036854775807 : Nat)); (try simp only [ByteArray.size_append]); omega) | exact tmod_ok (by omega) (by omega) | exact tdiv_ok (by omega) (by omega) | exact ⟨rfl, by decide, by decide⟩)) | refine qA ?_ | refine qB rfl ?_ | refine qC (by kernel_rfl) ?_ | refine qD ?_ | refine qE ?_ | refine qF ?_ | refine qG ?_ | refine qH rfl ?_ | refine qP rfl rfl rfl rfl rfl rfl b10 (hv) ?_ | refine qP rfl rfl rfl rfl rfl rfl b29 (tn) ?_ | (refine qT rfl ?_ ?_; (first | rfl | assumption)) | (refine qU rfl ?_ ?_; (first | rfl | assumption)) | refine qL rfl rfl ?_ | refine qM rfl rfl rfl ?_ | refine qO rfl rfl rfl ?_ | refine qX (b' := true) rfl rfl rfl rfl (by assumption) ?_ | refine qX (b' := false) rfl rfl rfl rfl (by assumption) ?_ | (refine qY rfl rfl rfl rfl ?_ ?_ <;> intro _) | exact (rfl : (_ : D) = _) | exact (rfl : (_ : List D) = _))
    · obtain ⟨h2, h3⟩ := okV_3 hok
      have e : txt (.mk 3 n d s l) = ftxt n d := by
        have hd1 : (d == 1) = false := by simp; omega
        simp only [txt, hok, ftxt, h3, hd1]
        rfl
      rw [e]
      have hf := fText_ev n d
      refine enter1 Tryd.func11 Tryd.ntmps11 rfl rfl fun w0 F0 => ?_
      repeat' (first | (refine qS rfl ?_ ?_; (first | exact True.intro | rfl | assumption | omega | (simp only [inR]; omega) | ((show _ ≤ (9223372036854775807 : Nat)); (try simp only [ByteArray.size_append]); omega) | exact tmod_ok (by omega) (by omega) | exact tdiv_ok (by omega) (by omega) | exact ⟨rfl, by decide, by decide⟩)) | refine qA ?_ | refine qB rfl ?_ | refine qC (by kernel_rfl) ?_ | refine qD ?_ | refine qE ?_ | refine qF ?_ | refine qG ?_ | refine qH rfl ?_ | refine qP rfl rfl rfl rfl rfl rfl b10 (hv) ?_ | refine qP rfl rfl rfl rfl rfl rfl b30 (hf) ?_ | (refine qT rfl ?_ ?_; (first | rfl | assumption)) | (refine qU rfl ?_ ?_; (first | rfl | assumption)) | refine qL rfl rfl ?_ | refine qM rfl rfl rfl ?_ | refine qO rfl rfl rfl ?_ | refine qX (b' := true) rfl rfl rfl rfl (by assumption) ?_ | refine qX (b' := false) rfl rfl rfl rfl (by assumption) ?_ | (refine qY rfl rfl rfl rfl ?_ ?_ <;> intro _) | exact (rfl : (_ : D) = _) | exact (rfl : (_ : List D) = _))
    · have e : bs (txt (.mk 4 n d s l)) = ⟨#[39]⟩ ++ bs (dbl s.data.toList) ++ ⟨#[39]⟩ := by
        show _ = bs [39] ++ bs (dbl s.data.toList) ++ bs [39]
        rw [bs_append, bs_append]
        simp only [txt, hok]
        rfl
      rw [e]
      have h4 := okV_4 hok
      have hdb := replaceAll_ev s (by omega)
      have hl2 := dbl_len s.data.toList
      have hsl : s.data.toList.length = s.size := by simp
      have zs : (bs (dbl s.data.toList)).size ≤ 200 := by rw [bs_size]; omega
      refine enter1 Tryd.func11 Tryd.ntmps11 rfl rfl fun w0 F0 => ?_
      repeat' (first | (refine qS rfl ?_ ?_; (first | exact True.intro | rfl | assumption | omega | (simp only [inR]; omega) | ((show _ ≤ (9223372036854775807 : Nat)); (try simp only [ByteArray.size_append]); omega) | exact tmod_ok (by omega) (by omega) | exact tdiv_ok (by omega) (by omega) | exact ⟨rfl, by decide, by decide⟩)) | refine qA ?_ | refine qB rfl ?_ | refine qC (by kernel_rfl) ?_ | refine qD ?_ | refine qE ?_ | refine qF ?_ | refine qG ?_ | refine qH rfl ?_ | refine qP rfl rfl rfl rfl rfl rfl b10 (hv) ?_ | refine qP rfl rfl rfl rfl rfl rfl b31 (hdb) ?_ | (refine qT rfl ?_ ?_; (first | rfl | assumption)) | (refine qU rfl ?_ ?_; (first | rfl | assumption)) | refine qL rfl rfl ?_ | refine qM rfl rfl rfl ?_ | refine qO rfl rfl rfl ?_ | refine qX (b' := true) rfl rfl rfl rfl (by assumption) ?_ | refine qX (b' := false) rfl rfl rfl rfl (by assumption) ?_ | (refine qY rfl rfl rfl rfl ?_ ?_ <;> intro _) | exact (rfl : (_ : D) = _) | exact (rfl : (_ : List D) = _))
    · have e : bs (txt (.mk 5 n d s l)) = ⟨#[35]⟩ ++ ⟨(Lib.itoa n).toArray⟩ := by
        show _ = bs [35] ++ bs (Lib.itoa n)
        rw [bs_append]
        simp only [txt, hok]
        rfl
      rw [e]
      refine enter1 Tryd.func11 Tryd.ntmps11 rfl rfl fun w0 F0 => ?_
      repeat' (first | (refine qS rfl ?_ ?_; (first | exact True.intro | rfl | assumption | omega | (simp only [inR]; omega) | ((show _ ≤ (9223372036854775807 : Nat)); (try simp only [ByteArray.size_append]); omega) | exact tmod_ok (by omega) (by omega) | exact tdiv_ok (by omega) (by omega) | exact ⟨rfl, by decide, by decide⟩)) | refine qA ?_ | refine qB rfl ?_ | refine qC (by kernel_rfl) ?_ | refine qD ?_ | refine qE ?_ | refine qF ?_ | refine qG ?_ | refine qH rfl ?_ | refine qP rfl rfl rfl rfl rfl rfl b10 (hv) ?_ | refine qP rfl rfl rfl rfl rfl rfl b29 (tn) ?_ | (refine qT rfl ?_ ?_; (first | rfl | assumption)) | (refine qU rfl ?_ ?_; (first | rfl | assumption)) | refine qL rfl rfl ?_ | refine qM rfl rfl rfl ?_ | refine qO rfl rfl rfl ?_ | refine qX (b' := true) rfl rfl rfl rfl (by assumption) ?_ | refine qX (b' := false) rfl rfl rfl rfl (by assumption) ?_ | (refine qY rfl rfl rfl rfl ?_ ?_ <;> intro _) | exact (rfl : (_ : D) = _) | exact (rfl : (_ : List D) = _))
    · have e : bs (txt (.mk 6 n d s l)) = ⟨#[64]⟩ ++ ⟨(Lib.itoa n).toArray⟩ := by
        show _ = bs [64] ++ bs (Lib.itoa n)
        rw [bs_append]
        simp only [txt, hok]
        rfl
      rw [e]
      refine enter1 Tryd.func11 Tryd.ntmps11 rfl rfl fun w0 F0 => ?_
      repeat' (first | (refine qS rfl ?_ ?_; (first | exact True.intro | rfl | assumption | omega | (simp only [inR]; omega) | ((show _ ≤ (9223372036854775807 : Nat)); (try simp only [ByteArray.size_append]); omega) | exact tmod_ok (by omega) (by omega) | exact tdiv_ok (by omega) (by omega) | exact ⟨rfl, by decide, by decide⟩)) | refine qA ?_ | refine qB rfl ?_ | refine qC (by kernel_rfl) ?_ | refine qD ?_ | refine qE ?_ | refine qF ?_ | refine qG ?_ | refine qH rfl ?_ | refine qP rfl rfl rfl rfl rfl rfl b10 (hv) ?_ | refine qP rfl rfl rfl rfl rfl rfl b29 (tn) ?_ | (refine qT rfl ?_ ?_; (first | rfl | assumption)) | (refine qU rfl ?_ ?_; (first | rfl | assumption)) | refine qL rfl rfl ?_ | refine qM rfl rfl rfl ?_ | refine qO rfl rfl rfl ?_ | refine qX (b' := true) rfl rfl rfl rfl (by assumption) ?_ | refine qX (b' := false) rfl rfl rfl rfl (by assumption) ?_ | (refine qY rfl rfl rfl rfl ?_ ?_ <;> intro _) | exact (rfl : (_ : D) = _) | exact (rfl : (_ : List D) = _))
    · have e0 : txt (.mk 7 n d s l) = [60] ++ Lib.join (l.map txt) [32] ++ [62] := by simp only [txt, hok, txtL_map]; rfl
      have e : bs (txt (.mk 7 n d s l)) = ⟨#[60]⟩ ++ bs (Lib.join (l.map txt) [32]) ++ ⟨#[62]⟩ := by
        show _ = bs [60] ++ bs (Lib.join (l.map txt) [32]) ++ bs [62]
        rw [bs_append, bs_append, e0]
      rw [e]
      have hjl : (Lib.join (l.map txt) [32]).length ≤ 1099511627776 := by
        rw [e0, List.length_append, List.length_append] at hlen
        omega
      have hj := texts_ev l [32] (fun x hx => ih x hx (Nat.le_trans (join_len [32] _ _ (List.mem_map_of_mem hx)) hjl)) (by have := okV_7 hok; omega) hjl
      have zj : (bs (Lib.join (l.map txt) [32])).size ≤ 1099511627776 := by rw [bs_size]; exact hjl
      refine enter1 Tryd.func11 Tryd.ntmps11 rfl rfl fun w0 F0 => ?_
      repeat' (first | (refine qS rfl ?_ ?_; (first | exact True.intro | rfl | assumption | omega | (simp only [inR]; omega) | ((show _ ≤ (9223372036854775807 : Nat)); (try simp only [ByteArray.size_append]); omega) | exact tmod_ok (by omega) (by omega) | exact tdiv_ok (by omega) (by omega) | exact ⟨rfl, by decide, by decide⟩)) | refine qA ?_ | refine qB rfl ?_ | refine qC (by kernel_rfl) ?_ | refine qD ?_ | refine qE ?_ | refine qF ?_ | refine qG ?_ | refine qH rfl ?_ | refine qP rfl rfl rfl rfl rfl rfl b10 (hv) ?_ | refine qP rfl rfl rfl rfl rfl rfl b32 (hj) ?_ | (refine qT rfl ?_ ?_; (first | rfl | assumption)) | (refine qU rfl ?_ ?_; (first | rfl | assumption)) | refine qL rfl rfl ?_ | refine qM rfl rfl rfl ?_ | refine qO rfl rfl rfl ?_ | refine qX (b' := true) rfl rfl rfl rfl (by assumption) ?_ | refine qX (b' := false) rfl rfl rfl rfl (by assumption) ?_ | (refine qY rfl rfl rfl rfl ?_ ?_ <;> intro _) | exact (rfl : (_ : D) = _) | exact (rfl : (_ : List D) = _))
    · have e0 : txt (.mk 8 n d s l) = [91] ++ Lib.join (l.map txt) [44, 32] ++ [93] := by simp only [txt, hok, txtL_map]; rfl
      have e : bs (txt (.mk 8 n d s l)) = ⟨#[91]⟩ ++ bs (Lib.join (l.map txt) [44, 32]) ++ ⟨#[93]⟩ := by
        show _ = bs [91] ++ bs (Lib.join (l.map txt) [44, 32]) ++ bs [93]
        rw [bs_append, bs_append, e0]
      rw [e]
      have hjl : (Lib.join (l.map txt) [44, 32]).length ≤ 1099511627776 := by
        rw [e0, List.length_append, List.length_append] at hlen
        omega
      have hj := texts_ev l [44, 32] (fun x hx => ih x hx (Nat.le_trans (join_len [44, 32] _ _ (List.mem_map_of_mem hx)) hjl)) (by have := okV_8 hok; omega) hjl
      have zj : (bs (Lib.join (l.map txt) [44, 32])).size ≤ 1099511627776 := by rw [bs_size]; exact hjl
      refine enter1 Tryd.func11 Tryd.ntmps11 rfl rfl fun w0 F0 => ?_
      repeat' (first | (refine qS rfl ?_ ?_; (first | exact True.intro | rfl | assumption | omega | (simp only [inR]; omega) | ((show _ ≤ (9223372036854775807 : Nat)); (try simp only [ByteArray.size_append]); omega) | exact tmod_ok (by omega) (by omega) | exact tdiv_ok (by omega) (by omega) | exact ⟨rfl, by decide, by decide⟩)) | refine qA ?_ | refine qB rfl ?_ | refine qC (by kernel_rfl) ?_ | refine qD ?_ | refine qE ?_ | refine qF ?_ | refine qG ?_ | refine qH rfl ?_ | refine qP rfl rfl rfl rfl rfl rfl b10 (hv) ?_ | refine qP rfl rfl rfl rfl rfl rfl b32 (hj) ?_ | (refine qT rfl ?_ ?_; (first | rfl | assumption)) | (refine qU rfl ?_ ?_; (first | rfl | assumption)) | refine qL rfl rfl ?_ | refine qM rfl rfl rfl ?_ | refine qO rfl rfl rfl ?_ | refine qX (b' := true) rfl rfl rfl rfl (by assumption) ?_ | refine qX (b' := false) rfl rfl rfl rfl (by assumption) ?_ | (refine qY rfl rfl rfl rfl ?_ ?_ <;> intro _) | exact (rfl : (_ : D) = _) | exact (rfl : (_ : List D) = _))
end Go.Proofs.YtpjnngfjbcjikaaDoor
