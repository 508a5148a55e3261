/- Values as text, by both texts. Conditions: a text of at most 2^40 bytes. -/
import Derived.Test.YtpjnngfjbcjikaaGreatDoorM19
namespace Go.Proofs.YtpjnngfjbcjikaaGreatDoor
open Go Go.Abs Go.Val Go.RowKit

mutual
def txt : V → List UInt8
  | .mk k n d s l =>
    bif !(Val.okV (.mk k n d s l)) then [63] else
    bif k == 1 then (bif n == 1 then [116, 114, 117, 101] else [102, 97, 108, 115, 101]) else
    bif k == 2 then Lib.itoa n else
    bif k == 3 then Lib.itoa n ++ [47] ++ Lib.itoa d else
    bif k == 4 then [39] ++ dbl s.data.toList ++ [39] else
    bif k == 5 then [35] ++ Lib.itoa n else
    bif k == 6 then [64] ++ Lib.itoa n else
    bif k == 8 then [91] ++ Lib.join (txtL l) [44, 32] ++ [93] else
    bif k == 7 then [60] ++ Lib.join (txtL l) [32] ++ [62] else [110, 117, 108, 108]
def txtL : List V → List (List UInt8)
  | [] => []
  | v :: r => txt v :: txtL r
end
theorem txtL_map (l : List V) : txtL l = l.map txt := by
  induction l with
  | nil => simp [txtL]
  | cons v r ih => simp [txtL, ih]
theorem join_len (sep : List UInt8) : ∀ (xs : List (List UInt8)) (x : List UInt8), x ∈ xs → x.length ≤ (Lib.join xs sep).length
  | [], x, h => by simp at h
  | a :: r, x, h => by
    rw [Lib.join_cons, List.length_append]
    rcases List.mem_cons.1 h with e | e
    · rw [e]; omega
    · have : x.length ≤ (Lib.joinTail sep r).length := by
        clear h
        induction r with
        | nil => simp at e
        | cons b q ih =>
          have hc : Lib.joinTail sep (b :: q) = (sep ++ b) ++ Lib.joinTail sep q := rfl
          rw [hc, List.length_append, List.length_append]
          rcases List.mem_cons.1 e with e' | e'
          · rw [e']; omega
          · have := ih e'; omega
      omega
theorem okV_k {v : V} (h : Val.okV v = true) : v.k = 0 ∨ v.k = 1 ∨ v.k = 2 ∨ v.k = 3 ∨ v.k = 4 ∨ v.k = 5 ∨ v.k = 6 ∨ v.k = 7 ∨ v.k = 8 := by
  unfold Val.okV at h
  simp only [okN, okFlat, Bool.or_eq_true, Bool.and_eq_true, beq_iff_eq] at h
  omega
theorem okV_3 {n d : Int} {s : ByteArray} {l : List V} (h : Val.okV (.mk 3 n d s l) = true) : d ≥ 2 ∧ fval n d = true := by
  unfold Val.okV at h
  rw [okN_flat 8 3 n d s l (by omega) (by omega)] at h
  simp [okFlat, V.k, V.n, V.d, V.s, V.l] at h
  exact ⟨h.2.1, h.2.2⟩
theorem okV_4 {n d : Int} {s : ByteArray} {l : List V} (h : Val.okV (.mk 4 n d s l) = true) : s.size ≤ 100 := by
  unfold Val.okV at h
  rw [okN_flat 8 4 n d s l (by omega) (by omega)] at h
  simp [okFlat, V.k, V.n, V.d, V.s, V.l, strOK] at h
  exact of_decide_eq_true h.2.2.2
theorem okV_7 {n d : Int} {s : ByteArray} {l : List V} (h : Val.okV (.mk 7 n d s l) = true) : l.length ≤ 25 := by
  unfold Val.okV at h
  rw [okN_7] at h
  simp only [okPath, Bool.and_eq_true, decide_eq_true_eq] at h
  omega
theorem okV_8 {n d : Int} {s : ByteArray} {l : List V} (h : Val.okV (.mk 8 n d s l) = true) : l.length ≤ 64 := by
  unfold Val.okV at h
  rw [okN_8 7] at h
  simp only [Bool.and_eq_true, decide_eq_true_eq] at h
  omega
structure SJ (xs : List (List UInt8)) (sep : List UInt8) where
  i : Nat
  s : List UInt8
  hi : i ≤ xs.length
  h0 : i = 0 → s = []
  h1 : i ≠ 0 → s ++ Lib.joinTail sep (xs.drop i) = Lib.join xs sep
theorem joinTail_at {xs : List (List UInt8)} {sep x : List UInt8} {i : Nat} (h : xs[i]? = some x) : Lib.joinTail sep (xs.drop i) = sep ++ x ++ Lib.joinTail sep (xs.drop (i + 1)) := by
  rw [drop_at h]
  rfl
theorem join_ev (xs : List ByteArray) (sep : ByteArray) (hN : xs.length ≤ 140737488355328) (hlen : (Lib.join (xs.map (·.data.toList)) sep.data.toList).length ≤ 140737488355328) : Ev E 120 [.sl (xs.map .str), .str sep] (.d (.str (bs (Lib.join (xs.map (·.data.toList)) sep.data.toList)))) := by
  intro w F vs hF hG hl hr
  match vs, hl with
  | [v, u], _ =>
    have h0 := hr 0 _ v rfl rfl
    obtain ⟨rfl, -⟩ := Rd.imm_inv (hr 1 _ u rfl rfl)
    have hok : Go.Abs.okV (.string (bs (Lib.join (xs.map (·.data.toList)) sep.data.toList))) = true := by
      simp only [Go.Abs.okV, decide_eq_true_eq, bs_size, maxLen]
      omega
    have hnone : ∀ (a : Option Addr) (c : Nat), v = .slice a 0 c → xs = [] → Calls E.P 120 #[v, .string sep] w fun e w' => ∃ v F', e = .returned v ∧ Ext w F w' F' ∧ RdX w' F' [] (.d (.str (bs (Lib.join (xs.map (·.data.toList)) sep.data.toList)))) v := by
      rintro a c rfl rfl
      refine (Tryz.strings_Join_none a c sep w).mono ?_
      rintro e w' ⟨rfl, rfl⟩
      exact ⟨_, F, rfl, Ext.refl hF, Rd.imm _ hok⟩
    rcases Rd.sl_inv h0 with ⟨hx, rfl⟩ | ⟨size, ad, cap, rfl, h1, h2, h3, h4, h5, h6⟩
    · exact hnone none 0 rfl (by simpa using hx)
    · by_cases hx : xs = []
      · exact hnone _ _ (by rw [hx]; rfl) hx
      · have hlen' : (xs.map D.str).length = xs.length := by simp
        have hcell : ∀ (j : Nat) x, xs[j]? = some x → w.cell? (ad.add j) = some (.string x) := by
          intro j x hj
          have hj' : (xs.map D.str)[j]? = some (.str x) := by rw [List.getElem?_map, hj]; rfl
          have hs1 : size = 1 := (h4 _ (List.mem_of_getElem? hj')).symm
          obtain ⟨q, e1, e2⟩ := h6 j _ 0 _ hj' rfl
          obtain ⟨rfl, -⟩ := Rd.imm_inv e2
          rw [hs1, Nat.mul_one, Nat.add_zero] at e1
          exact e1
        obtain ⟨bk, o, sp⟩ := ad
        have hsp : sp = none := by
          obtain ⟨x0, hx0⟩ : ∃ x, xs[0]? = some x := ⟨xs[0]'(List.length_pos_iff.2 hx), List.getElem?_eq_getElem _⟩
          have := hcell 0 x0 hx0
          cases sp with
          | none => rfl
          | some q =>
            have e : (⟨bk, o, some q⟩ : Addr).add 0 = ⟨bk, o, some q⟩ := by simp [Addr.add]
            rw [e] at this
            unfold World.cell? at this
            simp only [Option.isSome_some, if_true] at this
            split at this <;> cases this
        subst hsp
        rw [hlen'] at h1 ⊢
        have hbk : bk < w.heap.size := hF _ (h3 (by simpa using hx))
        refine (Tryz.strings_Join bk o cap xs sep w (fun j x hj => by rw [← add_mk]; exact hcell j x hj) hbk hN h1 hlen).mono ?_
        rintro e w' ⟨rfl, hb⟩
        exact ⟨_, F, rfl, Ext.of_below hb hF, Rd.imm _ hok⟩
end Go.Proofs.YtpjnngfjbcjikaaGreatDoor
namespace Go.Proofs.YtpjnngfjbcjikaaGreatDoor
open Go Go.Abs Go.Val Go.RowKit
attribute [local irreducible] go SGo HasBody Ev ExtEv
theorem joined_ev (l : List V) (sep : List UInt8) (hT : ∀ x ∈ l, Ev E 44 [enc x] (.d (.str (bs (txt x))))) (hlen : (Lib.join (l.map txt) sep).length ≤ 1099511627776) (hsep : sep.length ≤ 2) :
    Ev E 85 [.sl (encL l), .str (bs sep)] (.d (.str (bs (Lib.join (l.map txt) sep)))) := Ev.fit fun hfit => by
  obtain ⟨hmax, -⟩ := fit_encL (hfit (.sl (encL l)) (by simp))
  have hle : (encL l).length = l.length := encL_len l
  have hml : (l.map txt).length = l.length := by simp
  refine enter2 Tryz.func85 Tryz.ntmps85 rfl rfl fun w0 F0 => ?_
  repeat' (first | (refine qS rfl ?_ ?_; (first | exact True.intro | rfl | assumption | omega | (simp only [inR]; omega) | ((show _ ≤ (9223372036854775807 : Nat)); (try simp only [ByteArray.size_append]); omega) | exact tmod_ok (by omega) (by omega) | exact tdiv_ok (by omega) (by omega) | exact ⟨rfl, by decide, by decide⟩)) | refine qA ?_ | refine qB rfl ?_ | refine qC (by kernel_rfl) ?_ | refine qD ?_ | refine qE ?_ | refine qF ?_ | refine qG ?_ | refine qH rfl ?_ | (refine qT rfl ?_ ?_; (first | rfl | assumption)) | (refine qU rfl ?_ ?_; (first | rfl | assumption)) | refine qL rfl rfl ?_ | refine qM rfl rfl rfl ?_ | refine qO rfl rfl rfl ?_ | refine qX (b' := true) rfl rfl rfl rfl (by assumption) ?_ | refine qX (b' := false) rfl rfl rfl rfl (by assumption) ?_ | (refine qY rfl rfl rfl rfl ?_ ?_ <;> intro _) | exact (rfl : (_ : D) = _) | exact (rfl : (_ : List D) = _))
  refine go_loop_ (α := SJ (l.map txt) sep) (fun p => ⟨[(0, .d (.sl (encL l))), (1, .d (.str (bs sep))), (5, .d (.str (bs p.s))), (6, .d (.int p.i))], []⟩) (fun p => l.length - p.i) ⟨0, [], by omega, fun _ => rfl, fun h => absurd rfl h⟩ ((Le.of' 0 rfl (by repeat (first | exact trivial | refine ⟨⟨rfl, rfl⟩, ?_⟩)) (by repeat (first | exact trivial | refine ⟨rfl, ?_⟩)))) ?_
  rintro ⟨i, s, hi, h0, h1⟩
  dsimp only
  have hss : (bs sep).size ≤ 2 := by rw [bs_size]; exact hsep
  rcases Nat.lt_or_ge i l.length with hlt | hge
  · have g1 : decide ((i : Int) < ((encL l).length : Int)) = true := by rw [hle]; simpa using hlt
    have hx0 := List.getElem?_eq_getElem hlt
    generalize l[i] = x at hx0
    have hx : (encL l)[(i : Int).toNat]? = some (enc x) := encL_get (by rw [Int.toNat_natCast]; exact hx0)
    have hm : (l.map txt)[i]? = some (txt x) := by rw [List.getElem?_map, hx0]; rfl
    have ht := hT x (List.mem_of_getElem? hx0)
    by_cases hi0 : i = 0
    · subst hi0
      have hs0 := h0 rfl
      subst hs0
      have g2 : decide (((0 : Nat) : Int) > 0) = false := rfl
      have hl2 : (txt x).length ≤ 1099511627776 := Nat.le_trans (join_len sep _ _ (List.mem_of_getElem? hm)) hlen
      have z1 : (bs (txt x)).size ≤ 1099511627776 := by rw [bs_size]; exact hl2
      have z2 : (bs []).size = 0 := rfl
      repeat' (first | (refine qS rfl ?_ ?_; (first | exact True.intro | rfl | assumption | omega | (simp only [inR]; omega) | ((show _ ≤ (9223372036854775807 : Nat)); (try simp only [ByteArray.size_append]); omega) | exact tmod_ok (by omega) (by omega) | exact tdiv_ok (by omega) (by omega) | exact ⟨rfl, by decide, by decide⟩)) | refine qA ?_ | refine qB rfl ?_ | refine qC (by kernel_rfl) ?_ | refine qD ?_ | refine qE ?_ | refine qF ?_ | refine qG ?_ | refine qH rfl ?_ | refine qI (enc x) rfl (guardX_ok rfl) rfl rfl rfl rfl rfl rfl (by first | omega | decide) hx ?_ | refine qP rfl rfl rfl rfl rfl rfl b44 (ht) ?_ | (refine qT rfl ?_ ?_; (first | rfl | assumption)) | (refine qU rfl ?_ ?_; (first | rfl | assumption)) | refine qL rfl rfl ?_ | refine qM rfl rfl rfl ?_ | refine qO rfl rfl rfl ?_ | refine qX (b' := true) rfl rfl rfl rfl (by assumption) ?_ | refine qX (b' := false) rfl rfl rfl rfl (by assumption) ?_ | (refine qY rfl rfl rfl rfl ?_ ?_ <;> intro _) | exact (rfl : (_ : D) = _) | exact (rfl : (_ : List D) = _))
      refine go_stop ?_
      rw [bs_append]
      exact ⟨⟨1, [] ++ txt x, by omega, fun h => by omega, fun _ => by have := drop_at hm; rw [List.drop_zero] at this; rw [List.nil_append]; conv => rhs; rw [this, Lib.join_cons]⟩, by dsimp only; omega, (Le.of' 0 rfl (by repeat (first | exact trivial | refine ⟨⟨rfl, rfl⟩, ?_⟩)) (by repeat (first | exact trivial | refine ⟨rfl, ?_⟩)))⟩
    · have g2 : decide ((i : Int) > 0) = true := by simp; omega
      have h1' := h1 hi0
      rw [joinTail_at hm] at h1'
      have hll : s.length + (sep.length + (txt x).length) ≤ 1099511627776 := by
        have := congrArg List.length h1'
        simp only [List.length_append] at this
        omega
      have z1 : (bs (txt x)).size = (txt x).length := bs_size _
      have z2 : (bs s).size = s.length := bs_size _
      have z3 : (bs sep).size = sep.length := bs_size _
      repeat' (first | (refine qS rfl ?_ ?_; (first | exact True.intro | rfl | assumption | omega | (simp only [inR]; omega) | ((show _ ≤ (9223372036854775807 : Nat)); (try simp only [ByteArray.size_append]); omega) | exact tmod_ok (by omega) (by omega) | exact tdiv_ok (by omega) (by omega) | exact ⟨rfl, by decide, by decide⟩)) | refine qA ?_ | refine qB rfl ?_ | refine qC (by kernel_rfl) ?_ | refine qD ?_ | refine qE ?_ | refine qF ?_ | refine qG ?_ | refine qH rfl ?_ | refine qI (enc x) rfl (guardX_ok rfl) rfl rfl rfl rfl rfl rfl (by first | omega | decide) hx ?_ | refine qP rfl rfl rfl rfl rfl rfl b44 (ht) ?_ | (refine qT rfl ?_ ?_; (first | rfl | assumption)) | (refine qU rfl ?_ ?_; (first | rfl | assumption)) | refine qL rfl rfl ?_ | refine qM rfl rfl rfl ?_ | refine qO rfl rfl rfl ?_ | refine qX (b' := true) rfl rfl rfl rfl (by assumption) ?_ | refine qX (b' := false) rfl rfl rfl rfl (by assumption) ?_ | (refine qY rfl rfl rfl rfl ?_ ?_ <;> intro _) | exact (rfl : (_ : D) = _) | exact (rfl : (_ : List D) = _))
      refine go_stop ?_
      rw [bs_append, bs_append]
      exact ⟨⟨i + 1, s ++ sep ++ txt x, by omega, fun h => by omega, fun _ => by rw [← h1']; simp only [List.append_assoc]⟩, by dsimp only; omega, (Le.of' 0 rfl (by repeat (first | exact trivial | refine ⟨⟨rfl, rfl⟩, ?_⟩)) (by repeat (first | exact trivial | refine ⟨rfl, ?_⟩)))⟩
  · have g1 : decide ((i : Int) < ((encL l).length : Int)) = false := by rw [hle]; simp; omega
    have e : Lib.join (l.map txt) sep = s := by
      by_cases hi0 : i = 0
      · have : l = [] := List.eq_nil_of_length_eq_zero (by omega)
        rw [this, h0 hi0]
        rfl
      · rw [← h1 hi0, List.drop_eq_nil_of_le (by omega)]
        simp [Lib.joinTail]
    rw [e]
    repeat' (first | (refine qS rfl ?_ ?_; (first | exact True.intro | rfl | assumption | omega | (simp only [inR]; omega) | ((show _ ≤ (9223372036854775807 : Nat)); (try simp only [ByteArray.size_append]); omega) | exact tmod_ok (by omega) (by omega) | exact tdiv_ok (by omega) (by omega) | exact ⟨rfl, by decide, by decide⟩)) | refine qA ?_ | refine qB rfl ?_ | refine qC (by kernel_rfl) ?_ | refine qD ?_ | refine qE ?_ | refine qF ?_ | refine qG ?_ | refine qH rfl ?_ | (refine qT rfl ?_ ?_; (first | rfl | assumption)) | (refine qU rfl ?_ ?_; (first | rfl | assumption)) | refine qL rfl rfl ?_ | refine qM rfl rfl rfl ?_ | refine qO rfl rfl rfl ?_ | refine qX (b' := true) rfl rfl rfl rfl (by assumption) ?_ | refine qX (b' := false) rfl rfl rfl rfl (by assumption) ?_ | (refine qY rfl rfl rfl rfl ?_ ?_ <;> intro _) | exact (rfl : (_ : D) = _) | exact (rfl : (_ : List D) = _))
theorem itoa_bs (n : Int) : (⟨(Lib.itoa n).toArray⟩ : ByteArray) = bs (Lib.itoa n) := rfl
theorem rtxt_ev (v : V) : (txt v).length ≤ 1099511627776 → Ev E 44 [enc v] (.d (.str (bs (txt v)))) := by
  refine vind (P := fun v => (txt v).length ≤ 1099511627776 → Ev E 44 [enc v] (.d (.str (bs (txt v))))) (fun k n d s l ih hlen => Ev.fit fun hfit => ?_) v
  obtain ⟨-, hn, hd, -, -, -⟩ := fit_enc (hfit (enc (.mk k n d s l)) (by simp))
  have hv := RValid_ev (.mk k n d s l)
  cases hok : Val.okV (.mk k n d s l) with
  | false =>
    rw [hok] at hv
    have e : txt (.mk k n d s l) = [63] := by simp only [txt, hok]; rfl
    rw [e]
    show Ev E _ _ (.d (.str ⟨#[63]⟩))
    refine enter1 Tryz.func44 Tryz.ntmps44 rfl rfl fun w0 F0 => ?_
    repeat' (first | (refine qS rfl ?_ ?_; (first | exact True.intro | rfl | assumption | omega | (simp only [inR]; omega) | ((show _ ≤ (9223372036854775807 : Nat)); (try simp only [ByteArray.size_append]); omega) | exact tmod_ok (by omega) (by omega) | exact tdiv_ok (by omega) (by omega) | exact ⟨rfl, by decide, by decide⟩)) | refine qA ?_ | refine qB rfl ?_ | refine qC (by kernel_rfl) ?_ | refine qD ?_ | refine qE ?_ | refine qF ?_ | refine qG ?_ | refine qH rfl ?_ | refine qP rfl rfl rfl rfl rfl rfl b38 (hv) ?_ | (refine qT rfl ?_ ?_; (first | rfl | assumption)) | (refine qU rfl ?_ ?_; (first | rfl | assumption)) | refine qL rfl rfl ?_ | refine qM rfl rfl rfl ?_ | refine qO rfl rfl rfl ?_ | refine qX (b' := true) rfl rfl rfl rfl (by assumption) ?_ | refine qX (b' := false) rfl rfl rfl rfl (by assumption) ?_ | (refine qY rfl rfl rfl rfl ?_ ?_ <;> intro _) | exact (rfl : (_ : D) = _) | exact (rfl : (_ : List D) = _))
  | true =>
    rw [hok] at hv
    have ln := itoa_len hn
    have ld := itoa_len hd
    have zn : (bs (Lib.itoa n)).size ≤ 21 := by rw [bs_size]; exact ln
    have zd : (bs (Lib.itoa d)).size ≤ 21 := by rw [bs_size]; exact ld
    have o1 : (⟨#[47]⟩ : ByteArray).size = 1 := rfl
    have o2 : (⟨#[39]⟩ : ByteArray).size = 1 := rfl
    have o3 : (⟨#[35]⟩ : ByteArray).size = 1 := rfl
    have o4 : (⟨#[64]⟩ : ByteArray).size = 1 := rfl
    have o5 : (⟨#[91]⟩ : ByteArray).size = 1 := rfl
    have o6 : (⟨#[93]⟩ : ByteArray).size = 1 := rfl
    have o7 : (⟨#[60]⟩ : ByteArray).size = 1 := rfl
    have o8 : (⟨#[62]⟩ : ByteArray).size = 1 := rfl
    have hk := okV_k hok
    simp only [V.k] at hk
    have tn := rtext_ev n
    have td := rtext_ev d
    rcases hk with rfl | rfl | rfl | rfl | rfl | rfl | rfl | rfl | rfl
    · have e : txt (.mk 0 n d s l) = [110, 117, 108, 108] := by simp only [txt, hok]; rfl
      rw [e]
      show Ev E _ _ (.d (.str ⟨#[110, 117, 108, 108]⟩))
      refine enter1 Tryz.func44 Tryz.ntmps44 rfl rfl fun w0 F0 => ?_
      repeat' (first | (refine qS rfl ?_ ?_; (first | exact True.intro | rfl | assumption | omega | (simp only [inR]; omega) | ((show _ ≤ (9223372036854775807 : Nat)); (try simp only [ByteArray.size_append]); omega) | exact tmod_ok (by omega) (by omega) | exact tdiv_ok (by omega) (by omega) | exact ⟨rfl, by decide, by decide⟩)) | refine qA ?_ | refine qB rfl ?_ | refine qC (by kernel_rfl) ?_ | refine qD ?_ | refine qE ?_ | refine qF ?_ | refine qG ?_ | refine qH rfl ?_ | refine qP rfl rfl rfl rfl rfl rfl b38 (hv) ?_ | (refine qT rfl ?_ ?_; (first | rfl | assumption)) | (refine qU rfl ?_ ?_; (first | rfl | assumption)) | refine qL rfl rfl ?_ | refine qM rfl rfl rfl ?_ | refine qO rfl rfl rfl ?_ | refine qX (b' := true) rfl rfl rfl rfl (by assumption) ?_ | refine qX (b' := false) rfl rfl rfl rfl (by assumption) ?_ | (refine qY rfl rfl rfl rfl ?_ ?_ <;> intro _) | exact (rfl : (_ : D) = _) | exact (rfl : (_ : List D) = _))
    · have e : txt (.mk 1 n d s l) = (bif n == 1 then [116, 114, 117, 101] else [102, 97, 108, 115, 101]) := by simp only [txt, hok]; rfl
      rw [e]
      cases h1 : n == 1 with
      | true =>
        show Ev E _ _ (.d (.str ⟨#[116, 114, 117, 101]⟩))
        refine enter1 Tryz.func44 Tryz.ntmps44 rfl rfl fun w0 F0 => ?_
        repeat' (first | (refine qS rfl ?_ ?_; (first | exact True.intro | rfl | assumption | omega | (simp only [inR]; omega) | ((show _ ≤ (9223372036854775807 : Nat)); (try simp only [ByteArray.size_append]); omega) | exact tmod_ok (by omega) (by omega) | exact tdiv_ok (by omega) (by omega) | exact ⟨rfl, by decide, by decide⟩)) | refine qA ?_ | refine qB rfl ?_ | refine qC (by kernel_rfl) ?_ | refine qD ?_ | refine qE ?_ | refine qF ?_ | refine qG ?_ | refine qH rfl ?_ | refine qP rfl rfl rfl rfl rfl rfl b38 (hv) ?_ | (refine qT rfl ?_ ?_; (first | rfl | assumption)) | (refine qU rfl ?_ ?_; (first | rfl | assumption)) | refine qL rfl rfl ?_ | refine qM rfl rfl rfl ?_ | refine qO rfl rfl rfl ?_ | refine qX (b' := true) rfl rfl rfl rfl (by assumption) ?_ | refine qX (b' := false) rfl rfl rfl rfl (by assumption) ?_ | (refine qY rfl rfl rfl rfl ?_ ?_ <;> intro _) | exact (rfl : (_ : D) = _) | exact (rfl : (_ : List D) = _))
      | false =>
        show Ev E _ _ (.d (.str ⟨#[102, 97, 108, 115, 101]⟩))
        refine enter1 Tryz.func44 Tryz.ntmps44 rfl rfl fun w0 F0 => ?_
        repeat' (first | (refine qS rfl ?_ ?_; (first | exact True.intro | rfl | assumption | omega | (simp only [inR]; omega) | ((show _ ≤ (9223372036854775807 : Nat)); (try simp only [ByteArray.size_append]); omega) | exact tmod_ok (by omega) (by omega) | exact tdiv_ok (by omega) (by omega) | exact ⟨rfl, by decide, by decide⟩)) | refine qA ?_ | refine qB rfl ?_ | refine qC (by kernel_rfl) ?_ | refine qD ?_ | refine qE ?_ | refine qF ?_ | refine qG ?_ | refine qH rfl ?_ | refine qP rfl rfl rfl rfl rfl rfl b38 (hv) ?_ | (refine qT rfl ?_ ?_; (first | rfl | assumption)) | (refine qU rfl ?_ ?_; (first | rfl | assumption)) | refine qL rfl rfl ?_ | refine qM rfl rfl rfl ?_ | refine qO rfl rfl rfl ?_ | refine qX (b' := true) rfl rfl rfl rfl (by assumption) ?_ | refine qX (b' := false) rfl rfl rfl rfl (by assumption) ?_ | (refine qY rfl rfl rfl rfl ?_ ?_ <;> intro _) | exact (rfl : (_ : D) = _) | exact (rfl : (_ : List D) = _))
    · have e : txt (.mk 2 n d s l) = Lib.itoa n := by simp only [txt, hok]; rfl
      rw [e]
      refine enter1 Tryz.func44 Tryz.ntmps44 rfl rfl fun w0 F0 => ?_
      repeat' (first | (refine qS rfl ?_ ?_; (first | exact True.intro | rfl | assumption | omega | (simp only [inR]; omega) | ((show _ ≤ (9223372036854775807 : Nat)); (try simp only [ByteArray.size_append]); omega) | exact tmod_ok (by omega) (by omega) | exact tdiv_ok (by omega) (by omega) | exact ⟨rfl, by decide, by decide⟩)) | refine qA ?_ | refine qB rfl ?_ | refine qC (by kernel_rfl) ?_ | refine qD ?_ | refine qE ?_ | refine qF ?_ | refine qG ?_ | refine qH rfl ?_ | refine qP rfl rfl rfl rfl rfl rfl b38 (hv) ?_ | refine qP rfl rfl rfl rfl rfl rfl b83 (tn) ?_ | (refine qT rfl ?_ ?_; (first | rfl | assumption)) | (refine qU rfl ?_ ?_; (first | rfl | assumption)) | refine qL rfl rfl ?_ | refine qM rfl rfl rfl ?_ | refine qO rfl rfl rfl ?_ | refine qX (b' := true) rfl rfl rfl rfl (by assumption) ?_ | refine qX (b' := false) rfl rfl rfl rfl (by assumption) ?_ | (refine qY rfl rfl rfl rfl ?_ ?_ <;> intro _) | exact (rfl : (_ : D) = _) | exact (rfl : (_ : List D) = _))
    · have e : bs (txt (.mk 3 n d s l)) = bs (Lib.itoa n) ++ ⟨#[47]⟩ ++ bs (Lib.itoa d) := by
        show _ = bs (Lib.itoa n) ++ bs [47] ++ bs (Lib.itoa d)
        rw [bs_append, bs_append]
        simp only [txt, hok]
        rfl
      rw [e]
      refine enter1 Tryz.func44 Tryz.ntmps44 rfl rfl fun w0 F0 => ?_
      repeat' (first | (refine qS rfl ?_ ?_; (first | exact True.intro | rfl | assumption | omega | (simp only [inR]; omega) | ((show _ ≤ (9223372036854775807 : Nat)); (try simp only [ByteArray.size_append]); omega) | exact tmod_ok (by omega) (by omega) | exact tdiv_ok (by omega) (by omega) | exact ⟨rfl, by decide, by decide⟩)) | refine qA ?_ | refine qB rfl ?_ | refine qC (by kernel_rfl) ?_ | refine qD ?_ | refine qE ?_ | refine qF ?_ | refine qG ?_ | refine qH rfl ?_ | refine qP rfl rfl rfl rfl rfl rfl b38 (hv) ?_ | refine qP (d := 22) rfl rfl rfl rfl rfl rfl b83 (tn) ?_ | refine qP rfl rfl rfl rfl rfl rfl b83 (td) ?_ | (refine qT rfl ?_ ?_; (first | rfl | assumption)) | (refine qU rfl ?_ ?_; (first | rfl | assumption)) | refine qL rfl rfl ?_ | refine qM rfl rfl rfl ?_ | refine qO rfl rfl rfl ?_ | refine qX (b' := true) rfl rfl rfl rfl (by assumption) ?_ | refine qX (b' := false) rfl rfl rfl rfl (by assumption) ?_ | (refine qY rfl rfl rfl rfl ?_ ?_ <;> intro _) | exact (rfl : (_ : D) = _) | exact (rfl : (_ : List D) = _))
    · have e : bs (txt (.mk 4 n d s l)) = ⟨#[39]⟩ ++ bs (dbl s.data.toList) ++ ⟨#[39]⟩ := by
        show _ = bs [39] ++ bs (dbl s.data.toList) ++ bs [39]
        rw [bs_append, bs_append]
        simp only [txt, hok]
        rfl
      rw [e]
      have h4 := okV_4 hok
      have hdb := doubled_ev s (by omega)
      have hl2 := dbl_len s.data.toList
      have hsl : s.data.toList.length = s.size := by simp
      have zs : (bs (dbl s.data.toList)).size ≤ 200 := by rw [bs_size]; omega
      refine enter1 Tryz.func44 Tryz.ntmps44 rfl rfl fun w0 F0 => ?_
      repeat' (first | (refine qS rfl ?_ ?_; (first | exact True.intro | rfl | assumption | omega | (simp only [inR]; omega) | ((show _ ≤ (9223372036854775807 : Nat)); (try simp only [ByteArray.size_append]); omega) | exact tmod_ok (by omega) (by omega) | exact tdiv_ok (by omega) (by omega) | exact ⟨rfl, by decide, by decide⟩)) | refine qA ?_ | refine qB rfl ?_ | refine qC (by kernel_rfl) ?_ | refine qD ?_ | refine qE ?_ | refine qF ?_ | refine qG ?_ | refine qH rfl ?_ | refine qP rfl rfl rfl rfl rfl rfl b38 (hv) ?_ | refine qP rfl rfl rfl rfl rfl rfl b84 (hdb) ?_ | (refine qT rfl ?_ ?_; (first | rfl | assumption)) | (refine qU rfl ?_ ?_; (first | rfl | assumption)) | refine qL rfl rfl ?_ | refine qM rfl rfl rfl ?_ | refine qO rfl rfl rfl ?_ | refine qX (b' := true) rfl rfl rfl rfl (by assumption) ?_ | refine qX (b' := false) rfl rfl rfl rfl (by assumption) ?_ | (refine qY rfl rfl rfl rfl ?_ ?_ <;> intro _) | exact (rfl : (_ : D) = _) | exact (rfl : (_ : List D) = _))
    · have e : bs (txt (.mk 5 n d s l)) = ⟨#[35]⟩ ++ bs (Lib.itoa n) := by
        show _ = bs [35] ++ bs (Lib.itoa n)
        rw [bs_append]
        simp only [txt, hok]
        rfl
      rw [e]
      refine enter1 Tryz.func44 Tryz.ntmps44 rfl rfl fun w0 F0 => ?_
      repeat' (first | (refine qS rfl ?_ ?_; (first | exact True.intro | rfl | assumption | omega | (simp only [inR]; omega) | ((show _ ≤ (9223372036854775807 : Nat)); (try simp only [ByteArray.size_append]); omega) | exact tmod_ok (by omega) (by omega) | exact tdiv_ok (by omega) (by omega) | exact ⟨rfl, by decide, by decide⟩)) | refine qA ?_ | refine qB rfl ?_ | refine qC (by kernel_rfl) ?_ | refine qD ?_ | refine qE ?_ | refine qF ?_ | refine qG ?_ | refine qH rfl ?_ | refine qP rfl rfl rfl rfl rfl rfl b38 (hv) ?_ | refine qP rfl rfl rfl rfl rfl rfl b83 (tn) ?_ | (refine qT rfl ?_ ?_; (first | rfl | assumption)) | (refine qU rfl ?_ ?_; (first | rfl | assumption)) | refine qL rfl rfl ?_ | refine qM rfl rfl rfl ?_ | refine qO rfl rfl rfl ?_ | refine qX (b' := true) rfl rfl rfl rfl (by assumption) ?_ | refine qX (b' := false) rfl rfl rfl rfl (by assumption) ?_ | (refine qY rfl rfl rfl rfl ?_ ?_ <;> intro _) | exact (rfl : (_ : D) = _) | exact (rfl : (_ : List D) = _))
    · have e : bs (txt (.mk 6 n d s l)) = ⟨#[64]⟩ ++ bs (Lib.itoa n) := by
        show _ = bs [64] ++ bs (Lib.itoa n)
        rw [bs_append]
        simp only [txt, hok]
        rfl
      rw [e]
      refine enter1 Tryz.func44 Tryz.ntmps44 rfl rfl fun w0 F0 => ?_
      repeat' (first | (refine qS rfl ?_ ?_; (first | exact True.intro | rfl | assumption | omega | (simp only [inR]; omega) | ((show _ ≤ (9223372036854775807 : Nat)); (try simp only [ByteArray.size_append]); omega) | exact tmod_ok (by omega) (by omega) | exact tdiv_ok (by omega) (by omega) | exact ⟨rfl, by decide, by decide⟩)) | refine qA ?_ | refine qB rfl ?_ | refine qC (by kernel_rfl) ?_ | refine qD ?_ | refine qE ?_ | refine qF ?_ | refine qG ?_ | refine qH rfl ?_ | refine qP rfl rfl rfl rfl rfl rfl b38 (hv) ?_ | refine qP rfl rfl rfl rfl rfl rfl b83 (tn) ?_ | (refine qT rfl ?_ ?_; (first | rfl | assumption)) | (refine qU rfl ?_ ?_; (first | rfl | assumption)) | refine qL rfl rfl ?_ | refine qM rfl rfl rfl ?_ | refine qO rfl rfl rfl ?_ | refine qX (b' := true) rfl rfl rfl rfl (by assumption) ?_ | refine qX (b' := false) rfl rfl rfl rfl (by assumption) ?_ | (refine qY rfl rfl rfl rfl ?_ ?_ <;> intro _) | exact (rfl : (_ : D) = _) | exact (rfl : (_ : List D) = _))
    · have e0 : txt (.mk 7 n d s l) = [60] ++ Lib.join (l.map txt) [32] ++ [62] := by simp only [txt, hok, txtL_map]; rfl
      have e : bs (txt (.mk 7 n d s l)) = ⟨#[60]⟩ ++ bs (Lib.join (l.map txt) [32]) ++ ⟨#[62]⟩ := by
        show _ = bs [60] ++ bs (Lib.join (l.map txt) [32]) ++ bs [62]
        rw [bs_append, bs_append, e0]
      rw [e]
      have hjl : (Lib.join (l.map txt) [32]).length ≤ 1099511627776 := by
        rw [e0, List.length_append, List.length_append] at hlen
        omega
      have hj := joined_ev l [32] (fun x hx => ih x hx (Nat.le_trans (join_len [32] _ _ (List.mem_map_of_mem hx)) hjl)) hjl (by simp)
      have zj : (bs (Lib.join (l.map txt) [32])).size ≤ 1099511627776 := by rw [bs_size]; exact hjl
      refine enter1 Tryz.func44 Tryz.ntmps44 rfl rfl fun w0 F0 => ?_
      repeat' (first | (refine qS rfl ?_ ?_; (first | exact True.intro | rfl | assumption | omega | (simp only [inR]; omega) | ((show _ ≤ (9223372036854775807 : Nat)); (try simp only [ByteArray.size_append]); omega) | exact tmod_ok (by omega) (by omega) | exact tdiv_ok (by omega) (by omega) | exact ⟨rfl, by decide, by decide⟩)) | refine qA ?_ | refine qB rfl ?_ | refine qC (by kernel_rfl) ?_ | refine qD ?_ | refine qE ?_ | refine qF ?_ | refine qG ?_ | refine qH rfl ?_ | refine qP rfl rfl rfl rfl rfl rfl b38 (hv) ?_ | refine qP rfl rfl rfl rfl rfl rfl b85 (hj) ?_ | (refine qT rfl ?_ ?_; (first | rfl | assumption)) | (refine qU rfl ?_ ?_; (first | rfl | assumption)) | refine qL rfl rfl ?_ | refine qM rfl rfl rfl ?_ | refine qO rfl rfl rfl ?_ | refine qX (b' := true) rfl rfl rfl rfl (by assumption) ?_ | refine qX (b' := false) rfl rfl rfl rfl (by assumption) ?_ | (refine qY rfl rfl rfl rfl ?_ ?_ <;> intro _) | exact (rfl : (_ : D) = _) | exact (rfl : (_ : List D) = _))
    · have e0 : txt (.mk 8 n d s l) = [91] ++ Lib.join (l.map txt) [44, 32] ++ [93] := by simp only [txt, hok, txtL_map]; rfl
      have e : bs (txt (.mk 8 n d s l)) = ⟨#[91]⟩ ++ bs (Lib.join (l.map txt) [44, 32]) ++ ⟨#[93]⟩ := by
        show _ = bs [91] ++ bs (Lib.join (l.map txt) [44, 32]) ++ bs [93]
        rw [bs_append, bs_append, e0]
      rw [e]
      have hjl : (Lib.join (l.map txt) [44, 32]).length ≤ 1099511627776 := by
        rw [e0, List.length_append, List.length_append] at hlen
        omega
      have hj := joined_ev l [44, 32] (fun x hx => ih x hx (Nat.le_trans (join_len [44, 32] _ _ (List.mem_map_of_mem hx)) hjl)) hjl (by simp)
      have zj : (bs (Lib.join (l.map txt) [44, 32])).size ≤ 1099511627776 := by rw [bs_size]; exact hjl
      refine enter1 Tryz.func44 Tryz.ntmps44 rfl rfl fun w0 F0 => ?_
      repeat' (first | (refine qS rfl ?_ ?_; (first | exact True.intro | rfl | assumption | omega | (simp only [inR]; omega) | ((show _ ≤ (9223372036854775807 : Nat)); (try simp only [ByteArray.size_append]); omega) | exact tmod_ok (by omega) (by omega) | exact tdiv_ok (by omega) (by omega) | exact ⟨rfl, by decide, by decide⟩)) | refine qA ?_ | refine qB rfl ?_ | refine qC (by kernel_rfl) ?_ | refine qD ?_ | refine qE ?_ | refine qF ?_ | refine qG ?_ | refine qH rfl ?_ | refine qP rfl rfl rfl rfl rfl rfl b38 (hv) ?_ | refine qP rfl rfl rfl rfl rfl rfl b85 (hj) ?_ | (refine qT rfl ?_ ?_; (first | rfl | assumption)) | (refine qU rfl ?_ ?_; (first | rfl | assumption)) | refine qL rfl rfl ?_ | refine qM rfl rfl rfl ?_ | refine qO rfl rfl rfl ?_ | refine qX (b' := true) rfl rfl rfl rfl (by assumption) ?_ | refine qX (b' := false) rfl rfl rfl rfl (by assumption) ?_ | (refine qY rfl rfl rfl rfl ?_ ?_ <;> intro _) | exact (rfl : (_ : D) = _) | exact (rfl : (_ : List D) = _))
end Go.Proofs.YtpjnngfjbcjikaaGreatDoor
