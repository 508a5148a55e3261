/- Values as text, by both texts. Conditions: a text of at most 2^40 bytes. -/
import Derived.Test.YtpjnngfjbcjikaaDoorM19
namespace Go.Proofs.YtpjnngfjbcjikaaDoor
open Go Go.Abs Go.Val Go.RowKit

mutual
def txt : V → List UInt8
  | .mk k n d s l =>
    bif !(Val.okV (.mk k n d s l)) then [63] else
    bif k == 1 then (bif n == 1 then [116, 114, 117, 101] else [102, 97, 108, 115, 101]) else
    bif k == 2 then Lib.itoa n else
    bif k == 3 then Lib.itoa n ++ [47] ++ Lib.itoa d else
    bif k == 4 then [39] ++ dbl s.data.toList ++ [39] else
    bif k == 5 then [35] ++ Lib.itoa n else
    bif k == 6 then [64] ++ Lib.itoa n else
    bif k == 8 then [91] ++ Lib.join (txtL l) [44, 32] ++ [93] else
    bif k == 7 then [60] ++ Lib.join (txtL l) [32] ++ [62] else [110, 117, 108, 108]
def txtL : List V → List (List UInt8)
  | [] => []
  | v :: r => txt v :: txtL r
end
theorem txtL_map (l : List V) : txtL l = l.map txt := by
  induction l with
  | nil => simp [txtL]
  | cons v r ih => simp [txtL, ih]
theorem join_len (sep : List UInt8) : ∀ (xs : List (List UInt8)) (x : List UInt8), x ∈ xs → x.length ≤ (Lib.join xs sep).length
  | [], x, h => by simp at h
  | a :: r, x, h => by
    rw [Lib.join_cons, List.length_append]
    rcases List.mem_cons.1 h with e | e
    · rw [e]; omega
    · have : x.length ≤ (Lib.joinTail sep r).length := by
        clear h
        induction r with
        | nil => simp at e
        | cons b q ih =>
          have hc : Lib.joinTail sep (b :: q) = (sep ++ b) ++ Lib.joinTail sep q := rfl
          rw [hc, List.length_append, List.length_append]
          rcases List.mem_cons.1 e with e' | e'
          · rw [e']; omega
          · have := ih e'; omega
      omega
theorem okV_k {v : V} (h : Val.okV v = true) : v.k = 0 ∨ v.k = 1 ∨ v.k = 2 ∨ v.k = 3 ∨ v.k = 4 ∨ v.k = 5 ∨ v.k = 6 ∨ v.k = 7 ∨ v.k = 8 := by
  unfold Val.okV at h
  simp only [okN, okFlat, Bool.or_eq_true, Bool.and_eq_true, beq_iff_eq] at h
  omega
theorem okV_3 {n d : Int} {s : ByteArray} {l : List V} (h : Val.okV (.mk 3 n d s l) = true) : d ≥ 2 ∧ fval n d = true := by
  unfold Val.okV at h
  rw [okN_flat 8 3 n d s l (by omega) (by omega)] at h
  simp [okFlat, V.k, V.n, V.d, V.s, V.l] at h
  exact ⟨h.2.1, h.2.2⟩
theorem okV_4 {n d : Int} {s : ByteArray} {l : List V} (h : Val.okV (.mk 4 n d s l) = true) : s.size ≤ 100 := by
  unfold Val.okV at h
  rw [okN_flat 8 4 n d s l (by omega) (by omega)] at h
  simp [okFlat, V.k, V.n, V.d, V.s, V.l, strOK] at h
  exact of_decide_eq_true h.2.2.2
theorem okV_7 {n d : Int} {s : ByteArray} {l : List V} (h : Val.okV (.mk 7 n d s l) = true) : l.length ≤ 25 := by
  unfold Val.okV at h
  rw [okN_7] at h
  simp only [okPath, Bool.and_eq_true, decide_eq_true_eq] at h
  omega
theorem okV_8 {n d : Int} {s : ByteArray} {l : List V} (h : Val.okV (.mk 8 n d s l) = true) : l.length ≤ 64 := by
  unfold Val.okV at h
  rw [okN_8 7] at h
  simp only [Bool.and_eq_true, decide_eq_true_eq] at h
  omega
structure SJ (xs : List (List UInt8)) (sep : List UInt8) where
  i : Nat
  s : List UInt8
  hi : i ≤ xs.length
  h0 : i = 0 → s = []
  h1 : i ≠ 0 → s ++ Lib.joinTail sep (xs.drop i) = Lib.join xs sep
theorem joinTail_at {xs : List (List UInt8)} {sep x : List UInt8} {i : Nat} (h : xs[i]? = some x) : Lib.joinTail sep (xs.drop i) = sep ++ x ++ Lib.joinTail sep (xs.drop (i + 1)) := by
  rw [drop_at h]
  rfl
theorem join_ev (xs : List ByteArray) (sep : ByteArray) (hN : xs.length ≤ 140737488355328) (hlen : (Lib.join (xs.map (·.data.toList)) sep.data.toList).length ≤ 140737488355328) : Ev E 50 [.sl (xs.map .str), .str sep] (.d (.str (bs (Lib.join (xs.map (·.data.toList)) sep.data.toList)))) := by
  intro w F vs hF hG hl hr
  match vs, hl with
  | [v, u], _ =>
    have h0 := hr 0 _ v rfl rfl
    obtain ⟨rfl, -⟩ := Rd.imm_inv (hr 1 _ u rfl rfl)
    have hok : Go.Abs.okV (.string (bs (Lib.join (xs.map (·.data.toList)) sep.data.toList))) = true := by
      simp only [Go.Abs.okV, decide_eq_true_eq, bs_size, maxLen]
      omega
    have hnone : ∀ (a : Option Addr) (c : Nat), v = .slice a 0 c → xs = [] → Calls E.P 50 #[v, .string sep] w fun e w' => ∃ v F', e = .returned v ∧ Ext w F w' F' ∧ RdX w' F' [] (.d (.str (bs (Lib.join (xs.map (·.data.toList)) sep.data.toList)))) v := by
      rintro a c rfl rfl
      refine (Tryd.strings_Join_none a c sep w).mono ?_
      rintro e w' ⟨rfl, rfl⟩
      exact ⟨_, F, rfl, Ext.refl hF, Rd.imm _ hok⟩
    rcases Rd.sl_inv h0 with ⟨hx, rfl⟩ | ⟨size, ad, cap, rfl, h1, h2, h3, h4, h5, h6⟩
    · exact hnone none 0 rfl (by simpa using hx)
    · by_cases hx : xs = []
      · exact hnone _ _ (by rw [hx]; rfl) hx
      · have hlen' : (xs.map D.str).length = xs.length := by simp
        have hcell : ∀ (j : Nat) x, xs[j]? = some x → w.cell? (ad.add j) = some (.string x) := by
          intro j x hj
          have hj' : (xs.map D.str)[j]? = some (.str x) := by rw [List.getElem?_map, hj]; rfl
          have hs1 : size = 1 := (h4 _ (List.mem_of_getElem? hj')).symm
          obtain ⟨q, e1, e2⟩ := h6 j _ 0 _ hj' rfl
          obtain ⟨rfl, -⟩ := Rd.imm_inv e2
          rw [hs1, Nat.mul_one, Nat.add_zero] at e1
          exact e1
        obtain ⟨bk, o, sp⟩ := ad
        have hsp : sp = none := by
          obtain ⟨x0, hx0⟩ : ∃ x, xs[0]? = some x := ⟨xs[0]'(List.length_pos_iff.2 hx), List.getElem?_eq_getElem _⟩
          have := hcell 0 x0 hx0
          cases sp with
          | none => rfl
          | some q =>
            have e : (⟨bk, o, some q⟩ : Addr).add 0 = ⟨bk, o, some q⟩ := by simp [Addr.add]
            rw [e] at this
            unfold World.cell? at this
            simp only [Option.isSome_some, if_true] at this
            split at this <;> cases this
        subst hsp
        rw [hlen'] at h1 ⊢
        have hbk : bk < w.heap.size := hF _ (h3 (by simpa using hx))
        refine (Tryd.strings_Join bk o cap xs sep w (fun j x hj => by rw [← add_mk]; exact hcell j x hj) hbk hN h1 hlen).mono ?_
        rintro e w' ⟨rfl, hb⟩
        exact ⟨_, F, rfl, Ext.of_below hb hF, Rd.imm _ hok⟩
end Go.Proofs.YtpjnngfjbcjikaaDoor
namespace Go.Proofs.YtpjnngfjbcjikaaDoor
open Go Go.Abs Go.Val Go.RowKit
attribute [local irreducible] go SGo HasBody Ev ExtEv
theorem itoa_bs (n : Int) : (⟨(Lib.itoa n).toArray⟩ : ByteArray) = bs (Lib.itoa n) := rfl
end Go.Proofs.YtpjnngfjbcjikaaDoor
