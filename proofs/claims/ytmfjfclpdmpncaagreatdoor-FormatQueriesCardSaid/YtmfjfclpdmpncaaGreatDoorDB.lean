/- Path patterns as text, by both texts; Conditions, bounds, names and columns as text, by both texts; Columns as text, by both texts; Assignments as text, by both texts. Conditions: each part's own, as it says. -/
import Derived.Test.YtmfjfclpdmpncaaGreatDoorDA
import Derived.Test.YtmfjfclpdmpncaaGreatDoorGC
import Derived.Test.YtmfjfclpdmpncaaGreatDoorCC
set_option linter.unusedVariables false
set_option linter.unusedSimpArgs false
/- Path patterns as text, by both texts. Conditions: patterns that the check accepts, of bounded size. -/
namespace Go.Proofs.YtmfjfclpdmpncaaGreatDoor
set_option maxRecDepth 4000
open Go Go.Abs Go.Val Go.RowKit
attribute [local irreducible] go SGo HasBody Ev ExtEv EvO EvS RGo

theorem pv_bs (p : PA) : bs (pvT p) = bif p.vr.toList == (⟨#[]⟩ : ByteArray).toList then ⟨#[]⟩ else p.vr ++ ⟨#[32, 61, 32]⟩ := by
  unfold pvT s0B isS
  cases p.vr.toList == (⟨#[]⟩ : ByteArray).toList
  · apply ba_ex; simp [bs, bl]
  · rfl
theorem pv_le {p : PA} (h : p.vr.size ≤ 20) : (pvT p).length ≤ 23 := by
  have := bl_len p.vr
  unfold pvT
  cases s0B p.vr <;> simp only [cond_true, cond_false, List.length_append, List.length_cons, List.length_nil] <;> omega
theorem pat0 (p : PA) : bs (pvT p ++ ((paL p).take 0).flatten) = bs (pvT p) := by rw [List.take_zero]; simp
theorem pat_all {p : PA} {i : Nat} (h : (paL p).length ≤ i) : bs (pvT p ++ ((paL p).take i).flatten) = bs (paT p) := by rw [List.take_of_length_le h]; rfl
theorem pat_0 {p : PA} {n : NP} (h : p.ns[0]? = some n) : bs (pvT p ++ ((paL p).take 0).flatten) ++ bs (ndT n) = bs (pvT p ++ ((paL p).take 1).flatten) := by
  rw [flat_at (pal_at (a := []) rfl h)]
  apply ba_ex; simp [bs]
theorem pat_s {p : PA} {i : Nat} {n : NP} {e : EP} (h : p.ns[i]? = some n) (hi : 0 < i) (he : p.es[i - 1]? = some e) : bs (pvT p ++ ((paL p).take i).flatten) ++ bs (edT e) ++ bs (ndT n) = bs (pvT p ++ ((paL p).take (i + 1)).flatten) := by
  have h1 : ([] :: p.es.map edT)[i]? = some (edT e) := by
    obtain ⟨j, rfl⟩ : ∃ j, i = j + 1 := ⟨i - 1, by omega⟩
    rw [List.getElem?_cons_succ, List.getElem?_map]
    rw [Nat.add_sub_cancel] at he
    rw [he]; rfl
  rw [flat_at (pal_at h1 h)]
  apply ba_ex; simp [bs]
theorem pat_le {p : PA} (h : TxA p) (i : Nat) : (bs (pvT p ++ ((paL p).take i).flatten)).size ≤ 112022000 := by
  have h1 := flat_take_le (paL p) i
  have h2 := paf_le h
  have h3 := pv_le h.v
  rw [bs_size, List.length_append]
  omega
set_option maxHeartbeats 4000000 in
theorem fpaths_ev (l : List PA) (hn : l.length ≤ 8) (h : ∀ p ∈ l, TxA p) : Ev E 115 [.sl (l.map encPA)] (.d (.str (bs (Lib.join (l.map paT) [44, 32])))) := by
  have hle : (l.map encPA).length = l.length := by simp
  have hj := joind_ev (l.map paT) [44, 32] (by rw [List.length_map]; omega) (by have := pas_le hn h; omega)
  have y1 : (⟨#[32, 61, 32]⟩ : ByteArray).size = 3 := rfl
  refine enter1 Tryz.func115 Tryz.ntmps115 rfl rfl fun w0 F0 O => ?_
  repeat' (first | refine zS rfl ?_ | refine qA ?_ | refine qB rfl ?_ | refine qD ?_ | refine qF ?_)
  refine go_loop_ (α := SDx l) (fun p => ⟨[(3, rowK 0 (strD ((l.take p.i).map paT))), (9, .d (.sl (l.map encPA))), (10, .d (.int (l.map encPA).length)), (11, .d (.int p.i))], rowO 9 1 (strD ((l.take p.i).map paT))⟩) (fun p => l.length - p.i) ⟨0, by omega⟩ ((zle 0)) ?_
  rintro ⟨i, hi⟩
  dsimp only
  have hol : (strD ((l.take i).map paT)).length ≤ 1000000 := by simp [strD]; omega
  rcases Nat.lt_or_ge i l.length with hlt | hge
  · have g1 : decide ((i : Int) < ((l.map encPA).length : Int)) = true := by rw [hle]; simpa using hlt
    have hx0 := List.getElem?_eq_getElem hlt
    generalize l[i] = x at hx0
    have hx := map_c (f := encPA) hx0
    have hm := List.mem_of_getElem? hx0
    have hT := h x hm
    have hnx := strD_at (f := paT) hx0
    have zpa := pa_le hT
    rw [← bs_size] at zpa
    generalize strD ((l.take i).map paT) = o at *
    clear hx0
    have hpv := pv_bs x
    have hzp : (bs (pvT x)).size ≤ 23 := by rw [bs_size]; exact pv_le hT.v
    have hp0 := pat0 x
    have hvr := hT.v
    have hes := hT.m
    have hnn := hT.n
    have hall := fun j => pat_all (p := x) (i := j)
    have hlen := pal_len hnn
    have hs0 := fun n => pat_0 (p := x) (n := n)
    have hss := fun j n e => pat_s (p := x) (i := j) (n := n) (e := e)
    have hle2 := pat_le hT
    have hN := hT.ns
    have hE := hT.es
    obtain ⟨vr, ns, es⟩ := x
    dsimp only at hpv hvr hes hnn hs0 hss hlen hN hE
    have hln : (ns.map encNP).length = ns.length := by simp
    have hlee : (es.map encEP).length = es.length := by simp
    have hfin : bs (pvT ⟨vr, ns, es⟩ ++ ((paL ⟨vr, ns, es⟩).take ns.length).flatten) = bs (paT ⟨vr, ns, es⟩) := hall _ (by omega)
    match o, hol with
    | [], hol =>
      dsimp only [rowK, rowO]
      cases hv : vr.toList == (⟨#[]⟩ : ByteArray).toList with
      | true =>
        rw [hv] at hpv
        simp only [cond_true, cond_false] at hpv
        have hv2 : (!(vr.toList == (⟨#[]⟩ : ByteArray).toList)) = !true := by rw [hv]
        simp only [Bool.not_true, Bool.not_false] at hv2
        repeat' (first | refine zS rfl ?_ | refine qA ?_ | refine qB rfl ?_ | refine qD ?_ | refine qE ?_ | refine qF ?_ | refine qI (encPA ⟨vr, ns, es⟩) rfl (guardX_ok rfl) rfl rfl rfl rfl rfl rfl (by first | omega | decide) hx ?_ | refine zT rfl ?_ | refine zU rfl ?_)
        refine go_loop_ (α := SDx ns) (fun p => ⟨[(3, .nilS), (9, .d (.sl (l.map encPA))), (10, .d (.int (l.map encPA).length)), (11, .d (.int i)), (5, .ptr 0 0), (6, .d (.str (bs (pvT ⟨vr, ns, es⟩ ++ ((paL ⟨vr, ns, es⟩).take p.i).flatten)))), (22, .d (.sl (ns.map encNP))), (23, .d (.int (ns.map encNP).length)), (24, .d (.int p.i))], [oPA ⟨vr, ns, es⟩]⟩) (fun p => ns.length - p.i) ⟨0, by omega⟩ (by dsimp only; rw [hp0, hpv]; exact (zle 1)) ?_
        rintro ⟨j, hj⟩
        dsimp only
        rcases Nat.lt_or_ge j ns.length with hlt2 | hge2
        · have k1 : decide ((j : Int) < ((ns.map encNP).length : Int)) = true := by rw [hln]; simpa using hlt2
          have hy0 := List.getElem?_eq_getElem hlt2
          generalize ns[j] = n at hy0
          have hy := map_c (f := encNP) hy0
          have hTn := hN n (List.mem_of_getElem? hy0)
          have hnd := fnode_ev n hTn
          have znd := nd_le hTn
          rw [← bs_size] at znd
          have zs := hle2 j
          by_cases hj0 : j = 0
          · subst hj0
            have k2 : decide (((0 : Nat) : Int) > 0) = false := rfl
            have e1 := hs0 n hy0
            repeat' (first | refine zS rfl ?_ | refine qA ?_ | refine qB rfl ?_ | refine qD ?_ | refine qE ?_ | refine qF ?_ | refine qG ?_ | refine qI (encNP n) rfl (guardX_ok rfl) rfl rfl rfl rfl rfl rfl (by first | omega | decide) hy ?_ | refine qP rfl rfl rfl rfl rfl rfl b210 (hnd) ?_ | refine zT rfl ?_ | refine zU rfl ?_)
            refine go_stop ?_
            rw [e1]
            exact ⟨⟨1, by omega⟩, by dsimp only; omega, (zle 1)⟩
          · have k2 : decide ((j : Int) > 0) = true := by simp; omega
            have hw0 := List.getElem?_eq_getElem (l := es) (i := j - 1) (by omega)
            generalize es[j - 1] = w at hw0
            have hw : (es.map encEP)[((j : Int) - 1).toNat]? = some (encEP w) := by
              have := map_c (f := encEP) hw0
              rw [show ((j : Int) - 1).toNat = j - 1 by omega]
              rw [Int.toNat_natCast] at this
              exact this
            have hTe := hE w (List.mem_of_getElem? hw0)
            have hed := fedge_ev w hTe
            have zed := ed_le hTe
            rw [← bs_size] at zed
            have e1 := hss j n w hy0 (by omega) hw0
            repeat' (first | refine zS rfl ?_ | refine qA ?_ | refine qB rfl ?_ | refine qD ?_ | refine qE ?_ | refine qF ?_ | refine qG ?_ | refine qI (encNP n) rfl (guardX_ok rfl) rfl rfl rfl rfl rfl rfl (by first | omega | decide) hy ?_ | refine qI (encEP w) rfl (guardX_ok rfl) rfl rfl rfl rfl rfl rfl (by first | omega | decide) hw ?_ | refine qP rfl rfl rfl rfl rfl rfl b210 (hnd) ?_ | refine qP rfl rfl rfl rfl rfl rfl b209 (hed) ?_ | refine zT rfl ?_)
            refine go_stop ?_
            rw [e1]
            exact ⟨⟨j + 1, by omega⟩, by dsimp only; omega, (zle 1)⟩
        · have k1 : decide ((j : Int) < ((ns.map encNP).length : Int)) = false := by rw [hln]; simp; omega
          obtain rfl : j = ns.length := by omega
          rw [hfin]
          repeat' (first | refine zS rfl ?_ | refine qA ?_ | refine qB rfl ?_ | refine qD ?_ | refine qG ?_ | refine qH rfl ?_ | (refine qS rfl ⟨by simp, fun d hd => by (obtain rfl := List.mem_singleton.1 hd; rfl), by (show (0 + 1) * 16 ≤ 140737488355328; omega), by (show 0 + 1 ≤ 9223372036854775807; omega)⟩ ?_) | refine zU rfl ?_)
          refine go_stop ?_
          refine ⟨⟨i + 1, by omega⟩, by dsimp only; omega, ?_⟩
          dsimp only
          rw [hnx]
          exact (zren [1])
      | false =>
        rw [hv] at hpv
        simp only [cond_true, cond_false] at hpv
        have hv2 : (!(vr.toList == (⟨#[]⟩ : ByteArray).toList)) = !false := by rw [hv]
        simp only [Bool.not_true, Bool.not_false] at hv2
        repeat' (first | refine zS rfl ?_ | refine qA ?_ | refine qB rfl ?_ | refine qD ?_ | refine qE ?_ | refine qF ?_ | refine qI (encPA ⟨vr, ns, es⟩) rfl (guardX_ok rfl) rfl rfl rfl rfl rfl rfl (by first | omega | decide) hx ?_ | refine zT rfl ?_)
        refine go_loop_ (α := SDx ns) (fun p => ⟨[(3, .nilS), (9, .d (.sl (l.map encPA))), (10, .d (.int (l.map encPA).length)), (11, .d (.int i)), (5, .ptr 0 0), (6, .d (.str (bs (pvT ⟨vr, ns, es⟩ ++ ((paL ⟨vr, ns, es⟩).take p.i).flatten)))), (22, .d (.sl (ns.map encNP))), (23, .d (.int (ns.map encNP).length)), (24, .d (.int p.i))], [oPA ⟨vr, ns, es⟩]⟩) (fun p => ns.length - p.i) ⟨0, by omega⟩ (by dsimp only; rw [hp0, hpv]; exact (zle 1)) ?_
        rintro ⟨j, hj⟩
        dsimp only
        rcases Nat.lt_or_ge j ns.length with hlt2 | hge2
        · have k1 : decide ((j : Int) < ((ns.map encNP).length : Int)) = true := by rw [hln]; simpa using hlt2
          have hy0 := List.getElem?_eq_getElem hlt2
          generalize ns[j] = n at hy0
          have hy := map_c (f := encNP) hy0
          have hTn := hN n (List.mem_of_getElem? hy0)
          have hnd := fnode_ev n hTn
          have znd := nd_le hTn
          rw [← bs_size] at znd
          have zs := hle2 j
          by_cases hj0 : j = 0
          · subst hj0
            have k2 : decide (((0 : Nat) : Int) > 0) = false := rfl
            have e1 := hs0 n hy0
            repeat' (first | refine zS rfl ?_ | refine qA ?_ | refine qB rfl ?_ | refine qD ?_ | refine qE ?_ | refine qF ?_ | refine qG ?_ | refine qI (encNP n) rfl (guardX_ok rfl) rfl rfl rfl rfl rfl rfl (by first | omega | decide) hy ?_ | refine qP rfl rfl rfl rfl rfl rfl b210 (hnd) ?_ | refine zT rfl ?_ | refine zU rfl ?_)
            refine go_stop ?_
            rw [e1]
            exact ⟨⟨1, by omega⟩, by dsimp only; omega, (zle 1)⟩
          · have k2 : decide ((j : Int) > 0) = true := by simp; omega
            have hw0 := List.getElem?_eq_getElem (l := es) (i := j - 1) (by omega)
            generalize es[j - 1] = w at hw0
            have hw : (es.map encEP)[((j : Int) - 1).toNat]? = some (encEP w) := by
              have := map_c (f := encEP) hw0
              rw [show ((j : Int) - 1).toNat = j - 1 by omega]
              rw [Int.toNat_natCast] at this
              exact this
            have hTe := hE w (List.mem_of_getElem? hw0)
            have hed := fedge_ev w hTe
            have zed := ed_le hTe
            rw [← bs_size] at zed
            have e1 := hss j n w hy0 (by omega) hw0
            repeat' (first | refine zS rfl ?_ | refine qA ?_ | refine qB rfl ?_ | refine qD ?_ | refine qE ?_ | refine qF ?_ | refine qG ?_ | refine qI (encNP n) rfl (guardX_ok rfl) rfl rfl rfl rfl rfl rfl (by first | omega | decide) hy ?_ | refine qI (encEP w) rfl (guardX_ok rfl) rfl rfl rfl rfl rfl rfl (by first | omega | decide) hw ?_ | refine qP rfl rfl rfl rfl rfl rfl b210 (hnd) ?_ | refine qP rfl rfl rfl rfl rfl rfl b209 (hed) ?_ | refine zT rfl ?_)
            refine go_stop ?_
            rw [e1]
            exact ⟨⟨j + 1, by omega⟩, by dsimp only; omega, (zle 1)⟩
        · have k1 : decide ((j : Int) < ((ns.map encNP).length : Int)) = false := by rw [hln]; simp; omega
          obtain rfl : j = ns.length := by omega
          rw [hfin]
          repeat' (first | refine zS rfl ?_ | refine qA ?_ | refine qB rfl ?_ | refine qD ?_ | refine qG ?_ | refine qH rfl ?_ | (refine qS rfl ⟨by simp, fun d hd => by (obtain rfl := List.mem_singleton.1 hd; rfl), by (show (0 + 1) * 16 ≤ 140737488355328; omega), by (show 0 + 1 ≤ 9223372036854775807; omega)⟩ ?_) | refine zU rfl ?_)
          refine go_stop ?_
          refine ⟨⟨i + 1, by omega⟩, by dsimp only; omega, ?_⟩
          dsimp only
          rw [hnx]
          exact (zren [1])
    | a :: q, hol =>
      dsimp only [rowK, rowO]
      cases hv : vr.toList == (⟨#[]⟩ : ByteArray).toList with
      | true =>
        rw [hv] at hpv
        simp only [cond_true, cond_false] at hpv
        have hv2 : (!(vr.toList == (⟨#[]⟩ : ByteArray).toList)) = !true := by rw [hv]
        simp only [Bool.not_true, Bool.not_false] at hv2
        repeat' (first | refine zS rfl ?_ | refine qA ?_ | refine qB rfl ?_ | refine qD ?_ | refine qE ?_ | refine qF ?_ | refine qI (encPA ⟨vr, ns, es⟩) rfl (guardX_ok rfl) rfl rfl rfl rfl rfl rfl (by first | omega | decide) hx ?_ | refine zT rfl ?_ | refine zU rfl ?_)
        refine go_loop_ (α := SDx ns) (fun p => ⟨[(3, .own 0), (9, .d (.sl (l.map encPA))), (10, .d (.int (l.map encPA).length)), (11, .d (.int i)), (5, .ptr 1 0), (6, .d (.str (bs (pvT ⟨vr, ns, es⟩ ++ ((paL ⟨vr, ns, es⟩).take p.i).flatten)))), (22, .d (.sl (ns.map encNP))), (23, .d (.int (ns.map encNP).length)), (24, .d (.int p.i))], [.row 9 1 (a :: q), oPA ⟨vr, ns, es⟩]⟩) (fun p => ns.length - p.i) ⟨0, by omega⟩ (by dsimp only; rw [hp0, hpv]; exact (zle 2)) ?_
        rintro ⟨j, hj⟩
        dsimp only
        rcases Nat.lt_or_ge j ns.length with hlt2 | hge2
        · have k1 : decide ((j : Int) < ((ns.map encNP).length : Int)) = true := by rw [hln]; simpa using hlt2
          have hy0 := List.getElem?_eq_getElem hlt2
          generalize ns[j] = n at hy0
          have hy := map_c (f := encNP) hy0
          have hTn := hN n (List.mem_of_getElem? hy0)
          have hnd := fnode_ev n hTn
          have znd := nd_le hTn
          rw [← bs_size] at znd
          have zs := hle2 j
          by_cases hj0 : j = 0
          · subst hj0
            have k2 : decide (((0 : Nat) : Int) > 0) = false := rfl
            have e1 := hs0 n hy0
            repeat' (first | refine zS rfl ?_ | refine qA ?_ | refine qB rfl ?_ | refine qD ?_ | refine qE ?_ | refine qF ?_ | refine qG ?_ | refine qI (encNP n) rfl (guardX_ok rfl) rfl rfl rfl rfl rfl rfl (by first | omega | decide) hy ?_ | refine qP rfl rfl rfl rfl rfl rfl b210 (hnd) ?_ | refine zT rfl ?_ | refine zU rfl ?_)
            refine go_stop ?_
            rw [e1]
            exact ⟨⟨1, by omega⟩, by dsimp only; omega, (zle 2)⟩
          · have k2 : decide ((j : Int) > 0) = true := by simp; omega
            have hw0 := List.getElem?_eq_getElem (l := es) (i := j - 1) (by omega)
            generalize es[j - 1] = w at hw0
            have hw : (es.map encEP)[((j : Int) - 1).toNat]? = some (encEP w) := by
              have := map_c (f := encEP) hw0
              rw [show ((j : Int) - 1).toNat = j - 1 by omega]
              rw [Int.toNat_natCast] at this
              exact this
            have hTe := hE w (List.mem_of_getElem? hw0)
            have hed := fedge_ev w hTe
            have zed := ed_le hTe
            rw [← bs_size] at zed
            have e1 := hss j n w hy0 (by omega) hw0
            repeat' (first | refine zS rfl ?_ | refine qA ?_ | refine qB rfl ?_ | refine qD ?_ | refine qE ?_ | refine qF ?_ | refine qG ?_ | refine qI (encNP n) rfl (guardX_ok rfl) rfl rfl rfl rfl rfl rfl (by first | omega | decide) hy ?_ | refine qI (encEP w) rfl (guardX_ok rfl) rfl rfl rfl rfl rfl rfl (by first | omega | decide) hw ?_ | refine qP rfl rfl rfl rfl rfl rfl b210 (hnd) ?_ | refine qP rfl rfl rfl rfl rfl rfl b209 (hed) ?_ | refine zT rfl ?_)
            refine go_stop ?_
            rw [e1]
            exact ⟨⟨j + 1, by omega⟩, by dsimp only; omega, (zle 2)⟩
        · have k1 : decide ((j : Int) < ((ns.map encNP).length : Int)) = false := by rw [hln]; simp; omega
          obtain rfl : j = ns.length := by omega
          rw [hfin]
          repeat' (first | refine zS rfl ?_ | refine qA ?_ | refine qB rfl ?_ | refine qD ?_ | refine qG ?_ | refine qH rfl ?_ | (refine qS rfl ⟨by simp, fun d hd => by (obtain rfl := List.mem_singleton.1 hd; rfl), by (show ((a :: q).length + 1) * 16 ≤ 140737488355328; omega), by (show (a :: q).length + 1 ≤ 9223372036854775807; omega)⟩ ?_) | refine zU rfl ?_)
          refine go_stop ?_
          refine ⟨⟨i + 1, by omega⟩, by dsimp only; omega, ?_⟩
          dsimp only
          rw [hnx]
          exact (zren [2])
      | false =>
        rw [hv] at hpv
        simp only [cond_true, cond_false] at hpv
        have hv2 : (!(vr.toList == (⟨#[]⟩ : ByteArray).toList)) = !false := by rw [hv]
        simp only [Bool.not_true, Bool.not_false] at hv2
        repeat' (first | refine zS rfl ?_ | refine qA ?_ | refine qB rfl ?_ | refine qD ?_ | refine qE ?_ | refine qF ?_ | refine qI (encPA ⟨vr, ns, es⟩) rfl (guardX_ok rfl) rfl rfl rfl rfl rfl rfl (by first | omega | decide) hx ?_ | refine zT rfl ?_)
        refine go_loop_ (α := SDx ns) (fun p => ⟨[(3, .own 0), (9, .d (.sl (l.map encPA))), (10, .d (.int (l.map encPA).length)), (11, .d (.int i)), (5, .ptr 1 0), (6, .d (.str (bs (pvT ⟨vr, ns, es⟩ ++ ((paL ⟨vr, ns, es⟩).take p.i).flatten)))), (22, .d (.sl (ns.map encNP))), (23, .d (.int (ns.map encNP).length)), (24, .d (.int p.i))], [.row 9 1 (a :: q), oPA ⟨vr, ns, es⟩]⟩) (fun p => ns.length - p.i) ⟨0, by omega⟩ (by dsimp only; rw [hp0, hpv]; exact (zle 2)) ?_
        rintro ⟨j, hj⟩
        dsimp only
        rcases Nat.lt_or_ge j ns.length with hlt2 | hge2
        · have k1 : decide ((j : Int) < ((ns.map encNP).length : Int)) = true := by rw [hln]; simpa using hlt2
          have hy0 := List.getElem?_eq_getElem hlt2
          generalize ns[j] = n at hy0
          have hy := map_c (f := encNP) hy0
          have hTn := hN n (List.mem_of_getElem? hy0)
          have hnd := fnode_ev n hTn
          have znd := nd_le hTn
          rw [← bs_size] at znd
          have zs := hle2 j
          by_cases hj0 : j = 0
          · subst hj0
            have k2 : decide (((0 : Nat) : Int) > 0) = false := rfl
            have e1 := hs0 n hy0
            repeat' (first | refine zS rfl ?_ | refine qA ?_ | refine qB rfl ?_ | refine qD ?_ | refine qE ?_ | refine qF ?_ | refine qG ?_ | refine qI (encNP n) rfl (guardX_ok rfl) rfl rfl rfl rfl rfl rfl (by first | omega | decide) hy ?_ | refine qP rfl rfl rfl rfl rfl rfl b210 (hnd) ?_ | refine zT rfl ?_ | refine zU rfl ?_)
            refine go_stop ?_
            rw [e1]
            exact ⟨⟨1, by omega⟩, by dsimp only; omega, (zle 2)⟩
          · have k2 : decide ((j : Int) > 0) = true := by simp; omega
            have hw0 := List.getElem?_eq_getElem (l := es) (i := j - 1) (by omega)
            generalize es[j - 1] = w at hw0
            have hw : (es.map encEP)[((j : Int) - 1).toNat]? = some (encEP w) := by
              have := map_c (f := encEP) hw0
              rw [show ((j : Int) - 1).toNat = j - 1 by omega]
              rw [Int.toNat_natCast] at this
              exact this
            have hTe := hE w (List.mem_of_getElem? hw0)
            have hed := fedge_ev w hTe
            have zed := ed_le hTe
            rw [← bs_size] at zed
            have e1 := hss j n w hy0 (by omega) hw0
            repeat' (first | refine zS rfl ?_ | refine qA ?_ | refine qB rfl ?_ | refine qD ?_ | refine qE ?_ | refine qF ?_ | refine qG ?_ | refine qI (encNP n) rfl (guardX_ok rfl) rfl rfl rfl rfl rfl rfl (by first | omega | decide) hy ?_ | refine qI (encEP w) rfl (guardX_ok rfl) rfl rfl rfl rfl rfl rfl (by first | omega | decide) hw ?_ | refine qP rfl rfl rfl rfl rfl rfl b210 (hnd) ?_ | refine qP rfl rfl rfl rfl rfl rfl b209 (hed) ?_ | refine zT rfl ?_)
            refine go_stop ?_
            rw [e1]
            exact ⟨⟨j + 1, by omega⟩, by dsimp only; omega, (zle 2)⟩
        · have k1 : decide ((j : Int) < ((ns.map encNP).length : Int)) = false := by rw [hln]; simp; omega
          obtain rfl : j = ns.length := by omega
          rw [hfin]
          repeat' (first | refine zS rfl ?_ | refine qA ?_ | refine qB rfl ?_ | refine qD ?_ | refine qG ?_ | refine qH rfl ?_ | (refine qS rfl ⟨by simp, fun d hd => by (obtain rfl := List.mem_singleton.1 hd; rfl), by (show ((a :: q).length + 1) * 16 ≤ 140737488355328; omega), by (show (a :: q).length + 1 ≤ 9223372036854775807; omega)⟩ ?_) | refine zU rfl ?_)
          refine go_stop ?_
          refine ⟨⟨i + 1, by omega⟩, by dsimp only; omega, ?_⟩
          dsimp only
          rw [hnx]
          exact (zren [2])
  · have g1 : decide ((i : Int) < ((l.map encPA).length : Int)) = false := by rw [hle]; simp; omega
    rw [List.take_of_length_le hge]
    generalize strD (l.map paT) = o at *
    match o, hj with
    | [], hj =>
      dsimp only [rowK, rowO]
      repeat' (first | refine zS rfl ?_ | refine qA ?_ | refine qB rfl ?_ | refine qD ?_ | refine qH rfl ?_ | refine qP rfl rfl rfl rfl rfl rfl b57 (hj) ?_ | refine zU rfl ?_ | refine qL rfl rfl ?_ | exact zD)
    | a :: q, hj =>
      dsimp only [rowK, rowO]
      refine qA ?_
      refine go_frz 0 rfl ?_
      repeat' (first | refine zS rfl ?_ | refine qA ?_ | refine qB rfl ?_ | refine qD ?_ | refine qH rfl ?_ | refine qP rfl rfl rfl rfl rfl rfl b57 (hj) ?_ | refine zU rfl ?_ | refine qL rfl rfl ?_ | exact zD)
set_option maxHeartbeats 2000000 in
theorem gpath_ev (p : PA) (hT : TxA p) : Ev E 217 [encPA p] (.d (.str (bs (paT p)))) := by
  have y1 : (⟨#[32, 61, 32]⟩ : ByteArray).size = 3 := rfl
  have hpv := pv_bs p
  have hzp : (bs (pvT p)).size ≤ 23 := by rw [bs_size]; exact pv_le hT.v
  have hp0 := pat0 p
  have hvr := hT.v
  have hes := hT.m
  have hnn := hT.n
  have hlen := pal_len hnn
  have hfin : bs (pvT p ++ ((paL p).take p.ns.length).flatten) = bs (paT p) := pat_all (by omega)
  have hs0 := fun n => pat_0 (p := p) (n := n)
  have hss := fun j n e => pat_s (p := p) (i := j) (n := n) (e := e)
  have hle2 := pat_le hT
  have hN := hT.ns
  have hE := hT.es
  obtain ⟨vr, ns, es⟩ := p
  dsimp only at hpv hvr hes hnn hs0 hss hlen hN hE hfin
  have hln : (ns.map encNP).length = ns.length := by simp
  have hlee : (es.map encEP).length = es.length := by simp
  rw [← hfin]
  cases hv : vr.toList == (⟨#[]⟩ : ByteArray).toList with
  | true =>
    rw [hv] at hpv
    simp only [cond_true, cond_false] at hpv
    have hv2 : (!(vr.toList == (⟨#[]⟩ : ByteArray).toList)) = !true := by rw [hv]
    simp only [Bool.not_true, Bool.not_false] at hv2
    refine enter1 Tryz.func217 Tryz.ntmps217 rfl rfl fun w0 F0 O => ?_
    repeat' (first | refine zS rfl ?_ | refine qA ?_ | refine qB rfl ?_ | refine qD ?_ | refine qE ?_ | refine qF ?_ | refine zU rfl ?_)
    refine go_loop_ (α := SDx ns) (fun p => ⟨[(1, .ptr 0 0), (3, .d (.str (bs (pvT ⟨vr, ns, es⟩ ++ ((paL ⟨vr, ns, es⟩).take p.i).flatten)))), (4, .d (.int p.i))], [oPA ⟨vr, ns, es⟩]⟩) (fun p => ns.length - p.i) ⟨0, by omega⟩ (by dsimp only; rw [hp0, hpv]; exact (zle 1)) ?_
    rintro ⟨j, hj⟩
    dsimp only
    rcases Nat.lt_or_ge j ns.length with hlt2 | hge2
    · have k1 : decide ((j : Int) < ((ns.map encNP).length : Int)) = true := by rw [hln]; simpa using hlt2
      have hy0 := List.getElem?_eq_getElem hlt2
      generalize ns[j] = n at hy0
      have hy := map_c (f := encNP) hy0
      have hTn := hN n (List.mem_of_getElem? hy0)
      have hnd := gnode_ev n hTn
      have znd := nd_le hTn
      rw [← bs_size] at znd
      have zs := hle2 j
      by_cases hj0 : j = 0
      · subst hj0
        have k2 : decide (((0 : Nat) : Int) > 0) = false := rfl
        have e1 := hs0 n hy0
        repeat' (first | refine zS rfl ?_ | refine qA ?_ | refine qB rfl ?_ | refine qD ?_ | refine qE ?_ | refine qF ?_ | refine qG ?_ | refine qI (encNP n) rfl (guardX_ok rfl) rfl rfl rfl rfl rfl rfl (by first | omega | decide) hy ?_ | refine qP rfl rfl rfl rfl rfl rfl b296 (hnd) ?_ | refine zT rfl ?_ | refine zU rfl ?_)
        refine go_stop ?_
        rw [e1]
        exact ⟨⟨1, by omega⟩, by dsimp only; omega, (zle 1)⟩
      · have k2 : decide ((j : Int) > 0) = true := by simp; omega
        have hw0 := List.getElem?_eq_getElem (l := es) (i := j - 1) (by omega)
        generalize es[j - 1] = w at hw0
        have hw : (es.map encEP)[((j : Int) - 1).toNat]? = some (encEP w) := by
          have := map_c (f := encEP) hw0
          rw [show ((j : Int) - 1).toNat = j - 1 by omega]
          rw [Int.toNat_natCast] at this
          exact this
        have hTe := hE w (List.mem_of_getElem? hw0)
        have hed := gedge_ev w hTe
        have zed := ed_le hTe
        rw [← bs_size] at zed
        have e1 := hss j n w hy0 (by omega) hw0
        repeat' (first | refine zS rfl ?_ | refine qA ?_ | refine qB rfl ?_ | refine qD ?_ | refine qE ?_ | refine qF ?_ | refine qG ?_ | refine qI (encNP n) rfl (guardX_ok rfl) rfl rfl rfl rfl rfl rfl (by first | omega | decide) hy ?_ | refine qI (encEP w) rfl (guardX_ok rfl) rfl rfl rfl rfl rfl rfl (by first | omega | decide) hw ?_ | refine qP rfl rfl rfl rfl rfl rfl b296 (hnd) ?_ | refine qP rfl rfl rfl rfl rfl rfl b295 (hed) ?_ | refine zT rfl ?_)
        refine go_stop ?_
        rw [e1]
        exact ⟨⟨j + 1, by omega⟩, by dsimp only; omega, (zle 1)⟩
    · have k1 : decide ((j : Int) < ((ns.map encNP).length : Int)) = false := by rw [hln]; simp; omega
      obtain rfl : j = ns.length := by omega
      repeat' (first | refine zS rfl ?_ | refine qA ?_ | refine qB rfl ?_ | refine qD ?_ | refine qH rfl ?_ | refine zU rfl ?_ | refine qL rfl rfl ?_ | exact zD)
  | false =>
    rw [hv] at hpv
    simp only [cond_true, cond_false] at hpv
    have hv2 : (!(vr.toList == (⟨#[]⟩ : ByteArray).toList)) = !false := by rw [hv]
    simp only [Bool.not_true, Bool.not_false] at hv2
    refine enter1 Tryz.func217 Tryz.ntmps217 rfl rfl fun w0 F0 O => ?_
    repeat' (first | refine zS rfl ?_ | refine qA ?_ | refine qB rfl ?_ | refine qD ?_ | refine qF ?_ | refine zT rfl ?_)
    refine go_loop_ (α := SDx ns) (fun p => ⟨[(1, .ptr 0 0), (3, .d (.str (bs (pvT ⟨vr, ns, es⟩ ++ ((paL ⟨vr, ns, es⟩).take p.i).flatten)))), (4, .d (.int p.i))], [oPA ⟨vr, ns, es⟩]⟩) (fun p => ns.length - p.i) ⟨0, by omega⟩ (by dsimp only; rw [hp0, hpv]; exact (zle 1)) ?_
    rintro ⟨j, hj⟩
    dsimp only
    rcases Nat.lt_or_ge j ns.length with hlt2 | hge2
    · have k1 : decide ((j : Int) < ((ns.map encNP).length : Int)) = true := by rw [hln]; simpa using hlt2
      have hy0 := List.getElem?_eq_getElem hlt2
      generalize ns[j] = n at hy0
      have hy := map_c (f := encNP) hy0
      have hTn := hN n (List.mem_of_getElem? hy0)
      have hnd := gnode_ev n hTn
      have znd := nd_le hTn
      rw [← bs_size] at znd
      have zs := hle2 j
      by_cases hj0 : j = 0
      · subst hj0
        have k2 : decide (((0 : Nat) : Int) > 0) = false := rfl
        have e1 := hs0 n hy0
        repeat' (first | refine zS rfl ?_ | refine qA ?_ | refine qB rfl ?_ | refine qD ?_ | refine qE ?_ | refine qF ?_ | refine qG ?_ | refine qI (encNP n) rfl (guardX_ok rfl) rfl rfl rfl rfl rfl rfl (by first | omega | decide) hy ?_ | refine qP rfl rfl rfl rfl rfl rfl b296 (hnd) ?_ | refine zT rfl ?_ | refine zU rfl ?_)
        refine go_stop ?_
        rw [e1]
        exact ⟨⟨1, by omega⟩, by dsimp only; omega, (zle 1)⟩
      · have k2 : decide ((j : Int) > 0) = true := by simp; omega
        have hw0 := List.getElem?_eq_getElem (l := es) (i := j - 1) (by omega)
        generalize es[j - 1] = w at hw0
        have hw : (es.map encEP)[((j : Int) - 1).toNat]? = some (encEP w) := by
          have := map_c (f := encEP) hw0
          rw [show ((j : Int) - 1).toNat = j - 1 by omega]
          rw [Int.toNat_natCast] at this
          exact this
        have hTe := hE w (List.mem_of_getElem? hw0)
        have hed := gedge_ev w hTe
        have zed := ed_le hTe
        rw [← bs_size] at zed
        have e1 := hss j n w hy0 (by omega) hw0
        repeat' (first | refine zS rfl ?_ | refine qA ?_ | refine qB rfl ?_ | refine qD ?_ | refine qE ?_ | refine qF ?_ | refine qG ?_ | refine qI (encNP n) rfl (guardX_ok rfl) rfl rfl rfl rfl rfl rfl (by first | omega | decide) hy ?_ | refine qI (encEP w) rfl (guardX_ok rfl) rfl rfl rfl rfl rfl rfl (by first | omega | decide) hw ?_ | refine qP rfl rfl rfl rfl rfl rfl b296 (hnd) ?_ | refine qP rfl rfl rfl rfl rfl rfl b295 (hed) ?_ | refine zT rfl ?_)
        refine go_stop ?_
        rw [e1]
        exact ⟨⟨j + 1, by omega⟩, by dsimp only; omega, (zle 1)⟩
    · have k1 : decide ((j : Int) < ((ns.map encNP).length : Int)) = false := by rw [hln]; simp; omega
      obtain rfl : j = ns.length := by omega
      repeat' (first | refine zS rfl ?_ | refine qA ?_ | refine qB rfl ?_ | refine qD ?_ | refine qH rfl ?_ | refine zU rfl ?_ | refine qL rfl rfl ?_ | exact zD)
theorem gpaths_ev (l : List PA) (hn : l.length ≤ 8) (h : ∀ p ∈ l, TxA p) : Ev E 122 [.sl (l.map encPA)] (.d (.str (bs (Lib.join (l.map paT) [44, 32])))) := by
  have hle : (l.map encPA).length = l.length := by simp
  have hlen := pas_le hn h
  have y1 : (⟨#[44, 32]⟩ : ByteArray).size = 2 := rfl
  refine enter1 Tryz.func122 Tryz.ntmps122 rfl rfl fun w0 F0 O => ?_
  repeat' (first | refine zS rfl ?_ | refine qA ?_ | refine qB rfl ?_ | refine qD ?_ | refine qF ?_)
  refine go_loop_ (α := SJ (l.map paT) [44, 32]) (fun p => ⟨[(0, .d (.sl (l.map encPA))), (3, .d (.str (bs p.s))), (4, .d (.int p.i))], []⟩) (fun p => l.length - p.i) ⟨0, [], by omega, fun _ => rfl, fun h => absurd rfl h⟩ ((zle 0)) ?_
  rintro ⟨i, s, hi, h0, h1⟩
  dsimp only
  rw [List.length_map] at hi
  rcases Nat.lt_or_ge i l.length with hlt | hge
  · have g1 : decide ((i : Int) < ((l.map encPA).length : Int)) = true := by rw [hle]; simpa using hlt
    have hx0 := List.getElem?_eq_getElem hlt
    generalize l[i] = x at hx0
    have hx := map_c (f := encPA) hx0
    have hm := List.mem_of_getElem? hx0
    have hmm : (l.map paT)[i]? = some (paT x) := by rw [List.getElem?_map, hx0]; rfl
    have ht := gpath_ev x (h x hm)
    have zt : (bs (paT x)).size ≤ 112022000 := by rw [bs_size]; exact pa_le (h x hm)
    by_cases hi0 : i = 0
    · subst hi0
      have hs0 := h0 rfl
      subst hs0
      have g2 : decide (((0 : Nat) : Int) > 0) = false := rfl
      have z2 : (bs []).size = 0 := rfl
      repeat' (first | refine zS rfl ?_ | refine qA ?_ | refine qB rfl ?_ | refine qD ?_ | refine qE ?_ | refine qF ?_ | refine qG ?_ | refine qI (encPA x) rfl (guardX_ok rfl) rfl rfl rfl rfl rfl rfl (by first | omega | decide) hx ?_ | refine qP rfl rfl rfl rfl rfl rfl b217 (ht) ?_ | refine zT rfl ?_ | refine zU rfl ?_)
      refine go_stop ?_
      rw [bs_append]
      exact ⟨⟨1, [] ++ paT x, by rw [List.length_map]; omega, fun h => by omega, fun _ => by have := drop_at hmm; rw [List.drop_zero] at this; rw [List.nil_append]; conv => rhs; rw [this, Lib.join_cons]⟩, by dsimp only; omega, (zle 0)⟩
    · have g2 : decide ((i : Int) > 0) = true := by simp; omega
      have h1' := h1 hi0
      rw [joinTail_at hmm] at h1'
      have hll : s.length ≤ 896176016 := by
        have := congrArg List.length h1'
        simp only [List.length_append] at this
        omega
      rw [← bs_size] at hll
      repeat' (first | refine zS rfl ?_ | refine qA ?_ | refine qB rfl ?_ | refine qD ?_ | refine qE ?_ | refine qF ?_ | refine qG ?_ | refine qI (encPA x) rfl (guardX_ok rfl) rfl rfl rfl rfl rfl rfl (by first | omega | decide) hx ?_ | refine qP rfl rfl rfl rfl rfl rfl b217 (ht) ?_ | refine zT rfl ?_)
      refine go_stop ?_
      rw [show (⟨#[44, 32]⟩ : ByteArray) = bs [44, 32] from rfl, bs_append, bs_append]
      exact ⟨⟨i + 1, s ++ [44, 32] ++ paT x, by rw [List.length_map]; omega, fun h => by omega, fun _ => by rw [← h1']; simp only [List.append_assoc]⟩, by dsimp only; omega, (zle 0)⟩
  · have g1 : decide ((i : Int) < ((l.map encPA).length : Int)) = false := by rw [hle]; simp; omega
    have e : Lib.join (l.map paT) [44, 32] = s := by
      by_cases hi0 : i = 0
      · have : l = [] := List.eq_nil_of_length_eq_zero (by omega)
        rw [this, h0 hi0]
        rfl
      · rw [← h1 hi0, List.drop_eq_nil_of_le (by rw [List.length_map]; omega)]
        simp [Lib.joinTail]
    rw [e]
    repeat' (first | refine zS rfl ?_ | refine qA ?_ | refine qB rfl ?_ | refine qD ?_ | refine qH rfl ?_ | refine zU rfl ?_ | refine qL rfl rfl ?_ | exact zD)
end Go.Proofs.YtmfjfclpdmpncaaGreatDoor

/- Conditions, bounds, names and columns as text, by both texts. Conditions: clauses that the check accepts, of bounded size. -/
namespace Go.Proofs.YtmfjfclpdmpncaaGreatDoor
set_option maxRecDepth 4000
open Go Go.Abs Go.Val Go.RowKit
attribute [local irreducible] go SGo HasBody Ev ExtEv EvO EvS RGo

theorem wh_bs (x : Ex) (r : List Ex) : bs (whT (x :: r)) = ⟨#[32, 87, 72, 69, 82, 69, 32]⟩ ++ bs (txE x) := by apply ba_ex; simp [bs, whT]
theorem fwhere_ev (l : List Ex) (h : ∀ e ∈ l, TxX e) : Ev E 116 [.sl (encEL l)] (.d (.str (bs (whT l)))) := by
  have y1 : (⟨#[32, 87, 72, 69, 82, 69, 32]⟩ : ByteArray).size = 7 := rfl
  match l, h with
  | [], h =>
    have e : bs (whT []) = ⟨#[]⟩ := rfl
    have g : (((encEL []).length : Int) == 0) = true := rfl
    rw [e]
    refine enter1 Tryz.func116 Tryz.ntmps116 rfl rfl fun w0 F0 O => ?_
    repeat' (first | refine zS rfl ?_ | refine qA ?_ | refine qB rfl ?_ | refine qD ?_ | refine zT rfl ?_ | refine qL rfl rfl ?_ | exact zD)
  | x :: r, h =>
    have hx : (encEL (x :: r))[((0 : Nat) : Int).toNat]? = some (encE x) := rfl
    have g : (((encEL (x :: r)).length : Int) == 0) = false := by rw [encEL_len]; simp; omega
    have g1 : (encEL (x :: r)).length = r.length + 1 := by rw [encEL_len]; rfl
    have ht := txx_ev (h x (by simp))
    have zt := txx_le (h x (by simp))
    rw [← bs_size] at zt
    rw [wh_bs]
    generalize encEL (x :: r) = L at *
    refine enter1 Tryz.func116 Tryz.ntmps116 rfl rfl fun w0 F0 O => ?_
    repeat' (first | refine zS rfl ?_ | refine qA ?_ | refine qB rfl ?_ | refine qD ?_ | refine qE ?_ | refine qI (encE x) rfl (guardX_ok rfl) rfl rfl rfl rfl rfl rfl (by first | omega | decide) hx ?_ | refine qP rfl rfl rfl rfl rfl rfl b109 (ht) ?_ | refine zU rfl ?_ | refine qL rfl rfl ?_ | exact zD)
theorem gwhere_ev (l : List Ex) (h : ∀ e ∈ l, TxX e) : Ev E 123 [.sl (encEL l)] (.d (.str (bs (whT l)))) := by
  have y1 : (⟨#[32, 87, 72, 69, 82, 69, 32]⟩ : ByteArray).size = 7 := rfl
  match l, h with
  | [], h =>
    have e : bs (whT []) = ⟨#[]⟩ := rfl
    have g : (((encEL []).length : Int) == 0) = true := rfl
    rw [e]
    refine enter1 Tryz.func123 Tryz.ntmps123 rfl rfl fun w0 F0 O => ?_
    repeat' (first | refine zS rfl ?_ | refine qA ?_ | refine qB rfl ?_ | refine qD ?_ | refine zT rfl ?_ | refine qL rfl rfl ?_ | exact zD)
  | x :: r, h =>
    have hx : (encEL (x :: r))[((0 : Nat) : Int).toNat]? = some (encE x) := rfl
    have g : (((encEL (x :: r)).length : Int) == 0) = false := by rw [encEL_len]; simp; omega
    have g1 : (encEL (x :: r)).length = r.length + 1 := by rw [encEL_len]; rfl
    have ht := rtxx_ev (h x (by simp))
    have zt := txx_le (h x (by simp))
    rw [← bs_size] at zt
    rw [wh_bs]
    generalize encEL (x :: r) = L at *
    refine enter1 Tryz.func123 Tryz.ntmps123 rfl rfl fun w0 F0 O => ?_
    repeat' (first | refine zS rfl ?_ | refine qA ?_ | refine qB rfl ?_ | refine qD ?_ | refine qE ?_ | refine qI (encE x) rfl (guardX_ok rfl) rfl rfl rfl rfl rfl rfl (by first | omega | decide) hx ?_ | refine qP rfl rfl rfl rfl rfl rfl b124 (ht) ?_ | refine zU rfl ?_ | refine qL rfl rfl ?_ | exact zD)
theorem gbound_ev (w : List UInt8) (hw : w.length ≤ 5) (n : Int) (h : -1 ≤ n ∧ n ≤ 1000000000000000) : Ev E 222 [.str (bs w), .int n] (.d (.str (bs (bdT w n)))) := by
  have y1 : (⟨#[32]⟩ : ByteArray).size = 1 := rfl
  have d1 := digit_ev h
  have z1 := ita_le h
  rw [← bs_size] at hw z1
  have l1 : decide (n < 0) = true → bs (bdT w n) = ⟨#[]⟩ := by intro e; unfold bdT; rw [e]; rfl
  have l2 : decide (n < 0) = false → bs (bdT w n) = ⟨#[32]⟩ ++ bs w ++ ⟨#[32]⟩ ++ bs (Lib.itoa n) := by intro e; unfold bdT; rw [e]; apply ba_ex; simp [bs]
  cases c1 : decide (n < 0) with
  | true =>
    rw [l1 c1]
    refine enter2 Tryz.func222 Tryz.ntmps222 rfl rfl fun w0 F0 O => ?_
    repeat' (first | refine zS rfl ?_ | refine qA ?_ | refine qB rfl ?_ | refine qD ?_ | refine zT rfl ?_ | refine qL rfl rfl ?_ | exact zD)
  | false =>
    rw [l2 c1]
    clear l1 l2
    generalize bs (Lib.itoa n) = I at *
    generalize bs w = W at *
    refine enter2 Tryz.func222 Tryz.ntmps222 rfl rfl fun w0 F0 O => ?_
    repeat' (first | refine zS rfl ?_ | refine qA ?_ | refine qB rfl ?_ | refine qD ?_ | refine qE ?_ | refine qP rfl rfl rfl rfl rfl rfl b297 (d1) ?_ | refine zU rfl ?_ | refine qL rfl rfl ?_ | exact zD)
theorem fremoval_ev (x : SIt) : Ev E 212 [encSI x] (.d (.bool (rmF x))) := by
  obtain ⟨vr, key, lb, off, ⟨op, ⟨vk, vn, vd, vs, vl⟩, nm, ds, ks⟩⟩ := x
  have e : rmF ⟨vr, key, lb, off, .mk op (.mk vk vn vd vs vl) nm ds ks⟩ = bif !(lb.toList == (⟨#[]⟩ : ByteArray).toList) then off else op == 1 && vk == 0 := rfl
  rw [e]
  refine enter1 Tryz.func212 Tryz.ntmps212 rfl rfl fun w0 F0 O => ?_
  repeat' (first | refine zS rfl ?_ | refine qA ?_ | refine qB rfl ?_ | refine qD ?_ | refine qE ?_ | refine qL rfl rfl ?_ | (refine qY rfl rfl rfl rfl ?_ ?_ <;> intro _) | (refine qV rfl ?_ ?_ <;> intro _))
  all_goals (refine congrArg D.bool ?_; clear e; dsimp only [Ex.op, Ex.v, V.k] at *)
  all_goals first | (simp only [*, cond_true, cond_false, Bool.true_and, Bool.false_and]; done) | skip
theorem gremoval_ev (x : SIt) : Ev E 223 [encSI x] (.d (.bool (rmF x))) := by
  obtain ⟨vr, key, lb, off, ⟨op, ⟨vk, vn, vd, vs, vl⟩, nm, ds, ks⟩⟩ := x
  have e : rmF ⟨vr, key, lb, off, .mk op (.mk vk vn vd vs vl) nm ds ks⟩ = bif !(lb.toList == (⟨#[]⟩ : ByteArray).toList) then off else op == 1 && vk == 0 := rfl
  rw [e]
  refine enter1 Tryz.func223 Tryz.ntmps223 rfl rfl fun w0 F0 O => ?_
  repeat' (first | refine zS rfl ?_ | refine qA ?_ | refine qB rfl ?_ | refine qD ?_ | refine qE ?_ | refine qL rfl rfl ?_ | (refine qY rfl rfl rfl rfl ?_ ?_ <;> intro _) | (refine qV rfl ?_ ?_ <;> intro _))
  all_goals (refine congrArg D.bool ?_; clear e; dsimp only [Ex.op, Ex.v, V.k] at *)
  all_goals first | (simp only [*, cond_true, cond_false, Bool.true_and, Bool.false_and]; done) | skip
theorem gnames_ev (l : List ByteArray) (hn : l.length ≤ 20) (h : ∀ s ∈ l, s.size ≤ 20) : Ev E 127 [.sl (l.map .str)] (.d (.str (bs (Lib.join (l.map bl) [44, 32])))) := by
  have hle : (l.map D.str).length = l.length := by simp
  have hlen := nms_le hn h
  have y1 : (⟨#[44, 32]⟩ : ByteArray).size = 2 := rfl
  refine enter1 Tryz.func127 Tryz.ntmps127 rfl rfl fun w0 F0 O => ?_
  repeat' (first | refine zS rfl ?_ | refine qA ?_ | refine qB rfl ?_ | refine qD ?_ | refine qF ?_)
  refine go_loop_ (α := SJ (l.map bl) [44, 32]) (fun p => ⟨[(0, .d (.sl (l.map .str))), (3, .d (.str (bs p.s))), (4, .d (.int p.i))], []⟩) (fun p => l.length - p.i) ⟨0, [], by omega, fun _ => rfl, fun h => absurd rfl h⟩ ((zle 0)) ?_
  rintro ⟨i, s, hi, h0, h1⟩
  dsimp only
  rw [List.length_map] at hi
  rcases Nat.lt_or_ge i l.length with hlt | hge
  · have g1 : decide ((i : Int) < ((l.map D.str).length : Int)) = true := by rw [hle]; simpa using hlt
    have hx0 := List.getElem?_eq_getElem hlt
    generalize l[i] = x at hx0
    have hx := map_c (f := D.str) hx0
    have hm := List.mem_of_getElem? hx0
    have hmm : (l.map bl)[i]? = some (bl x) := by rw [List.getElem?_map, hx0]; rfl
    have zt := h x hm
    by_cases hi0 : i = 0
    · subst hi0
      have hs0 := h0 rfl
      subst hs0
      have g2 : decide (((0 : Nat) : Int) > 0) = false := rfl
      have z2 : (bs []).size = 0 := rfl
      have e1 : bs [] ++ x = bs ([] ++ bl x) := by apply ba_ex; simp [bs, bl]
      repeat' (first | refine zS rfl ?_ | refine qA ?_ | refine qB rfl ?_ | refine qD ?_ | refine qE ?_ | refine qF ?_ | refine qG ?_ | refine qI (.str x) rfl (guardX_ok rfl) rfl rfl rfl rfl rfl rfl (by first | omega | decide) hx ?_ | refine zT rfl ?_ | refine zU rfl ?_)
      refine go_stop ?_
      rw [e1]
      exact ⟨⟨1, [] ++ bl x, by rw [List.length_map]; omega, fun h => by omega, fun _ => by have := drop_at hmm; rw [List.drop_zero] at this; rw [List.nil_append]; conv => rhs; rw [this, Lib.join_cons]⟩, by dsimp only; omega, (zle 0)⟩
    · have g2 : decide ((i : Int) > 0) = true := by simp; omega
      have h1' := h1 hi0
      rw [joinTail_at hmm] at h1'
      have hll : s.length ≤ 440 := by
        have := congrArg List.length h1'
        simp only [List.length_append] at this
        omega
      rw [← bs_size] at hll
      have e1 : bs s ++ ⟨#[44, 32]⟩ ++ x = bs (s ++ [44, 32] ++ bl x) := by apply ba_ex; simp [bs, bl]
      repeat' (first | refine zS rfl ?_ | refine qA ?_ | refine qB rfl ?_ | refine qD ?_ | refine qE ?_ | refine qF ?_ | refine qG ?_ | refine qI (.str x) rfl (guardX_ok rfl) rfl rfl rfl rfl rfl rfl (by first | omega | decide) hx ?_ | refine zT rfl ?_)
      refine go_stop ?_
      rw [e1]
      exact ⟨⟨i + 1, s ++ [44, 32] ++ bl x, by rw [List.length_map]; omega, fun h => by omega, fun _ => by rw [← h1']; simp only [List.append_assoc]⟩, by dsimp only; omega, (zle 0)⟩
  · have g1 : decide ((i : Int) < ((l.map D.str).length : Int)) = false := by rw [hle]; simp; omega
    have e : Lib.join (l.map bl) [44, 32] = s := by
      by_cases hi0 : i = 0
      · have : l = [] := List.eq_nil_of_length_eq_zero (by omega)
        rw [this, h0 hi0]
        rfl
      · rw [← h1 hi0, List.drop_eq_nil_of_le (by rw [List.length_map]; omega)]
        simp [Lib.joinTail]
    rw [e]
    repeat' (first | refine zS rfl ?_ | refine qA ?_ | refine qB rfl ?_ | refine qD ?_ | refine qH rfl ?_ | refine zU rfl ?_ | refine qL rfl rfl ?_ | exact zD)
end Go.Proofs.YtmfjfclpdmpncaaGreatDoor

/- Columns as text, by both texts. Conditions: clauses that the check accepts, of bounded size. -/
namespace Go.Proofs.YtmfjfclpdmpncaaGreatDoor
set_option maxRecDepth 4000
open Go Go.Abs Go.Val Go.RowKit
attribute [local irreducible] go SGo HasBody Ev ExtEv EvO EvS RGo

theorem bs_it (x : IT) : bs (itT x) = bs (txE x.e) ++ ⟨#[32, 65, 83, 32]⟩ ++ x.asn := by apply ba_ex; simp [bs, bl, itT]
theorem od_t {x : SK} (h : x.dc = true) : bs (odT x) = bs (txE x.e) ++ ⟨#[32, 68, 69, 83, 67]⟩ := by unfold odT; rw [h]; apply ba_ex; simp [bs]
theorem od_f {x : SK} (h : x.dc = false) : bs (odT x) = bs (txE x.e) := by unfold odT; rw [h]; rfl
def P0 (c : CL) : List UInt8 := [32] ++ dsT c.ds
def P1 (c : CL) : List UInt8 := P0 c ++ Lib.join (c.it.map itT) [44, 32]
def P2 (c : CL) : List UInt8 := P1 c ++ obT c.od
def P3 (c : CL) : List UInt8 := P2 c ++ bdT skT c.sk
def P4 (c : CL) : List UInt8 := P3 c ++ bdT lmT c.lm
theorem p5_eq (c : CL) : bs (P4 c) ++ bs (whT c.wh) = bs ([32] ++ pjT c) := by
  unfold P4 P3 P2 P1 P0 pjT
  apply ba_ex; simp [bs]
theorem p4_le {c : CL} (h : TxC c) : (P0 c).length ≤ 10 ∧ (P1 c).length ≤ 8000610 ∧ (P2 c).length ≤ 16001220 ∧ (P3 c).length ≤ 16001250 ∧ (P4 c).length ≤ 16001280 := by
  have := ds_le c.ds
  have := it_le h.im h.i
  have := ob_le h.om h.o
  have := bd_le (w := skT) (by simp [skT]) h.sk
  have := bd_le (w := lmT) (by simp [lmT]) h.lm
  unfold P4 P3 P2 P1 P0
  simp only [List.length_append, List.length_cons, List.length_nil]
  omega
theorem bd_pos {w : List UInt8} {n : Int} (h : decide (n ≥ 0) = true) : bdT w n = [32] ++ w ++ [32] ++ Lib.itoa n := by
  have : decide (n < 0) = false := by simp at h ⊢; omega
  unfold bdT; rw [this]; rfl
theorem bd_neg {w : List UInt8} {n : Int} (h : decide (n ≥ 0) = false) : bdT w n = [] := by
  have : decide (n < 0) = true := by simp at h ⊢; omega
  unfold bdT; rw [this]; rfl
set_option maxHeartbeats 8000000 in
theorem fproj_ev (c : CL) (h : TxC c) : Ev E 117 [encCL c] (.d (.str (bs ([32] ++ pjT c)))) := by
  have l3 : (c.it.map encIT).length = c.it.length := by simp
  have l4 : (c.od.map encSK).length = c.od.length := by simp
  obtain ⟨z0, z1, z2, z3, z4⟩ := p4_le h
  have him := h.im
  have hom := h.om
  have hit := h.i
  have hod := h.o
  have zj1 := it_le h.im h.i
  have zj2 := od_le h.om h.o
  have j1 := joind_ev (c.it.map itT) [44, 32] (by rw [List.length_map]; omega) (by omega)
  have j2 := joind_ev (c.od.map odT) [44, 32] (by rw [List.length_map]; omega) (by omega)
  have hwh := fwhere_ev c.wh h.w
  have zwh := wh_le h.w
  have d1 := itoab_ev c.sk
  have d2 := itoab_ev c.lm
  have q1 := ita_le h.sk
  have q2 := ita_le h.lm
  have a0t : c.ds = true → (⟨#[32, 68, 73, 83, 84, 73, 78, 67, 84, 32]⟩ : ByteArray) = bs (P0 c) := by intro e; unfold P0 dsT; rw [e]; rfl
  have a0f : c.ds = false → (⟨#[32]⟩ : ByteArray) = bs (P0 c) := by intro e; unfold P0 dsT; rw [e]; rfl
  have a1 : bs (P0 c) ++ bs (Lib.join (c.it.map itT) [44, 32]) = bs (P1 c) := by rw [bs_append]; rfl
  have a2t : (c.od.length == 0) = false → bs (P1 c) ++ (⟨#[32, 79, 82, 68, 69, 82, 32, 66, 89, 32]⟩ ++ bs (Lib.join (c.od.map odT) [44, 32])) = bs (P2 c) := by
    intro e; unfold P2 obT; rw [e]; apply ba_ex; simp [bs]
  have a2f : (c.od.length == 0) = true → bs (P1 c) = bs (P2 c) := by
    intro e; unfold P2 obT; rw [e]; apply ba_ex; simp [bs]
  have a3t : decide (c.sk ≥ 0) = true → bs (P2 c) ++ (⟨#[32, 83, 75, 73, 80, 32]⟩ ++ bs (Lib.itoa c.sk)) = bs (P3 c) := by
    intro e; unfold P3; rw [bd_pos e]; apply ba_ex; simp [bs, skT]
  have a3f : decide (c.sk ≥ 0) = false → bs (P2 c) = bs (P3 c) := by
    intro e; unfold P3; rw [bd_neg e]; apply ba_ex; simp [bs]
  have a4t : decide (c.lm ≥ 0) = true → bs (P3 c) ++ (⟨#[32, 76, 73, 77, 73, 84, 32]⟩ ++ bs (Lib.itoa c.lm)) = bs (P4 c) := by
    intro e; unfold P4; rw [bd_pos e]; apply ba_ex; simp [bs, lmT]
  have a4f : decide (c.lm ≥ 0) = false → bs (P3 c) = bs (P4 c) := by
    intro e; unfold P4; rw [bd_neg e]; apply ba_ex; simp [bs]
  rw [← p5_eq]
  rw [← bs_size] at z0 z1 z2 z3 z4 zj1 zj2 zwh q1 q2
  clear h
  generalize bs (P0 c) = B0 at *
  generalize bs (P1 c) = B1 at *
  generalize bs (P2 c) = B2 at *
  generalize bs (P3 c) = B3 at *
  generalize bs (P4 c) = B4 at *
  generalize bs (whT c.wh) = BW at *
  generalize bs (Lib.itoa c.sk) = I1 at *
  generalize bs (Lib.itoa c.lm) = I2 at *
  generalize bs (Lib.join (c.it.map itT) [44, 32]) = J1 at *
  generalize bs (Lib.join (c.od.map odT) [44, 32]) = J2 at *
  obtain ⟨k, opt, ds, ps, wh, e, nm, it, od, sk, lm, st, ns⟩ := c
  dsimp only at *
  have y1 : (⟨#[32, 65, 83, 32]⟩ : ByteArray).size = 4 := rfl
  have y2 : (⟨#[32, 68, 69, 83, 67]⟩ : ByteArray).size = 5 := rfl
  have y3 : (⟨#[32, 79, 82, 68, 69, 82, 32, 66, 89, 32]⟩ : ByteArray).size = 10 := rfl
  have y4 : (⟨#[32, 83, 75, 73, 80, 32]⟩ : ByteArray).size = 6 := rfl
  have y5 : (⟨#[32, 76, 73, 77, 73, 84, 32]⟩ : ByteArray).size = 7 := rfl
  refine enter1 Tryz.func117 Tryz.ntmps117 rfl rfl fun w0 F0 O => ?_
  repeat' (first | (refine go_cutC 12 (fun b => ⟨[(3, .d (.str b)), (1, .ptr 0 0)], [oCL ⟨k, opt, ds, ps, wh, e, nm, it, od, sk, lm, st, ns⟩]⟩) B0 ?_ ?_) | refine zS rfl ?_ | refine qA ?_ | refine qB rfl ?_ | refine qD ?_ | refine qE ?_ | refine qF ?_ | refine go_stop ⟨_, ?_, (zle 1)⟩ | (refine qV rfl ?_ ?_ <;> intro _))
  · exact a0t (by assumption)
  · exact a0f (by assumption)
  clear a0t a0f
  refine go_loop_ (α := SDx it) (fun p => ⟨[(4, rowK 1 (strD ((it.take p.i).map itT))), (1, .ptr 0 0), (3, .d (.str B0)), (14, .d (.sl (it.map encIT))), (15, .d (.int (it.map encIT).length)), (16, .d (.int p.i))], [oCL ⟨k, opt, ds, ps, wh, e, nm, it, od, sk, lm, st, ns⟩] ++ rowO 9 1 (strD ((it.take p.i).map itT))⟩) (fun p => it.length - p.i) ⟨0, by omega⟩ ((zle 1)) ?_
  rintro ⟨i, hi⟩
  dsimp only
  have hol : (strD ((it.take i).map itT)).length ≤ 1000000 := by simp [strD]; omega
  rcases Nat.lt_or_ge i it.length with hlt | hge
  · have g1 : decide ((i : Int) < ((it.map encIT).length : Int)) = true := by rw [l3]; simpa using hlt
    have hx0 := List.getElem?_eq_getElem hlt
    generalize it[i] = x at hx0
    have hx := map_c (f := encIT) hx0
    have hm := List.mem_of_getElem? hx0
    have ht := txx_ev (hit x hm).1
    have zt : (bs (txE x.e)).size ≤ 400000 := by rw [bs_size]; exact txx_le (hit x hm).1
    have zk := (hit x hm).2
    have hnx := strD_at (f := itT) hx0
    rw [bs_it] at hnx
    generalize strD ((it.take i).map itT) = o at *
    match o, hol with
    | [], hol =>
      dsimp only [rowK, rowO]
      repeat' (first | refine qR0 (id := 8) [9] (by kernel_rfl) (by kernel_rfl) (by repeat (first | exact trivial | refine ⟨⟨rfl, rfl⟩, ?_⟩ | refine ⟨trivial, ?_⟩)) ?_ | refine rgF (id := 8) (i := 0) 9 (by kernel_rfl) rfl ?_ | refine rgF (id := 8) (i := 10) 1 (by kernel_rfl) rfl ?_ | refine rgN ?_ | refine zS rfl ?_ | refine qA ?_ | refine qB rfl ?_ | refine qD ?_ | refine qE ?_ | refine qF ?_ | refine qG ?_ | refine qI (encIT x) rfl (guardX_ok rfl) rfl rfl rfl rfl rfl rfl (by first | omega | decide) hx ?_ | refine go_load0 rfl rfl rfl rfl rfl rfl rfl ?_ | refine qP rfl rfl rfl rfl rfl rfl b109 (ht) ?_ | refine rgS (id := 8) (i := 9) rfl rfl rfl rfl (⟨by simp, fun d hd => by (obtain rfl := List.mem_singleton.1 hd; rfl), by (show (0 + 1) * 16 ≤ 140737488355328; omega), by (show 0 + 1 ≤ 9223372036854775807; omega)⟩) (by repeat (first | exact trivial | refine ⟨⟨rfl, rfl⟩, ?_⟩ | refine ⟨trivial, ?_⟩)) ?_ | refine zT rfl ?_)
      refine go_stop ?_
      refine ⟨⟨i + 1, by omega⟩, by dsimp only; omega, ?_⟩
      dsimp only
      rw [hnx]
      exact (zren [0, 2])
    | a :: q, hol =>
      dsimp only [rowK, rowO]
      repeat' (first | refine qR0 (id := 8) [9] (by kernel_rfl) (by kernel_rfl) (by repeat (first | exact trivial | refine ⟨⟨rfl, rfl⟩, ?_⟩ | refine ⟨trivial, ?_⟩)) ?_ | refine rgF (id := 8) (i := 0) 9 (by kernel_rfl) rfl ?_ | refine rgF (id := 8) (i := 10) 1 (by kernel_rfl) rfl ?_ | refine rgN ?_ | refine zS rfl ?_ | refine qA ?_ | refine qB rfl ?_ | refine qD ?_ | refine qE ?_ | refine qF ?_ | refine qG ?_ | refine qI (encIT x) rfl (guardX_ok rfl) rfl rfl rfl rfl rfl rfl (by first | omega | decide) hx ?_ | refine go_load0 rfl rfl rfl rfl rfl rfl rfl ?_ | refine qP rfl rfl rfl rfl rfl rfl b109 (ht) ?_ | refine rgS (id := 8) (i := 9) rfl rfl rfl rfl (⟨by simp, fun d hd => by (obtain rfl := List.mem_singleton.1 hd; rfl), by (show ((a :: q).length + 1) * 16 ≤ 140737488355328; omega), by (show (a :: q).length + 1 ≤ 9223372036854775807; omega)⟩) (by repeat (first | exact trivial | refine ⟨⟨rfl, rfl⟩, ?_⟩ | refine ⟨trivial, ?_⟩)) ?_ | refine zT rfl ?_)
      refine go_stop ?_
      refine ⟨⟨i + 1, by omega⟩, by dsimp only; omega, ?_⟩
      dsimp only
      rw [hnx]
      exact (zren [0, 3])
  · have g1 : decide ((i : Int) < ((it.map encIT).length : Int)) = false := by rw [l3]; simp; omega
    rw [List.take_of_length_le hge]
    generalize strD (it.map itT) = o at *
    match o, j1 with
    | [], j1 =>
      dsimp only [rowK, rowO]
      repeat' (first | refine zS rfl ?_ | refine qA ?_ | refine qB rfl ?_ | refine qD ?_ | refine qF ?_ | refine qH rfl ?_ | refine qP rfl rfl rfl rfl rfl rfl b57 (j1) ?_ | refine zU rfl ?_)
      rw [a1]
      refine go_loop_ (α := SDx od) (fun p => ⟨[(7, rowK 1 (strD ((od.take p.i).map odT))), (1, .ptr 0 0), (3, .d (.str B1)), (36, .d (.sl (od.map encSK))), (37, .d (.int (od.map encSK).length)), (38, .d (.int p.i))], [oCL ⟨k, opt, ds, ps, wh, e, nm, it, od, sk, lm, st, ns⟩] ++ rowO 9 1 (strD ((od.take p.i).map odT))⟩) (fun p => od.length - p.i) ⟨0, by omega⟩ ((zle 1)) ?_
      rintro ⟨i, hi⟩
      dsimp only
      have hol : (strD ((od.take i).map odT)).length ≤ 1000000 := by simp [strD]; omega
      rcases Nat.lt_or_ge i od.length with hlt | hge
      · have g1 : decide ((i : Int) < ((od.map encSK).length : Int)) = true := by rw [l4]; simpa using hlt
        have hx0 := List.getElem?_eq_getElem hlt
        generalize od[i] = x at hx0
        have hx := map_c (f := encSK) hx0
        have hm := List.mem_of_getElem? hx0
        have ht := txx_ev (hod x hm)
        have zt : (bs (txE x.e)).size ≤ 400000 := by rw [bs_size]; exact txx_le (hod x hm)
        have hnx := strD_at (f := odT) hx0
        have ht1 := od_t (x := x)
        have ht2 := od_f (x := x)
        obtain ⟨xe, dc⟩ := x
        dsimp only at ht zt ht1 ht2
        generalize strD ((od.take i).map odT) = o at *
        match o, hol with
        | [], hol =>
          dsimp only [rowK, rowO]
          cases dc with
          | true =>
            rw [ht1 rfl] at hnx
            repeat' (first | refine zS rfl ?_ | refine qA ?_ | refine qB rfl ?_ | refine qD ?_ | refine qE ?_ | refine qF ?_ | refine qG ?_ | refine qI (encSK ⟨xe, true⟩) rfl (guardX_ok rfl) rfl rfl rfl rfl rfl rfl (by first | omega | decide) hx ?_ | refine go_load0 rfl rfl rfl rfl rfl rfl rfl ?_ | refine qP rfl rfl rfl rfl rfl rfl b109 (ht) ?_ | (refine qS rfl ⟨by simp, fun d hd => by (obtain rfl := List.mem_singleton.1 hd; rfl), by (show (0 + 1) * 16 ≤ 140737488355328; omega), by (show 0 + 1 ≤ 9223372036854775807; omega)⟩ ?_) | refine zT rfl ?_)
            refine go_stop ?_
            refine ⟨⟨i + 1, by omega⟩, by dsimp only; omega, ?_⟩
            dsimp only
            rw [hnx]
            exact (zren [0, 2])
          | false =>
            rw [ht2 rfl] at hnx
            repeat' (first | refine zS rfl ?_ | refine qA ?_ | refine qB rfl ?_ | refine qD ?_ | refine qE ?_ | refine qF ?_ | refine qG ?_ | refine qI (encSK ⟨xe, false⟩) rfl (guardX_ok rfl) rfl rfl rfl rfl rfl rfl (by first | omega | decide) hx ?_ | refine go_load0 rfl rfl rfl rfl rfl rfl rfl ?_ | refine qP rfl rfl rfl rfl rfl rfl b109 (ht) ?_ | (refine qS rfl ⟨by simp, fun d hd => by (obtain rfl := List.mem_singleton.1 hd; rfl), by (show (0 + 1) * 16 ≤ 140737488355328; omega), by (show 0 + 1 ≤ 9223372036854775807; omega)⟩ ?_) | refine zT rfl ?_ | refine zU rfl ?_)
            refine go_stop ?_
            refine ⟨⟨i + 1, by omega⟩, by dsimp only; omega, ?_⟩
            dsimp only
            rw [hnx]
            exact (zren [0, 2])
        | a :: q, hol =>
          dsimp only [rowK, rowO]
          cases dc with
          | true =>
            rw [ht1 rfl] at hnx
            repeat' (first | refine zS rfl ?_ | refine qA ?_ | refine qB rfl ?_ | refine qD ?_ | refine qE ?_ | refine qF ?_ | refine qG ?_ | refine qI (encSK ⟨xe, true⟩) rfl (guardX_ok rfl) rfl rfl rfl rfl rfl rfl (by first | omega | decide) hx ?_ | refine go_load0 rfl rfl rfl rfl rfl rfl rfl ?_ | refine qP rfl rfl rfl rfl rfl rfl b109 (ht) ?_ | (refine qS rfl ⟨by simp, fun d hd => by (obtain rfl := List.mem_singleton.1 hd; rfl), by (show ((a :: q).length + 1) * 16 ≤ 140737488355328; omega), by (show (a :: q).length + 1 ≤ 9223372036854775807; omega)⟩ ?_) | refine zT rfl ?_)
            refine go_stop ?_
            refine ⟨⟨i + 1, by omega⟩, by dsimp only; omega, ?_⟩
            dsimp only
            rw [hnx]
            exact (zren [0, 3])
          | false =>
            rw [ht2 rfl] at hnx
            repeat' (first | refine zS rfl ?_ | refine qA ?_ | refine qB rfl ?_ | refine qD ?_ | refine qE ?_ | refine qF ?_ | refine qG ?_ | refine qI (encSK ⟨xe, false⟩) rfl (guardX_ok rfl) rfl rfl rfl rfl rfl rfl (by first | omega | decide) hx ?_ | refine go_load0 rfl rfl rfl rfl rfl rfl rfl ?_ | refine qP rfl rfl rfl rfl rfl rfl b109 (ht) ?_ | (refine qS rfl ⟨by simp, fun d hd => by (obtain rfl := List.mem_singleton.1 hd; rfl), by (show ((a :: q).length + 1) * 16 ≤ 140737488355328; omega), by (show (a :: q).length + 1 ≤ 9223372036854775807; omega)⟩ ?_) | refine zT rfl ?_ | refine zU rfl ?_)
            refine go_stop ?_
            refine ⟨⟨i + 1, by omega⟩, by dsimp only; omega, ?_⟩
            dsimp only
            rw [hnx]
            exact (zren [0, 3])
      · have g1 : decide ((i : Int) < ((od.map encSK).length : Int)) = false := by rw [l4]; simp; omega
        rw [List.take_of_length_le hge]
        have hlo : (strD (od.map odT)).length = od.length := by simp [strD]
        generalize strD (od.map odT) = o at *
        match o, j2, hlo with
        | [], j2, hlo =>
          have e0 : (od.length == 0) = true := by rw [← hlo]; rfl
          dsimp only [rowK, rowO]
          rw [a2f e0]
          clear a2t a2f
          repeat' (first | (refine go_cutC 64 (fun b => ⟨[(3, .d (.str b)), (1, .ptr 0 0)], [oCL ⟨k, opt, ds, ps, wh, e, nm, it, od, sk, lm, st, ns⟩]⟩) B3 ?_ ?_) | (refine go_cutC 73 (fun b => ⟨[(3, .d (.str b)), (1, .ptr 0 0)], [oCL ⟨k, opt, ds, ps, wh, e, nm, it, od, sk, lm, st, ns⟩]⟩) B4 ?_ ?_) | refine zS rfl ?_ | refine qA ?_ | refine qB rfl ?_ | refine qD ?_ | refine qE ?_ | refine qH rfl ?_ | refine qP (d := 68) rfl rfl rfl rfl rfl rfl b211 (d1) ?_ | refine qP (d := 77) rfl rfl rfl rfl rfl rfl b211 (d2) ?_ | refine qP rfl rfl rfl rfl rfl rfl b116 (hwh) ?_ | refine go_stop ⟨_, ?_, (zle 1)⟩ | refine zU rfl ?_ | refine qL rfl rfl ?_ | (refine qV rfl ?_ ?_ <;> intro _) | exact zD)
          all_goals first | exact a3t (by assumption) | exact a3f (by assumption) | exact a4t (by assumption) | exact a4f (by assumption)
        | a :: q, j2, hlo =>
          have e0 : (od.length == 0) = false := by rw [← hlo]; simp
          have e1 := a2t e0
          have e2 : decide (((a :: q).length : Int) > 0) = true := by simp
          clear a2t a2f
          dsimp only [rowK, rowO]
          refine qA ?_
          refine go_frz 1 rfl ?_
          repeat' (first | (refine go_cutC 56 (fun b => ⟨[(3, .d (.str b)), (1, .ptr 0 0)], [oCL ⟨k, opt, ds, ps, wh, e, nm, it, od, sk, lm, st, ns⟩]⟩) B2 ?_ ?_) | (refine go_cutC 64 (fun b => ⟨[(3, .d (.str b)), (1, .ptr 0 0)], [oCL ⟨k, opt, ds, ps, wh, e, nm, it, od, sk, lm, st, ns⟩]⟩) B3 ?_ ?_) | (refine go_cutC 73 (fun b => ⟨[(3, .d (.str b)), (1, .ptr 0 0)], [oCL ⟨k, opt, ds, ps, wh, e, nm, it, od, sk, lm, st, ns⟩]⟩) B4 ?_ ?_) | refine zS rfl ?_ | refine qA ?_ | refine qB rfl ?_ | refine qD ?_ | refine qE ?_ | refine qH rfl ?_ | refine qP rfl rfl rfl rfl rfl rfl b57 (j2) ?_ | refine qP (d := 68) rfl rfl rfl rfl rfl rfl b211 (d1) ?_ | refine qP (d := 77) rfl rfl rfl rfl rfl rfl b211 (d2) ?_ | refine qP rfl rfl rfl rfl rfl rfl b116 (hwh) ?_ | refine go_stop ⟨_, ?_, (zle 1)⟩ | refine zT rfl ?_ | refine zU rfl ?_ | refine qL rfl rfl ?_ | (refine qV rfl ?_ ?_ <;> intro _) | exact zD)
          all_goals first | exact e1 | exact a3t (by assumption) | exact a3f (by assumption) | exact a4t (by assumption) | exact a4f (by assumption)
    | a :: q, j1 =>
      dsimp only [rowK, rowO]
      refine qA ?_
      refine go_frz 1 rfl ?_
      repeat' (first | refine zS rfl ?_ | refine qA ?_ | refine qB rfl ?_ | refine qD ?_ | refine qF ?_ | refine qH rfl ?_ | refine qP rfl rfl rfl rfl rfl rfl b57 (j1) ?_ | refine zU rfl ?_)
      rw [a1]
      refine go_loop_ (α := SDx od) (fun p => ⟨[(7, rowK 1 (strD ((od.take p.i).map odT))), (1, .ptr 0 0), (3, .d (.str B1)), (36, .d (.sl (od.map encSK))), (37, .d (.int (od.map encSK).length)), (38, .d (.int p.i))], [oCL ⟨k, opt, ds, ps, wh, e, nm, it, od, sk, lm, st, ns⟩] ++ rowO 9 1 (strD ((od.take p.i).map odT))⟩) (fun p => od.length - p.i) ⟨0, by omega⟩ ((zle 1)) ?_
      rintro ⟨i, hi⟩
      dsimp only
      have hol : (strD ((od.take i).map odT)).length ≤ 1000000 := by simp [strD]; omega
      rcases Nat.lt_or_ge i od.length with hlt | hge
      · have g1 : decide ((i : Int) < ((od.map encSK).length : Int)) = true := by rw [l4]; simpa using hlt
        have hx0 := List.getElem?_eq_getElem hlt
        generalize od[i] = x at hx0
        have hx := map_c (f := encSK) hx0
        have hm := List.mem_of_getElem? hx0
        have ht := txx_ev (hod x hm)
        have zt : (bs (txE x.e)).size ≤ 400000 := by rw [bs_size]; exact txx_le (hod x hm)
        have hnx := strD_at (f := odT) hx0
        have ht1 := od_t (x := x)
        have ht2 := od_f (x := x)
        obtain ⟨xe, dc⟩ := x
        dsimp only at ht zt ht1 ht2
        generalize strD ((od.take i).map odT) = o at *
        match o, hol with
        | [], hol =>
          dsimp only [rowK, rowO]
          cases dc with
          | true =>
            rw [ht1 rfl] at hnx
            repeat' (first | refine zS rfl ?_ | refine qA ?_ | refine qB rfl ?_ | refine qD ?_ | refine qE ?_ | refine qF ?_ | refine qG ?_ | refine qI (encSK ⟨xe, true⟩) rfl (guardX_ok rfl) rfl rfl rfl rfl rfl rfl (by first | omega | decide) hx ?_ | refine go_load0 rfl rfl rfl rfl rfl rfl rfl ?_ | refine qP rfl rfl rfl rfl rfl rfl b109 (ht) ?_ | (refine qS rfl ⟨by simp, fun d hd => by (obtain rfl := List.mem_singleton.1 hd; rfl), by (show (0 + 1) * 16 ≤ 140737488355328; omega), by (show 0 + 1 ≤ 9223372036854775807; omega)⟩ ?_) | refine zT rfl ?_)
            refine go_stop ?_
            refine ⟨⟨i + 1, by omega⟩, by dsimp only; omega, ?_⟩
            dsimp only
            rw [hnx]
            exact (zren [0, 2])
          | false =>
            rw [ht2 rfl] at hnx
            repeat' (first | refine zS rfl ?_ | refine qA ?_ | refine qB rfl ?_ | refine qD ?_ | refine qE ?_ | refine qF ?_ | refine qG ?_ | refine qI (encSK ⟨xe, false⟩) rfl (guardX_ok rfl) rfl rfl rfl rfl rfl rfl (by first | omega | decide) hx ?_ | refine go_load0 rfl rfl rfl rfl rfl rfl rfl ?_ | refine qP rfl rfl rfl rfl rfl rfl b109 (ht) ?_ | (refine qS rfl ⟨by simp, fun d hd => by (obtain rfl := List.mem_singleton.1 hd; rfl), by (show (0 + 1) * 16 ≤ 140737488355328; omega), by (show 0 + 1 ≤ 9223372036854775807; omega)⟩ ?_) | refine zT rfl ?_ | refine zU rfl ?_)
            refine go_stop ?_
            refine ⟨⟨i + 1, by omega⟩, by dsimp only; omega, ?_⟩
            dsimp only
            rw [hnx]
            exact (zren [0, 2])
        | a :: q, hol =>
          dsimp only [rowK, rowO]
          cases dc with
          | true =>
            rw [ht1 rfl] at hnx
            repeat' (first | refine zS rfl ?_ | refine qA ?_ | refine qB rfl ?_ | refine qD ?_ | refine qE ?_ | refine qF ?_ | refine qG ?_ | refine qI (encSK ⟨xe, true⟩) rfl (guardX_ok rfl) rfl rfl rfl rfl rfl rfl (by first | omega | decide) hx ?_ | refine go_load0 rfl rfl rfl rfl rfl rfl rfl ?_ | refine qP rfl rfl rfl rfl rfl rfl b109 (ht) ?_ | (refine qS rfl ⟨by simp, fun d hd => by (obtain rfl := List.mem_singleton.1 hd; rfl), by (show ((a :: q).length + 1) * 16 ≤ 140737488355328; omega), by (show (a :: q).length + 1 ≤ 9223372036854775807; omega)⟩ ?_) | refine zT rfl ?_)
            refine go_stop ?_
            refine ⟨⟨i + 1, by omega⟩, by dsimp only; omega, ?_⟩
            dsimp only
            rw [hnx]
            exact (zren [0, 3])
          | false =>
            rw [ht2 rfl] at hnx
            repeat' (first | refine zS rfl ?_ | refine qA ?_ | refine qB rfl ?_ | refine qD ?_ | refine qE ?_ | refine qF ?_ | refine qG ?_ | refine qI (encSK ⟨xe, false⟩) rfl (guardX_ok rfl) rfl rfl rfl rfl rfl rfl (by first | omega | decide) hx ?_ | refine go_load0 rfl rfl rfl rfl rfl rfl rfl ?_ | refine qP rfl rfl rfl rfl rfl rfl b109 (ht) ?_ | (refine qS rfl ⟨by simp, fun d hd => by (obtain rfl := List.mem_singleton.1 hd; rfl), by (show ((a :: q).length + 1) * 16 ≤ 140737488355328; omega), by (show (a :: q).length + 1 ≤ 9223372036854775807; omega)⟩ ?_) | refine zT rfl ?_ | refine zU rfl ?_)
            refine go_stop ?_
            refine ⟨⟨i + 1, by omega⟩, by dsimp only; omega, ?_⟩
            dsimp only
            rw [hnx]
            exact (zren [0, 3])
      · have g1 : decide ((i : Int) < ((od.map encSK).length : Int)) = false := by rw [l4]; simp; omega
        rw [List.take_of_length_le hge]
        have hlo : (strD (od.map odT)).length = od.length := by simp [strD]
        generalize strD (od.map odT) = o at *
        match o, j2, hlo with
        | [], j2, hlo =>
          have e0 : (od.length == 0) = true := by rw [← hlo]; rfl
          dsimp only [rowK, rowO]
          rw [a2f e0]
          clear a2t a2f
          repeat' (first | (refine go_cutC 64 (fun b => ⟨[(3, .d (.str b)), (1, .ptr 0 0)], [oCL ⟨k, opt, ds, ps, wh, e, nm, it, od, sk, lm, st, ns⟩]⟩) B3 ?_ ?_) | (refine go_cutC 73 (fun b => ⟨[(3, .d (.str b)), (1, .ptr 0 0)], [oCL ⟨k, opt, ds, ps, wh, e, nm, it, od, sk, lm, st, ns⟩]⟩) B4 ?_ ?_) | refine zS rfl ?_ | refine qA ?_ | refine qB rfl ?_ | refine qD ?_ | refine qE ?_ | refine qH rfl ?_ | refine qP (d := 68) rfl rfl rfl rfl rfl rfl b211 (d1) ?_ | refine qP (d := 77) rfl rfl rfl rfl rfl rfl b211 (d2) ?_ | refine qP rfl rfl rfl rfl rfl rfl b116 (hwh) ?_ | refine go_stop ⟨_, ?_, (zle 1)⟩ | refine zU rfl ?_ | refine qL rfl rfl ?_ | (refine qV rfl ?_ ?_ <;> intro _) | exact zD)
          all_goals first | exact a3t (by assumption) | exact a3f (by assumption) | exact a4t (by assumption) | exact a4f (by assumption)
        | a :: q, j2, hlo =>
          have e0 : (od.length == 0) = false := by rw [← hlo]; simp
          have e1 := a2t e0
          have e2 : decide (((a :: q).length : Int) > 0) = true := by simp
          clear a2t a2f
          dsimp only [rowK, rowO]
          refine qA ?_
          refine go_frz 1 rfl ?_
          repeat' (first | (refine go_cutC 56 (fun b => ⟨[(3, .d (.str b)), (1, .ptr 0 0)], [oCL ⟨k, opt, ds, ps, wh, e, nm, it, od, sk, lm, st, ns⟩]⟩) B2 ?_ ?_) | (refine go_cutC 64 (fun b => ⟨[(3, .d (.str b)), (1, .ptr 0 0)], [oCL ⟨k, opt, ds, ps, wh, e, nm, it, od, sk, lm, st, ns⟩]⟩) B3 ?_ ?_) | (refine go_cutC 73 (fun b => ⟨[(3, .d (.str b)), (1, .ptr 0 0)], [oCL ⟨k, opt, ds, ps, wh, e, nm, it, od, sk, lm, st, ns⟩]⟩) B4 ?_ ?_) | refine zS rfl ?_ | refine qA ?_ | refine qB rfl ?_ | refine qD ?_ | refine qE ?_ | refine qH rfl ?_ | refine qP rfl rfl rfl rfl rfl rfl b57 (j2) ?_ | refine qP (d := 68) rfl rfl rfl rfl rfl rfl b211 (d1) ?_ | refine qP (d := 77) rfl rfl rfl rfl rfl rfl b211 (d2) ?_ | refine qP rfl rfl rfl rfl rfl rfl b116 (hwh) ?_ | refine go_stop ⟨_, ?_, (zle 1)⟩ | refine zT rfl ?_ | refine zU rfl ?_ | refine qL rfl rfl ?_ | (refine qV rfl ?_ ?_ <;> intro _) | exact zD)
          all_goals first | exact e1 | exact a3t (by assumption) | exact a3f (by assumption) | exact a4t (by assumption) | exact a4f (by assumption)
def obH (i : Nat) : List UInt8 := if i = 0 then [] else [32, 79, 82, 68, 69, 82, 32, 66, 89, 32]
set_option maxHeartbeats 8000000 in
theorem gitems_ev (c : CL) (h : TxC c) : Ev E 125 [encCL c] (.d (.str (bs (pjT c)))) := by
  have l3 : (c.it.map encIT).length = c.it.length := by simp
  have l4 : (c.od.map encSK).length = c.od.length := by simp
  have him := h.im
  have hom := h.om
  have hit := h.i
  have hod := h.o
  have zj1 := it_le h.im h.i
  have zj2 := od_le h.om h.o
  have zds := ds_le c.ds
  have zob := ob_le h.om h.o
  have hwh := gwhere_ev c.wh h.w
  have zwh := wh_le h.w
  have b1 := gbound_ev skT (by simp [skT]) c.sk h.sk
  have b2 := gbound_ev lmT (by simp [lmT]) c.lm h.lm
  have q1 := bd_le (w := skT) (by simp [skT]) h.sk
  have q2 := bd_le (w := lmT) (by simp [lmT]) h.lm
  have e9 : bs (dsT c.ds ++ Lib.join (c.it.map itT) [44, 32] ++ obT c.od) ++ bs (bdT skT c.sk) ++ bs (bdT lmT c.lm) ++ bs (whT c.wh) = bs (pjT c) := by
    unfold pjT
    apply ba_ex; simp [bs]
  rw [← e9]
  clear e9
  rw [show bs skT = ⟨#[83, 75, 73, 80]⟩ from rfl] at b1
  rw [show bs lmT = ⟨#[76, 73, 77, 73, 84]⟩ from rfl] at b2
  rw [← bs_size] at q1 q2 zwh
  clear h
  generalize bs (whT c.wh) = BW at *
  generalize bs (bdT skT c.sk) = I1 at *
  generalize bs (bdT lmT c.lm) = I2 at *
  have a0t : c.ds = true → (⟨#[68, 73, 83, 84, 73, 78, 67, 84, 32]⟩ : ByteArray) = bs (dsT c.ds ++ []) := by intro e; unfold dsT; rw [e]; rfl
  have a0f : c.ds = false → (⟨#[]⟩ : ByteArray) = bs (dsT c.ds ++ []) := by intro e; unfold dsT; rw [e]; rfl
  obtain ⟨DS, hDS⟩ : ∃ d, dsT c.ds = d := ⟨_, rfl⟩
  rw [hDS] at a0t a0f zds
  rw [hDS]
  clear hDS
  obtain ⟨k, opt, ds, ps, wh, e, nm, it, od, sk, lm, st, ns⟩ := c
  dsimp only at *
  have y0 : (⟨#[44, 32]⟩ : ByteArray).size = 2 := rfl
  have y1 : (⟨#[32, 65, 83, 32]⟩ : ByteArray).size = 4 := rfl
  have y2 : (⟨#[32, 68, 69, 83, 67]⟩ : ByteArray).size = 5 := rfl
  have y3 : (⟨#[32, 79, 82, 68, 69, 82, 32, 66, 89, 32]⟩ : ByteArray).size = 10 := rfl
  refine enter1 Tryz.func125 Tryz.ntmps125 rfl rfl fun w0 F0 O => ?_
  repeat' (first | (refine go_cutC 7 (fun b => ⟨[(3, .d (.str b)), (1, .ptr 0 0)], [oCL ⟨k, opt, ds, ps, wh, e, nm, it, od, sk, lm, st, ns⟩]⟩) (bs (DS ++ [])) ?_ ?_) | refine zS rfl ?_ | refine qA ?_ | refine qB rfl ?_ | refine qD ?_ | refine qE ?_ | refine qF ?_ | refine go_stop ⟨_, ?_, (zle 1)⟩ | (refine qV rfl ?_ ?_ <;> intro _))
  · exact a0t (by assumption)
  · exact a0f (by assumption)
  clear a0t a0f
  refine go_loop_ (α := SJ (it.map itT) [44, 32]) (fun p => ⟨[(1, .ptr 0 0), (3, .d (.str (bs (DS ++ p.s)))), (4, .d (.int p.i))], [oCL ⟨k, opt, ds, ps, wh, e, nm, it, od, sk, lm, st, ns⟩]⟩) (fun p => it.length - p.i) ⟨0, [], by omega, fun _ => rfl, fun h => absurd rfl h⟩ ((zle 1)) ?_
  rintro ⟨i, s, hi, h0, h1⟩
  dsimp only
  rw [List.length_map] at hi
  rcases Nat.lt_or_ge i it.length with hlt | hge
  · have g1 : decide ((i : Int) < ((it.map encIT).length : Int)) = true := by rw [l3]; simpa using hlt
    have hx0 := List.getElem?_eq_getElem hlt
    generalize it[i] = x at hx0
    have hx := map_c (f := encIT) hx0
    have hm := List.mem_of_getElem? hx0
    have hmm : (it.map itT)[i]? = some (itT x) := by rw [List.getElem?_map, hx0]; rfl
    have ht := rtxx_ev (hit x hm).1
    have zt : (bs (txE x.e)).size ≤ 400000 := by rw [bs_size]; exact txx_le (hit x hm).1
    have zk := (hit x hm).2
    by_cases hi0 : i = 0
    · subst hi0
      have hs0 := h0 rfl
      subst hs0
      have g2 : decide (((0 : Nat) : Int) > 0) = false := rfl
      have z2 : (bs (DS ++ [])).size ≤ 9 := by rw [bs_size, List.append_nil]; exact zds
      have e1 : bs (DS ++ []) ++ bs (txE x.e) ++ ⟨#[32, 65, 83, 32]⟩ ++ x.asn = bs (DS ++ ([] ++ itT x)) := by apply ba_ex; simp [bs, bl, itT]
      repeat' (first | refine zS rfl ?_ | refine qA ?_ | refine qB rfl ?_ | refine qC (by kernel_rfl) ?_ | refine qD ?_ | refine qE ?_ | refine qF ?_ | refine qG ?_ | refine qI (encIT x) rfl (guardX_ok rfl) rfl rfl rfl rfl rfl rfl (by first | omega | decide) hx ?_ | refine go_loadA 9 rfl rfl rfl rfl rfl rfl ?_ | refine qP rfl rfl rfl rfl rfl rfl b124 (ht) ?_ | refine zT rfl ?_ | refine zU rfl ?_)
      refine go_stop ?_
      rw [e1]
      exact ⟨⟨1, [] ++ itT x, by rw [List.length_map]; omega, fun h => by omega, fun _ => by have := drop_at hmm; rw [List.drop_zero] at this; rw [List.nil_append]; conv => rhs; rw [this, Lib.join_cons]⟩, by dsimp only; omega, (zle 1)⟩
    · have g2 : decide ((i : Int) > 0) = true := by simp; omega
      have h1' := h1 hi0
      rw [joinTail_at hmm] at h1'
      have hll : s.length ≤ 8000600 := by
        have := congrArg List.length h1'
        simp only [List.length_append] at this
        omega
      have z2 : (bs (DS ++ s)).size ≤ 8000609 := by rw [bs_size, List.length_append]; omega
      have e1 : bs (DS ++ s) ++ ⟨#[44, 32]⟩ ++ bs (txE x.e) ++ ⟨#[32, 65, 83, 32]⟩ ++ x.asn = bs (DS ++ (s ++ [44, 32] ++ itT x)) := by apply ba_ex; simp [bs, bl, itT]
      repeat' (first | refine zS rfl ?_ | refine qA ?_ | refine qB rfl ?_ | refine qC (by kernel_rfl) ?_ | refine qD ?_ | refine qE ?_ | refine qF ?_ | refine qG ?_ | refine qI (encIT x) rfl (guardX_ok rfl) rfl rfl rfl rfl rfl rfl (by first | omega | decide) hx ?_ | refine go_loadA 9 rfl rfl rfl rfl rfl rfl ?_ | refine qP rfl rfl rfl rfl rfl rfl b124 (ht) ?_ | refine zT rfl ?_)
      refine go_stop ?_
      rw [e1]
      exact ⟨⟨i + 1, s ++ [44, 32] ++ itT x, by rw [List.length_map]; omega, fun h => by omega, fun _ => by rw [← h1']; simp only [List.append_assoc]⟩, by dsimp only; omega, (zle 1)⟩
  · have g1 : decide ((i : Int) < ((it.map encIT).length : Int)) = false := by rw [l3]; simp; omega
    have es : Lib.join (it.map itT) [44, 32] = s := by
      by_cases hi0 : i = 0
      · have : it = [] := List.eq_nil_of_length_eq_zero (by omega)
        rw [this, h0 hi0]
        rfl
      · rw [← h1 hi0, List.drop_eq_nil_of_le (by rw [List.length_map]; omega)]
        simp [Lib.joinTail]
    rw [es]
    have zq : (DS ++ s).length ≤ 8000609 := by rw [List.length_append, ← es]; omega
    repeat' (first | refine zS rfl ?_ | refine qA ?_ | refine qB rfl ?_ | refine qD ?_ | refine qF ?_ | refine qH rfl ?_ | refine zU rfl ?_)
    clear es h0 h1 hi hge g1
    generalize DS ++ s = Q at *
    refine go_loop_ (α := SJ (od.map odT) [44, 32]) (fun p => ⟨[(1, .ptr 0 0), (3, .d (.str (bs (Q ++ obH p.i ++ p.s)))), (5, .d (.int p.i))], [oCL ⟨k, opt, ds, ps, wh, e, nm, it, od, sk, lm, st, ns⟩]⟩) (fun p => od.length - p.i) ⟨0, [], by omega, fun _ => rfl, fun h => absurd rfl h⟩ (by dsimp only; rw [show bs (Q ++ obH 0 ++ []) = bs Q by apply ba_ex; simp [bs, obH]]; exact (zle 1)) ?_
    rintro ⟨i, s, hi, h0, h1⟩
    dsimp only
    rw [List.length_map] at hi
    rcases Nat.lt_or_ge i od.length with hlt | hge
    · have g1 : decide ((i : Int) < ((od.map encSK).length : Int)) = true := by rw [l4]; simpa using hlt
      have hx0 := List.getElem?_eq_getElem hlt
      generalize od[i] = x at hx0
      have hx := map_c (f := encSK) hx0
      have hm := List.mem_of_getElem? hx0
      have hmm : (od.map odT)[i]? = some (odT x) := by rw [List.getElem?_map, hx0]; rfl
      have ht := rtxx_ev (hod x hm)
      have zt : (bs (txE x.e)).size ≤ 400000 := by rw [bs_size]; exact txx_le (hod x hm)
      have ht1 := od_t (x := x)
      have ht2 := od_f (x := x)
      by_cases hi0 : i = 0
      · subst hi0
        have hs0 := h0 rfl
        subst hs0
        have g2 : (((0 : Nat) : Int) == 0) = true := rfl
        have z2 : (bs (Q ++ obH 0 ++ [])).size ≤ 8000609 := by rw [bs_size]; simp [obH]; exact zq
        have e1 : bs (Q ++ obH 0 ++ []) ++ ⟨#[32, 79, 82, 68, 69, 82, 32, 66, 89, 32]⟩ ++ bs (odT x) = bs (Q ++ obH 1 ++ ([] ++ odT x)) := by apply ba_ex; simp [bs, obH]
        have hfin : ∀ R : List UInt8, R = [] ++ odT x → R ++ Lib.joinTail [44, 32] ((od.map odT).drop 1) = Lib.join (od.map odT) [44, 32] := by
          intro R hR
          have := drop_at hmm
          rw [List.drop_zero] at this
          rw [hR, List.nil_append]
          conv => rhs; rw [this, Lib.join_cons]
        obtain ⟨xe, dc⟩ := x
        dsimp only at ht zt ht1 ht2
        cases dc with
        | true =>
          rw [ht1 rfl, ← ByteArray.append_assoc] at e1
          repeat' (first | refine zS rfl ?_ | refine qA ?_ | refine qB rfl ?_ | refine qD ?_ | refine qE ?_ | refine qF ?_ | refine qG ?_ | refine qI (encSK ⟨xe, true⟩) rfl (guardX_ok rfl) rfl rfl rfl rfl rfl rfl (by first | omega | decide) hx ?_ | refine go_loadA 9 rfl rfl rfl rfl rfl rfl ?_ | refine qP rfl rfl rfl rfl rfl rfl b124 (ht) ?_ | refine zT rfl ?_)
          refine go_stop ?_
          rw [e1]
          exact ⟨⟨1, [] ++ odT ⟨xe, true⟩, by rw [List.length_map]; omega, fun h => by omega, fun _ => hfin _ rfl⟩, by dsimp only; omega, (zle 1)⟩
        | false =>
          rw [ht2 rfl] at e1
          repeat' (first | refine zS rfl ?_ | refine qA ?_ | refine qB rfl ?_ | refine qD ?_ | refine qE ?_ | refine qF ?_ | refine qG ?_ | refine qI (encSK ⟨xe, false⟩) rfl (guardX_ok rfl) rfl rfl rfl rfl rfl rfl (by first | omega | decide) hx ?_ | refine go_loadA 9 rfl rfl rfl rfl rfl rfl ?_ | refine qP rfl rfl rfl rfl rfl rfl b124 (ht) ?_ | refine zT rfl ?_ | refine zU rfl ?_)
          refine go_stop ?_
          rw [e1]
          exact ⟨⟨1, [] ++ odT ⟨xe, false⟩, by rw [List.length_map]; omega, fun h => by omega, fun _ => hfin _ rfl⟩, by dsimp only; omega, (zle 1)⟩
      · have g2 : ((i : Int) == 0) = false := by simp; omega
        have h1' := h1 hi0
        rw [joinTail_at hmm] at h1'
        have hll : s.length ≤ 8000600 := by
          have := congrArg List.length h1'
          simp only [List.length_append] at this
          omega
        have z2 : (bs (Q ++ obH i ++ s)).size ≤ 16001300 := by
          have : (obH i).length ≤ 10 := by unfold obH; split <;> simp
          rw [bs_size, List.length_append, List.length_append]; omega
        have t1 : obH i = obH (i + 1) := by unfold obH; rw [if_neg hi0, if_neg (by omega)]
        have e1 : bs (Q ++ obH i ++ s) ++ ⟨#[44, 32]⟩ ++ bs (odT x) = bs (Q ++ obH (i + 1) ++ (s ++ [44, 32] ++ odT x)) := by rw [t1]; apply ba_ex; simp [bs]
        have hfin : ∀ R : List UInt8, R = odT x → (s ++ [44, 32] ++ R) ++ Lib.joinTail [44, 32] ((od.map odT).drop (i + 1)) = Lib.join (od.map odT) [44, 32] := by
          intro R hR
          rw [hR, ← h1']
          simp only [List.append_assoc]
        obtain ⟨xe, dc⟩ := x
        dsimp only at ht zt ht1 ht2
        cases dc with
        | true =>
          rw [ht1 rfl, ← ByteArray.append_assoc] at e1
          repeat' (first | refine zS rfl ?_ | refine qA ?_ | refine qB rfl ?_ | refine qD ?_ | refine qE ?_ | refine qF ?_ | refine qG ?_ | refine qI (encSK ⟨xe, true⟩) rfl (guardX_ok rfl) rfl rfl rfl rfl rfl rfl (by first | omega | decide) hx ?_ | refine go_loadA 9 rfl rfl rfl rfl rfl rfl ?_ | refine qP rfl rfl rfl rfl rfl rfl b124 (ht) ?_ | refine zT rfl ?_ | refine zU rfl ?_)
          refine go_stop ?_
          rw [e1]
          exact ⟨⟨i + 1, s ++ [44, 32] ++ odT ⟨xe, true⟩, by rw [List.length_map]; omega, fun h => by omega, fun _ => hfin _ rfl⟩, by dsimp only; omega, (zle 1)⟩
        | false =>
          rw [ht2 rfl] at e1
          repeat' (first | refine zS rfl ?_ | refine qA ?_ | refine qB rfl ?_ | refine qD ?_ | refine qE ?_ | refine qF ?_ | refine qG ?_ | refine qI (encSK ⟨xe, false⟩) rfl (guardX_ok rfl) rfl rfl rfl rfl rfl rfl (by first | omega | decide) hx ?_ | refine go_loadA 9 rfl rfl rfl rfl rfl rfl ?_ | refine qP rfl rfl rfl rfl rfl rfl b124 (ht) ?_ | refine zT rfl ?_ | refine zU rfl ?_)
          refine go_stop ?_
          rw [e1]
          exact ⟨⟨i + 1, s ++ [44, 32] ++ odT ⟨xe, false⟩, by rw [List.length_map]; omega, fun h => by omega, fun _ => hfin _ rfl⟩, by dsimp only; omega, (zle 1)⟩
    · have g1 : decide ((i : Int) < ((od.map encSK).length : Int)) = false := by rw [l4]; simp; omega
      have es : obT od = obH i ++ s := by
        by_cases hi0 : i = 0
        · have : od = [] := List.eq_nil_of_length_eq_zero (by omega)
          rw [this, hi0, h0 hi0]
          rfl
        · have e := h1 hi0
          rw [List.drop_eq_nil_of_le (by rw [List.length_map]; omega)] at e
          rw [show Lib.joinTail [44, 32] [] = [] from rfl, List.append_nil] at e
          have t2 : (od.length == 0) = false := by simp; intro h; rw [h] at hi; simp at hi; omega
          unfold obT obH
          rw [t2, if_neg hi0, ← e]
          rfl
      have z2 : (bs (Q ++ obH i ++ s)).size ≤ 16001300 := by
        rw [bs_size, List.append_assoc, List.length_append, ← es]; omega
      rw [es, ← List.append_assoc]
      generalize bs (Q ++ obH i ++ s) = B at *
      repeat' (first | refine zS rfl ?_ | refine qA ?_ | refine qB rfl ?_ | refine qC (by kernel_rfl) ?_ | refine qD ?_ | refine qH rfl ?_ | refine qP (d := 69) rfl rfl rfl rfl rfl rfl b222 (b1) ?_ | refine qP (d := 73) rfl rfl rfl rfl rfl rfl b222 (b2) ?_ | refine qP rfl rfl rfl rfl rfl rfl b123 (hwh) ?_ | refine zU rfl ?_ | refine qL rfl rfl ?_ | exact zD)
end Go.Proofs.YtmfjfclpdmpncaaGreatDoor

/- Assignments as text, by both texts. Conditions: assignments that the check accepts, of bounded size. -/
namespace Go.Proofs.YtmfjfclpdmpncaaGreatDoor
set_option maxRecDepth 4000
open Go Go.Abs Go.Val Go.RowKit
attribute [local irreducible] go SGo HasBody Ev ExtEv EvO EvS RGo

theorem as_l {x : SIt} (h : (!(x.lb.toList == (⟨#[]⟩ : ByteArray).toList)) = true) : bs (asT x) = x.vr ++ ⟨#[58]⟩ ++ x.lb := by
  have h' : (!(s0B x.lb)) = true := h
  unfold asT; rw [h']; apply ba_ex; simp [bs, bl]
theorem as_r {x : SIt} (h : (!(x.lb.toList == (⟨#[]⟩ : ByteArray).toList)) = false) (hr : rmF x = true) : bs (asT x) = x.vr ++ ⟨#[46]⟩ ++ x.key := by
  have h' : (!(s0B x.lb)) = false := h
  unfold asT; rw [h', hr]; apply ba_ex; simp [bs, bl]
theorem as_e {x : SIt} (h : (!(x.lb.toList == (⟨#[]⟩ : ByteArray).toList)) = false) (hr : rmF x = false) : bs (asT x) = x.vr ++ ⟨#[46]⟩ ++ x.key ++ ⟨#[32, 61, 32]⟩ ++ bs (txE x.e) := by
  have h' : (!(s0B x.lb)) = false := h
  unfold asT; rw [h', hr]; apply ba_ex; simp [bs, bl]
theorem lb_s0 {x : SIt} (h : (!(x.lb.toList == (⟨#[]⟩ : ByteArray).toList)) = false) : s0B x.lb = true := by
  have h' : (!(s0B x.lb)) = false := h
  simpa using h'
theorem gassign_ev (x : SIt) (h : TxI x) : Ev E 224 [encSI x] (.d (.str (bs (asT x)))) := by
  have y1 : (⟨#[58]⟩ : ByteArray).size = 1 := rfl
  have y2 : (⟨#[46]⟩ : ByteArray).size = 1 := rfl
  have y3 : (⟨#[32, 61, 32]⟩ : ByteArray).size = 3 := rfl
  have hv := h.v
  have hl := h.l
  have hk := h.k
  have hr := gremoval_ev x
  have a1 := as_l (x := x)
  have a2 := as_r (x := x)
  have a3 := as_e (x := x)
  have a4 := lb_s0 (x := x)
  have he := h.e
  cases c1 : (!(x.lb.toList == (⟨#[]⟩ : ByteArray).toList)) with
  | true =>
    rw [a1 c1]
    clear a1 a2 a3 a4 he
    obtain ⟨vr, key, lb, off, e⟩ := x
    dsimp only at *
    refine enter1 Tryz.func224 Tryz.ntmps224 rfl rfl fun w0 F0 O => ?_
    repeat' (first | refine zS rfl ?_ | refine qA ?_ | refine qB rfl ?_ | refine qD ?_ | refine zT rfl ?_ | refine qL rfl rfl ?_ | exact zD)
  | false =>
    have hx := he (a4 c1)
    have ht := rtxx_ev hx
    have zt := txx_le hx
    rw [← bs_size] at zt
    cases c2 : rmF x with
    | true =>
      rw [a2 c1 c2]
      rw [c2] at hr
      clear a1 a2 a3 a4 he c2
      obtain ⟨vr, key, lb, off, e⟩ := x
      dsimp only at *
      refine enter1 Tryz.func224 Tryz.ntmps224 rfl rfl fun w0 F0 O => ?_
      repeat' (first | refine zS rfl ?_ | refine qA ?_ | refine qB rfl ?_ | refine qD ?_ | refine qE ?_ | refine qP rfl rfl rfl rfl rfl rfl b223 (hr) ?_ | refine zT rfl ?_ | refine zU rfl ?_ | refine qL rfl rfl ?_ | exact zD)
    | false =>
      rw [a3 c1 c2]
      rw [c2] at hr
      clear a1 a2 a3 a4 he c2
      obtain ⟨vr, key, lb, off, e⟩ := x
      dsimp only at *
      refine enter1 Tryz.func224 Tryz.ntmps224 rfl rfl fun w0 F0 O => ?_
      repeat' (first | refine zS rfl ?_ | refine qA ?_ | refine qB rfl ?_ | refine qC (by kernel_rfl) ?_ | refine qD ?_ | refine qE ?_ | refine qP rfl rfl rfl rfl rfl rfl b223 (hr) ?_ | refine qP rfl rfl rfl rfl rfl rfl b124 (ht) ?_ | refine zU rfl ?_ | refine qL rfl rfl ?_ | exact zD)
/-! ## The elements of SET -/
theorem sep_0 (x : SIt) : bs (sepT none x) = bif rmF x then ⟨#[82, 69, 77, 79, 86, 69, 32]⟩ else ⟨#[83, 69, 84, 32]⟩ := by
  unfold sepT
  dsimp only [Option.isSome_none]
  cases rmF x <;> (apply ba_ex; simp [bs])
theorem sep_s {x y : SIt} (h : (rmF y == rmF x) = true) : bs (sepT (some y) x) = ⟨#[44, 32]⟩ := by
  unfold sepT
  dsimp only [Option.isSome_some]
  rw [h]
  rfl
theorem sep_n {x y : SIt} (h : (rmF y == rmF x) = false) : bs (sepT (some y) x) = ⟨#[32]⟩ ++ bif rmF x then ⟨#[82, 69, 77, 79, 86, 69, 32]⟩ else ⟨#[83, 69, 84, 32]⟩ := by
  unfold sepT
  dsimp only [Option.isSome_some]
  rw [h]
  cases rmF x <;> (apply ba_ex; simp [bs])
theorem se_at {l : List SIt} {i : Nat} {x : SIt} (h : l[i]? = some x) : bs ((seL none l).take (i + 1)).flatten = bs ((seL none l).take i).flatten ++ bs (sepT (preS none l i) x) ++ bs (asT x) := by
  rw [flat_at (sel_at none l i x h)]
  apply ba_ex; simp [bs]
theorem se_tk {l : List SIt} (hn : l.length ≤ 20) (h : ∀ x ∈ l, TxI x) (i : Nat) : (bs ((seL none l).take i).flatten).size ≤ 8001040 := by
  have h1 := flat_take_le (seL none l) i
  have h2 := se_le hn h
  unfold seT at h2
  rw [bs_size]
  omega
set_option maxHeartbeats 8000000 in
theorem fsets_ev (l : List SIt) (hn : l.length ≤ 20) (h : ∀ x ∈ l, TxI x) : Ev E 118 [.sl (l.map encSI)] (.d (.str (bs (seT l)))) := by
  have hle : (l.map encSI).length = l.length := by simp
  have hlen := sel_len none l
  have htk := se_tk hn h
  have y1 : (⟨#[58]⟩ : ByteArray).size = 1 := rfl
  have y2 : (⟨#[46]⟩ : ByteArray).size = 1 := rfl
  have y3 : (⟨#[32, 61, 32]⟩ : ByteArray).size = 3 := rfl
  have y4 : (⟨#[44, 32]⟩ : ByteArray).size = 2 := rfl
  have y5 : (⟨#[32]⟩ : ByteArray).size = 1 := rfl
  have y6 : (⟨#[82, 69, 77, 79, 86, 69, 32]⟩ : ByteArray).size = 7 := rfl
  have y7 : (⟨#[83, 69, 84, 32]⟩ : ByteArray).size = 4 := rfl
  have hat := fun i x => se_at (l := l) (i := i) (x := x)
  have efin : ∀ i, l.length ≤ i → bs ((seL none l).take i).flatten = bs (seT l) := fun i hi => by rw [List.take_of_length_le (by omega)]; rfl
  rw [← efin l.length (Nat.le_refl _)]
  generalize seL none l = L at *
  clear hlen efin
  refine enter1 Tryz.func118 Tryz.ntmps118 rfl rfl fun w0 F0 O => ?_
  repeat' (first | refine zS rfl ?_ | refine qA ?_ | refine qB rfl ?_ | refine qD ?_ | refine qF ?_)
  refine go_loop_ (α := SDx l) (fun p => ⟨[(0, .d (.sl (l.map encSI))), (3, .d (.str (bs (L.take p.i).flatten))), (7, .d (.sl (l.map encSI))), (8, .d (.int (l.map encSI).length)), (9, .d (.int p.i))], []⟩) (fun p => l.length - p.i) ⟨0, by omega⟩ (by dsimp only; rw [List.take_zero]; exact (zle 0)) ?_
  rintro ⟨i, hi⟩
  dsimp only
  rcases Nat.lt_or_ge i l.length with hlt | hge
  · have g1 : decide ((i : Int) < ((l.map encSI).length : Int)) = true := by rw [hle]; simpa using hlt
    have hx0 := List.getElem?_eq_getElem hlt
    generalize l[i] = x at hx0
    have hx := map_c (f := encSI) hx0
    have hT := h x (List.mem_of_getElem? hx0)
    have hnx := hat i x hx0
    have zSs := htk i
    have hr := fremoval_ev x
    have p0 : i = 0 → preS none l i = none := fun e => by unfold preS; rw [if_pos e]
    have ps : ∀ y, i ≠ 0 → l[i - 1]? = some y → preS none l i = some y := fun y e hy => by unfold preS; rw [if_neg e]; exact hy
    have hzv := hT.v
    have hzl := hT.l
    have hzk := hT.k
    have hze := hT.e
    have a1 := as_l (x := x)
    have a2 := as_r (x := x)
    have a3 := as_e (x := x)
    have a4 := lb_s0 (x := x)
    have b0 := sep_0 x
    have b1 := fun y => sep_s (x := x) (y := y)
    have b2 := fun y => sep_n (x := x) (y := y)
    obtain ⟨S2, hS2⟩ : ∃ s, bs (L.take (i + 1)).flatten = s := ⟨_, rfl⟩
    rw [hS2] at hnx
    generalize bs (L.take i).flatten = S1 at *
    rcases Nat.eq_zero_or_pos i with hi0 | hi0
    · rw [p0 hi0] at hnx
      rw [b0] at hnx
      subst hi0
      have g2 : decide (((0 : Nat) : Int) > 0) = false := rfl
      clear b0 b1 b2 p0 ps
      cases c2 : rmF x with
      | true =>
        rw [c2] at hr
        rw [c2] at hnx
        simp only [cond_true, cond_false] at hnx
        cases c1 : (!(x.lb.toList == (⟨#[]⟩ : ByteArray).toList)) with
        | true =>
          rw [a1 c1] at hnx
          clear a1 a2 a3 a4 hze hT c2
          obtain ⟨vr, key, lb, off, e⟩ := x
          dsimp only at *
          repeat' (first | refine zS rfl ?_ | refine qA ?_ | refine qB rfl ?_ | refine qD ?_ | refine qE ?_ | refine qF ?_ | refine qG ?_ | refine qH rfl ?_ | refine qI (encSI ⟨vr, key, lb, off, e⟩) rfl (guardX_ok rfl) rfl rfl rfl rfl rfl rfl (by first | omega | decide) hx ?_ | refine qP (d := 15) rfl rfl rfl rfl rfl rfl b212 (hr) ?_ | refine zT rfl ?_ | refine zU rfl ?_)
          refine go_stop ?_
          rw [← hnx, ← hS2]
          exact ⟨⟨1, by omega⟩, by dsimp only; omega, (zle 0)⟩
        | false =>
          rw [a2 c1 c2] at hnx
          clear a1 a2 a3 a4 hze hT c2
          obtain ⟨vr, key, lb, off, e⟩ := x
          dsimp only at *
          repeat' (first | refine zS rfl ?_ | refine qA ?_ | refine qB rfl ?_ | refine qD ?_ | refine qE ?_ | refine qF ?_ | refine qG ?_ | refine qH rfl ?_ | refine qI (encSI ⟨vr, key, lb, off, e⟩) rfl (guardX_ok rfl) rfl rfl rfl rfl rfl rfl (by first | omega | decide) hx ?_ | refine qP (d := 15) rfl rfl rfl rfl rfl rfl b212 (hr) ?_ | refine zT rfl ?_ | refine zU rfl ?_)
          refine go_stop ?_
          rw [← hnx, ← hS2]
          exact ⟨⟨1, by omega⟩, by dsimp only; omega, (zle 0)⟩
      | false =>
        rw [c2] at hr
        rw [c2] at hnx
        simp only [cond_true, cond_false] at hnx
        cases c1 : (!(x.lb.toList == (⟨#[]⟩ : ByteArray).toList)) with
        | true =>
          rw [a1 c1] at hnx
          clear a1 a2 a3 a4 hze hT c2
          obtain ⟨vr, key, lb, off, e⟩ := x
          dsimp only at *
          repeat' (first | refine zS rfl ?_ | refine qA ?_ | refine qB rfl ?_ | refine qD ?_ | refine qE ?_ | refine qF ?_ | refine qG ?_ | refine qH rfl ?_ | refine qI (encSI ⟨vr, key, lb, off, e⟩) rfl (guardX_ok rfl) rfl rfl rfl rfl rfl rfl (by first | omega | decide) hx ?_ | refine qP (d := 15) rfl rfl rfl rfl rfl rfl b212 (hr) ?_ | refine zT rfl ?_ | refine zU rfl ?_)
          refine go_stop ?_
          rw [← hnx, ← hS2]
          exact ⟨⟨1, by omega⟩, by dsimp only; omega, (zle 0)⟩
        | false =>
          have ht := txx_ev (hze (a4 c1))
          have zt := txx_le (hze (a4 c1))
          rw [← bs_size] at zt
          rw [a3 c1 c2] at hnx
          clear a1 a2 a3 a4 hze hT c2
          obtain ⟨vr, key, lb, off, e⟩ := x
          dsimp only at *
          repeat' (first | refine zS rfl ?_ | refine qA ?_ | refine qB rfl ?_ | refine qC (by kernel_rfl) ?_ | refine qD ?_ | refine qE ?_ | refine qF ?_ | refine qG ?_ | refine qH rfl ?_ | refine qI (encSI ⟨vr, key, lb, off, e⟩) rfl (guardX_ok rfl) rfl rfl rfl rfl rfl rfl (by first | omega | decide) hx ?_ | refine qP (d := 15) rfl rfl rfl rfl rfl rfl b212 (hr) ?_ | refine qP rfl rfl rfl rfl rfl rfl b109 (ht) ?_ | refine zT rfl ?_ | refine zU rfl ?_)
          refine go_stop ?_
          rw [← hnx, ← hS2]
          exact ⟨⟨1, by omega⟩, by dsimp only; omega, (zle 0)⟩
    · have g2 : decide ((i : Int) > 0) = true := by simp; omega
      have hy0 := List.getElem?_eq_getElem (l := l) (i := i - 1) (by omega)
      generalize l[i - 1] = y at hy0
      have hy : (l.map encSI)[((i : Int) - 1).toNat]? = some (encSI y) := by
        have := map_c (f := encSI) hy0
        rw [show ((i : Int) - 1).toNat = i - 1 by omega]
        rw [Int.toNat_natCast] at this
        exact this
      have hr2 := fremoval_ev y
      rw [ps y (by omega) hy0] at hnx
      cases c3 : (rmF y == rmF x) with
      | true =>
        rw [b1 y c3] at hnx
        clear b0 b1 b2 p0 ps hy0
        cases c2 : rmF x with
        | true =>
          rw [c2] at hr
          rw [c2] at c3
          have c4 : rmF y = true := by simpa using c3
          rw [c4] at hr2
          cases c1 : (!(x.lb.toList == (⟨#[]⟩ : ByteArray).toList)) with
          | true =>
            rw [a1 c1] at hnx
            clear a1 a2 a3 a4 hze hT c2 c3 c4
            obtain ⟨vr, key, lb, off, e⟩ := x
            dsimp only at *
            repeat' (first | refine zS rfl ?_ | refine qA ?_ | refine qB rfl ?_ | refine qD ?_ | refine qE ?_ | refine qF ?_ | refine qG ?_ | refine qH rfl ?_ | refine qI (encSI ⟨vr, key, lb, off, e⟩) rfl (guardX_ok rfl) rfl rfl rfl rfl rfl rfl (by first | omega | decide) hx ?_ | refine qI (encSI y) rfl (guardX_ok rfl) rfl rfl rfl rfl rfl rfl (by first | omega | decide) hy ?_ | refine qP (d := 25) rfl rfl rfl rfl rfl rfl b212 (hr2) ?_ | refine qP (d := 15) rfl rfl rfl rfl rfl rfl b212 (hr) ?_ | refine zT rfl ?_ | refine zX rfl rfl rfl rfl ?_)
            refine go_stop ?_
            rw [← hnx, ← hS2]
            exact ⟨⟨i + 1, by omega⟩, by dsimp only; omega, (zle 0)⟩
          | false =>
            rw [a2 c1 c2] at hnx
            clear a1 a2 a3 a4 hze hT c2 c3 c4
            obtain ⟨vr, key, lb, off, e⟩ := x
            dsimp only at *
            repeat' (first | refine zS rfl ?_ | refine qA ?_ | refine qB rfl ?_ | refine qD ?_ | refine qE ?_ | refine qF ?_ | refine qG ?_ | refine qH rfl ?_ | refine qI (encSI ⟨vr, key, lb, off, e⟩) rfl (guardX_ok rfl) rfl rfl rfl rfl rfl rfl (by first | omega | decide) hx ?_ | refine qI (encSI y) rfl (guardX_ok rfl) rfl rfl rfl rfl rfl rfl (by first | omega | decide) hy ?_ | refine qP (d := 25) rfl rfl rfl rfl rfl rfl b212 (hr2) ?_ | refine qP (d := 15) rfl rfl rfl rfl rfl rfl b212 (hr) ?_ | refine zT rfl ?_ | refine zU rfl ?_ | refine zX rfl rfl rfl rfl ?_)
            refine go_stop ?_
            rw [← hnx, ← hS2]
            exact ⟨⟨i + 1, by omega⟩, by dsimp only; omega, (zle 0)⟩
        | false =>
          rw [c2] at hr
          rw [c2] at c3
          have c4 : rmF y = false := by simpa using c3
          rw [c4] at hr2
          cases c1 : (!(x.lb.toList == (⟨#[]⟩ : ByteArray).toList)) with
          | true =>
            rw [a1 c1] at hnx
            clear a1 a2 a3 a4 hze hT c2 c3 c4
            obtain ⟨vr, key, lb, off, e⟩ := x
            dsimp only at *
            repeat' (first | refine zS rfl ?_ | refine qA ?_ | refine qB rfl ?_ | refine qD ?_ | refine qE ?_ | refine qF ?_ | refine qG ?_ | refine qH rfl ?_ | refine qI (encSI ⟨vr, key, lb, off, e⟩) rfl (guardX_ok rfl) rfl rfl rfl rfl rfl rfl (by first | omega | decide) hx ?_ | refine qI (encSI y) rfl (guardX_ok rfl) rfl rfl rfl rfl rfl rfl (by first | omega | decide) hy ?_ | refine qP (d := 25) rfl rfl rfl rfl rfl rfl b212 (hr2) ?_ | refine qP (d := 15) rfl rfl rfl rfl rfl rfl b212 (hr) ?_ | refine zT rfl ?_ | refine zX rfl rfl rfl rfl ?_)
            refine go_stop ?_
            rw [← hnx, ← hS2]
            exact ⟨⟨i + 1, by omega⟩, by dsimp only; omega, (zle 0)⟩
          | false =>
            have ht := txx_ev (hze (a4 c1))
            have zt := txx_le (hze (a4 c1))
            rw [← bs_size] at zt
            rw [a3 c1 c2] at hnx
            clear a1 a2 a3 a4 hze hT c2 c3 c4
            obtain ⟨vr, key, lb, off, e⟩ := x
            dsimp only at *
            repeat' (first | refine zS rfl ?_ | refine qA ?_ | refine qB rfl ?_ | refine qC (by kernel_rfl) ?_ | refine qD ?_ | refine qE ?_ | refine qF ?_ | refine qG ?_ | refine qH rfl ?_ | refine qI (encSI ⟨vr, key, lb, off, e⟩) rfl (guardX_ok rfl) rfl rfl rfl rfl rfl rfl (by first | omega | decide) hx ?_ | refine qI (encSI y) rfl (guardX_ok rfl) rfl rfl rfl rfl rfl rfl (by first | omega | decide) hy ?_ | refine qP (d := 25) rfl rfl rfl rfl rfl rfl b212 (hr2) ?_ | refine qP (d := 15) rfl rfl rfl rfl rfl rfl b212 (hr) ?_ | refine qP rfl rfl rfl rfl rfl rfl b109 (ht) ?_ | refine zT rfl ?_ | refine zU rfl ?_ | refine zX rfl rfl rfl rfl ?_)
            refine go_stop ?_
            rw [← hnx, ← hS2]
            exact ⟨⟨i + 1, by omega⟩, by dsimp only; omega, (zle 0)⟩
      | false =>
        rw [b2 y c3] at hnx
        clear b0 b1 b2 p0 ps hy0
        cases c2 : rmF x with
        | true =>
          rw [c2] at hr
          rw [c2] at c3
          have c4 : rmF y = false := by simpa using c3
          rw [c4] at hr2
          rw [c2] at hnx
          simp only [cond_true, cond_false] at hnx
          rw [← ByteArray.append_assoc] at hnx
          cases c1 : (!(x.lb.toList == (⟨#[]⟩ : ByteArray).toList)) with
          | true =>
            rw [a1 c1] at hnx
            clear a1 a2 a3 a4 hze hT c2 c3 c4
            obtain ⟨vr, key, lb, off, e⟩ := x
            dsimp only at *
            repeat' (first | refine zS rfl ?_ | refine qA ?_ | refine qB rfl ?_ | refine qD ?_ | refine qE ?_ | refine qF ?_ | refine qG ?_ | refine qH rfl ?_ | refine qI (encSI ⟨vr, key, lb, off, e⟩) rfl (guardX_ok rfl) rfl rfl rfl rfl rfl rfl (by first | omega | decide) hx ?_ | refine qI (encSI y) rfl (guardX_ok rfl) rfl rfl rfl rfl rfl rfl (by first | omega | decide) hy ?_ | refine qP (d := 25) rfl rfl rfl rfl rfl rfl b212 (hr2) ?_ | refine qP (d := 15) rfl rfl rfl rfl rfl rfl b212 (hr) ?_ | refine zT rfl ?_ | refine zU rfl ?_ | refine zX rfl rfl rfl rfl ?_)
            refine go_stop ?_
            rw [← hnx, ← hS2]
            exact ⟨⟨i + 1, by omega⟩, by dsimp only; omega, (zle 0)⟩
          | false =>
            rw [a2 c1 c2] at hnx
            clear a1 a2 a3 a4 hze hT c2 c3 c4
            obtain ⟨vr, key, lb, off, e⟩ := x
            dsimp only at *
            repeat' (first | refine zS rfl ?_ | refine qA ?_ | refine qB rfl ?_ | refine qD ?_ | refine qE ?_ | refine qF ?_ | refine qG ?_ | refine qH rfl ?_ | refine qI (encSI ⟨vr, key, lb, off, e⟩) rfl (guardX_ok rfl) rfl rfl rfl rfl rfl rfl (by first | omega | decide) hx ?_ | refine qI (encSI y) rfl (guardX_ok rfl) rfl rfl rfl rfl rfl rfl (by first | omega | decide) hy ?_ | refine qP (d := 25) rfl rfl rfl rfl rfl rfl b212 (hr2) ?_ | refine qP (d := 15) rfl rfl rfl rfl rfl rfl b212 (hr) ?_ | refine zT rfl ?_ | refine zU rfl ?_ | refine zX rfl rfl rfl rfl ?_)
            refine go_stop ?_
            rw [← hnx, ← hS2]
            exact ⟨⟨i + 1, by omega⟩, by dsimp only; omega, (zle 0)⟩
        | false =>
          rw [c2] at hr
          rw [c2] at c3
          have c4 : rmF y = true := by simpa using c3
          rw [c4] at hr2
          rw [c2] at hnx
          simp only [cond_true, cond_false] at hnx
          rw [← ByteArray.append_assoc] at hnx
          cases c1 : (!(x.lb.toList == (⟨#[]⟩ : ByteArray).toList)) with
          | true =>
            rw [a1 c1] at hnx
            clear a1 a2 a3 a4 hze hT c2 c3 c4
            obtain ⟨vr, key, lb, off, e⟩ := x
            dsimp only at *
            repeat' (first | refine zS rfl ?_ | refine qA ?_ | refine qB rfl ?_ | refine qD ?_ | refine qE ?_ | refine qF ?_ | refine qG ?_ | refine qH rfl ?_ | refine qI (encSI ⟨vr, key, lb, off, e⟩) rfl (guardX_ok rfl) rfl rfl rfl rfl rfl rfl (by first | omega | decide) hx ?_ | refine qI (encSI y) rfl (guardX_ok rfl) rfl rfl rfl rfl rfl rfl (by first | omega | decide) hy ?_ | refine qP (d := 25) rfl rfl rfl rfl rfl rfl b212 (hr2) ?_ | refine qP (d := 15) rfl rfl rfl rfl rfl rfl b212 (hr) ?_ | refine zT rfl ?_ | refine zU rfl ?_ | refine zX rfl rfl rfl rfl ?_)
            refine go_stop ?_
            rw [← hnx, ← hS2]
            exact ⟨⟨i + 1, by omega⟩, by dsimp only; omega, (zle 0)⟩
          | false =>
            have ht := txx_ev (hze (a4 c1))
            have zt := txx_le (hze (a4 c1))
            rw [← bs_size] at zt
            rw [a3 c1 c2] at hnx
            clear a1 a2 a3 a4 hze hT c2 c3 c4
            obtain ⟨vr, key, lb, off, e⟩ := x
            dsimp only at *
            repeat' (first | refine zS rfl ?_ | refine qA ?_ | refine qB rfl ?_ | refine qC (by kernel_rfl) ?_ | refine qD ?_ | refine qE ?_ | refine qF ?_ | refine qG ?_ | refine qH rfl ?_ | refine qI (encSI ⟨vr, key, lb, off, e⟩) rfl (guardX_ok rfl) rfl rfl rfl rfl rfl rfl (by first | omega | decide) hx ?_ | refine qI (encSI y) rfl (guardX_ok rfl) rfl rfl rfl rfl rfl rfl (by first | omega | decide) hy ?_ | refine qP (d := 25) rfl rfl rfl rfl rfl rfl b212 (hr2) ?_ | refine qP (d := 15) rfl rfl rfl rfl rfl rfl b212 (hr) ?_ | refine qP rfl rfl rfl rfl rfl rfl b109 (ht) ?_ | refine zT rfl ?_ | refine zU rfl ?_ | refine zX rfl rfl rfl rfl ?_)
            refine go_stop ?_
            rw [← hnx, ← hS2]
            exact ⟨⟨i + 1, by omega⟩, by dsimp only; omega, (zle 0)⟩
  · have g1 : decide ((i : Int) < ((l.map encSI).length : Int)) = false := by rw [hle]; simp; omega
    obtain rfl : i = l.length := by omega
    repeat' (first | refine zS rfl ?_ | refine qA ?_ | refine qB rfl ?_ | refine qD ?_ | refine qH rfl ?_ | refine zU rfl ?_ | refine qL rfl rfl ?_ | exact zD)
set_option maxHeartbeats 8000000 in
theorem gsets_ev (l : List SIt) (hn : l.length ≤ 20) (h : ∀ x ∈ l, TxI x) : Ev E 126 [.sl (l.map encSI)] (.d (.str (bs (seT l)))) := by
  have hle : (l.map encSI).length = l.length := by simp
  have hlen := sel_len none l
  have htk := se_tk hn h
  have y1 : (⟨#[58]⟩ : ByteArray).size = 1 := rfl
  have y2 : (⟨#[46]⟩ : ByteArray).size = 1 := rfl
  have y3 : (⟨#[32, 61, 32]⟩ : ByteArray).size = 3 := rfl
  have y4 : (⟨#[44, 32]⟩ : ByteArray).size = 2 := rfl
  have y5 : (⟨#[32]⟩ : ByteArray).size = 1 := rfl
  have y6 : (⟨#[82, 69, 77, 79, 86, 69, 32]⟩ : ByteArray).size = 7 := rfl
  have y7 : (⟨#[83, 69, 84, 32]⟩ : ByteArray).size = 4 := rfl
  have hat := fun i x => se_at (l := l) (i := i) (x := x)
  have efin : ∀ i, l.length ≤ i → bs ((seL none l).take i).flatten = bs (seT l) := fun i hi => by rw [List.take_of_length_le (by omega)]; rfl
  rw [← efin l.length (Nat.le_refl _)]
  generalize seL none l = L at *
  clear hlen efin
  refine enter1 Tryz.func126 Tryz.ntmps126 rfl rfl fun w0 F0 O => ?_
  repeat' (first | refine zS rfl ?_ | refine qA ?_ | refine qB rfl ?_ | refine qD ?_ | refine qF ?_)
  refine go_loop_ (α := SDx l) (fun p => ⟨[(0, .d (.sl (l.map encSI))), (3, .d (.str (bs (L.take p.i).flatten))), (4, .d (.int p.i))], []⟩) (fun p => l.length - p.i) ⟨0, by omega⟩ (by dsimp only; rw [List.take_zero]; exact (zle 0)) ?_
  rintro ⟨i, hi⟩
  dsimp only
  rcases Nat.lt_or_ge i l.length with hlt | hge
  · have g1 : decide ((i : Int) < ((l.map encSI).length : Int)) = true := by rw [hle]; simpa using hlt
    have hx0 := List.getElem?_eq_getElem hlt
    generalize l[i] = x at hx0
    have hx := map_c (f := encSI) hx0
    have hT := h x (List.mem_of_getElem? hx0)
    have hnx := hat i x hx0
    have zSs := htk i
    have hr := gremoval_ev x
    have p0 : i = 0 → preS none l i = none := fun e => by unfold preS; rw [if_pos e]
    have ps : ∀ y, i ≠ 0 → l[i - 1]? = some y → preS none l i = some y := fun y e hy => by unfold preS; rw [if_neg e]; exact hy
    have hzv := hT.v
    have hzl := hT.l
    have hzk := hT.k
    have hze := hT.e
    have a1 := as_l (x := x)
    have a2 := as_r (x := x)
    have a3 := as_e (x := x)
    have a4 := lb_s0 (x := x)
    have b0 := sep_0 x
    have b1 := fun y => sep_s (x := x) (y := y)
    have b2 := fun y => sep_n (x := x) (y := y)
    have ha := gassign_ev x hT
    have za := as_le hT
    rw [← bs_size] at za
    generalize bs (asT x) = AS at *
    obtain ⟨S2, hS2⟩ : ∃ s, bs (L.take (i + 1)).flatten = s := ⟨_, rfl⟩
    rw [hS2] at hnx
    generalize bs (L.take i).flatten = S1 at *
    rcases Nat.eq_zero_or_pos i with hi0 | hi0
    · rw [p0 hi0] at hnx
      rw [b0] at hnx
      subst hi0
      have g2 : decide (((0 : Nat) : Int) > 0) = false := rfl
      clear b0 b1 b2 p0 ps
      clear a1 a2 a3 a4 hze hzv hzl hzk
      cases c2 : rmF x with
      | true =>
        rw [c2] at hr
        rw [c2] at hnx
        simp only [cond_true, cond_false] at hnx
        repeat' (first | refine zS rfl ?_ | refine qA ?_ | refine qB rfl ?_ | refine qC (by kernel_rfl) ?_ | refine qD ?_ | refine qE ?_ | refine qF ?_ | refine qG ?_ | refine qI (encSI x) rfl (guardX_ok rfl) rfl rfl rfl rfl rfl rfl (by first | omega | decide) hx ?_ | refine qP (d := 37) rfl rfl rfl rfl rfl rfl b223 (hr) ?_ | refine qP rfl rfl rfl rfl rfl rfl b224 (ha) ?_ | refine zT rfl ?_ | refine zU rfl ?_)
        refine go_stop ?_
        rw [← hnx, ← hS2]
        exact ⟨⟨1, by omega⟩, by dsimp only; omega, (zle 0)⟩
      | false =>
        rw [c2] at hr
        rw [c2] at hnx
        simp only [cond_true, cond_false] at hnx
        repeat' (first | refine zS rfl ?_ | refine qA ?_ | refine qB rfl ?_ | refine qC (by kernel_rfl) ?_ | refine qD ?_ | refine qE ?_ | refine qF ?_ | refine qG ?_ | refine qI (encSI x) rfl (guardX_ok rfl) rfl rfl rfl rfl rfl rfl (by first | omega | decide) hx ?_ | refine qP (d := 37) rfl rfl rfl rfl rfl rfl b223 (hr) ?_ | refine qP rfl rfl rfl rfl rfl rfl b224 (ha) ?_ | refine zT rfl ?_ | refine zU rfl ?_)
        refine go_stop ?_
        rw [← hnx, ← hS2]
        exact ⟨⟨1, by omega⟩, by dsimp only; omega, (zle 0)⟩
    · have g2 : decide ((i : Int) > 0) = true := by simp; omega
      have hy0 := List.getElem?_eq_getElem (l := l) (i := i - 1) (by omega)
      generalize l[i - 1] = y at hy0
      have hy : (l.map encSI)[((i : Int) - 1).toNat]? = some (encSI y) := by
        have := map_c (f := encSI) hy0
        rw [show ((i : Int) - 1).toNat = i - 1 by omega]
        rw [Int.toNat_natCast] at this
        exact this
      have hr2 := gremoval_ev y
      rw [ps y (by omega) hy0] at hnx
      cases c3 : (rmF y == rmF x) with
      | true =>
        rw [b1 y c3] at hnx
        clear b0 b1 b2 p0 ps hy0
        clear a1 a2 a3 a4 hze hzv hzl hzk
        cases c2 : rmF x with
        | true =>
          rw [c2] at hr
          rw [c2] at c3
          have c4 : rmF y = true := by simpa using c3
          rw [c4] at hr2
          repeat' (first | refine zS rfl ?_ | refine qA ?_ | refine qB rfl ?_ | refine qC (by kernel_rfl) ?_ | refine qD ?_ | refine qE ?_ | refine qF ?_ | refine qG ?_ | refine qI (encSI x) rfl (guardX_ok rfl) rfl rfl rfl rfl rfl rfl (by first | omega | decide) hx ?_ | refine qI (encSI y) rfl (guardX_ok rfl) rfl rfl rfl rfl rfl rfl (by first | omega | decide) hy ?_ | refine qP (d := 24) rfl rfl rfl rfl rfl rfl b223 (hr2) ?_ | refine qP (d := 18) rfl rfl rfl rfl rfl rfl b223 (hr) ?_ | refine qP rfl rfl rfl rfl rfl rfl b224 (ha) ?_ | refine zT rfl ?_ | refine zX rfl rfl rfl rfl ?_)
          refine go_stop ?_
          rw [← hnx, ← hS2]
          exact ⟨⟨i + 1, by omega⟩, by dsimp only; omega, (zle 0)⟩
        | false =>
          rw [c2] at hr
          rw [c2] at c3
          have c4 : rmF y = false := by simpa using c3
          rw [c4] at hr2
          repeat' (first | refine zS rfl ?_ | refine qA ?_ | refine qB rfl ?_ | refine qC (by kernel_rfl) ?_ | refine qD ?_ | refine qE ?_ | refine qF ?_ | refine qG ?_ | refine qI (encSI x) rfl (guardX_ok rfl) rfl rfl rfl rfl rfl rfl (by first | omega | decide) hx ?_ | refine qI (encSI y) rfl (guardX_ok rfl) rfl rfl rfl rfl rfl rfl (by first | omega | decide) hy ?_ | refine qP (d := 24) rfl rfl rfl rfl rfl rfl b223 (hr2) ?_ | refine qP (d := 18) rfl rfl rfl rfl rfl rfl b223 (hr) ?_ | refine qP rfl rfl rfl rfl rfl rfl b224 (ha) ?_ | refine zT rfl ?_ | refine zX rfl rfl rfl rfl ?_)
          refine go_stop ?_
          rw [← hnx, ← hS2]
          exact ⟨⟨i + 1, by omega⟩, by dsimp only; omega, (zle 0)⟩
      | false =>
        rw [b2 y c3] at hnx
        clear b0 b1 b2 p0 ps hy0
        clear a1 a2 a3 a4 hze hzv hzl hzk
        cases c2 : rmF x with
        | true =>
          rw [c2] at hr
          rw [c2] at c3
          have c4 : rmF y = false := by simpa using c3
          rw [c4] at hr2
          rw [c2] at hnx
          simp only [cond_true, cond_false] at hnx
          rw [← ByteArray.append_assoc] at hnx
          repeat' (first | refine zS rfl ?_ | refine qA ?_ | refine qB rfl ?_ | refine qC (by kernel_rfl) ?_ | refine qD ?_ | refine qE ?_ | refine qF ?_ | refine qG ?_ | refine qI (encSI x) rfl (guardX_ok rfl) rfl rfl rfl rfl rfl rfl (by first | omega | decide) hx ?_ | refine qI (encSI y) rfl (guardX_ok rfl) rfl rfl rfl rfl rfl rfl (by first | omega | decide) hy ?_ | refine qP (d := 24) rfl rfl rfl rfl rfl rfl b223 (hr2) ?_ | refine qP (d := 18) rfl rfl rfl rfl rfl rfl b223 (hr) ?_ | refine qP (d := 37) rfl rfl rfl rfl rfl rfl b223 (hr) ?_ | refine qP rfl rfl rfl rfl rfl rfl b224 (ha) ?_ | refine zT rfl ?_ | refine zU rfl ?_ | refine zX rfl rfl rfl rfl ?_)
          refine go_stop ?_
          rw [← hnx, ← hS2]
          exact ⟨⟨i + 1, by omega⟩, by dsimp only; omega, (zle 0)⟩
        | false =>
          rw [c2] at hr
          rw [c2] at c3
          have c4 : rmF y = true := by simpa using c3
          rw [c4] at hr2
          rw [c2] at hnx
          simp only [cond_true, cond_false] at hnx
          rw [← ByteArray.append_assoc] at hnx
          repeat' (first | refine zS rfl ?_ | refine qA ?_ | refine qB rfl ?_ | refine qC (by kernel_rfl) ?_ | refine qD ?_ | refine qE ?_ | refine qF ?_ | refine qG ?_ | refine qI (encSI x) rfl (guardX_ok rfl) rfl rfl rfl rfl rfl rfl (by first | omega | decide) hx ?_ | refine qI (encSI y) rfl (guardX_ok rfl) rfl rfl rfl rfl rfl rfl (by first | omega | decide) hy ?_ | refine qP (d := 24) rfl rfl rfl rfl rfl rfl b223 (hr2) ?_ | refine qP (d := 18) rfl rfl rfl rfl rfl rfl b223 (hr) ?_ | refine qP (d := 37) rfl rfl rfl rfl rfl rfl b223 (hr) ?_ | refine qP rfl rfl rfl rfl rfl rfl b224 (ha) ?_ | refine zT rfl ?_ | refine zU rfl ?_ | refine zX rfl rfl rfl rfl ?_)
          refine go_stop ?_
          rw [← hnx, ← hS2]
          exact ⟨⟨i + 1, by omega⟩, by dsimp only; omega, (zle 0)⟩
  · have g1 : decide ((i : Int) < ((l.map encSI).length : Int)) = false := by rw [hle]; simp; omega
    obtain rfl : i = l.length := by omega
    repeat' (first | refine zS rfl ?_ | refine qA ?_ | refine qB rfl ?_ | refine qD ?_ | refine qH rfl ?_ | refine zU rfl ?_ | refine qL rfl rfl ?_ | exact zD)
end Go.Proofs.YtmfjfclpdmpncaaGreatDoor
