/- A clause as text, by both texts; Clauses and queries, checked and written as text, by both texts; Small patterns and clauses, as the statements' own text measures them; From rows' readings to clauses and queries; the listed variables as the engine wants them; a world for the witnesses; The statements' own examples. Conditions: each part's own, as it says. -/
import Derived.Test.YtmfjfclpdmpncaaGreatDoorDB
import Derived.Test.YtmfjfclpdmpncaaGreatDoorCD
import Derived.Test.YtmfjfclpdmpncaaGreatDoorDA
import Derived.Test.YtmfjfclpdmpncaaGreatDoorCC
import Derived.Test.YtmfjfclpdmpncaaGreatDoorGC
import Derived.Test.YtmfjfclpdmpncaaGreatDoorGB
import Derived.Test.YtmfjfclpdmpncaaGreatDoorRows
import Derived.Test.YtmfjfclpdmpncaaGreatDoorTie
import Derived.ProofKit
set_option linter.unusedVariables false
set_option linter.unusedSimpArgs false
/- A clause as text, by both texts. Conditions: a clause that the check accepts, of bounded size. -/
namespace Go.Proofs.YtmfjfclpdmpncaaGreatDoor
set_option maxRecDepth 4000
open Go Go.Abs Go.Val Go.RowKit
attribute [local irreducible] go SGo HasBody Ev ExtEv EvO EvS RGo

theorem ct1t {c : CL} (h : (c.k == 1) = true) (ho : c.opt = true) : bs (clT c) = ⟨#[79, 80, 84, 73, 79, 78, 65, 76, 32]⟩ ++ (⟨#[77, 65, 84, 67, 72, 32]⟩ ++ bs (Lib.join (c.ps.map paT) [44, 32]) ++ bs (whT c.wh)) := by unfold clT; rw [h, ho]; apply ba_ex; simp [bs]
theorem ct1f {c : CL} (h : (c.k == 1) = true) (ho : c.opt = false) : bs (clT c) = ⟨#[77, 65, 84, 67, 72, 32]⟩ ++ bs (Lib.join (c.ps.map paT) [44, 32]) ++ bs (whT c.wh) := by unfold clT; rw [h, ho]; apply ba_ex; simp [bs]
theorem ct2 {c : CL} (h1 : (c.k == 1) = false) (h : (c.k == 2) = true) : bs (clT c) = ⟨#[85, 78, 87, 73, 78, 68, 32]⟩ ++ bs (txE c.e) ++ ⟨#[32, 65, 83, 32]⟩ ++ c.nm := by unfold clT; rw [h1, h]; apply ba_ex; simp [bs, bl]
theorem ct3 {c : CL} (h1 : (c.k == 1) = false) (h2 : (c.k == 2) = false) (h : (c.k == 3) = true) : bs (clT c) = ⟨#[87, 73, 84, 72]⟩ ++ bs ([32] ++ pjT c) ∧ bs (clT c) = ⟨#[87, 73, 84, 72, 32]⟩ ++ bs (pjT c) := by unfold clT; rw [h1, h2, h]; exact ⟨by apply ba_ex; simp [bs], by apply ba_ex; simp [bs]⟩
theorem ct4 {c : CL} (h1 : (c.k == 1) = false) (h2 : (c.k == 2) = false) (h3 : (c.k == 3) = false) (h : (c.k == 4) = true) : bs (clT c) = ⟨#[82, 69, 84, 85, 82, 78]⟩ ++ bs ([32] ++ pjT c) ∧ bs (clT c) = ⟨#[82, 69, 84, 85, 82, 78, 32]⟩ ++ bs (pjT c) := by unfold clT; rw [h1, h2, h3, h]; exact ⟨by apply ba_ex; simp [bs], by apply ba_ex; simp [bs]⟩
theorem ct5 {c : CL} (h1 : (c.k == 1) = false) (h2 : (c.k == 2) = false) (h3 : (c.k == 3) = false) (h4 : (c.k == 4) = false) (h : (c.k == 5) = true) : bs (clT c) = ⟨#[67, 82, 69, 65, 84, 69, 32]⟩ ++ bs (Lib.join (c.ps.map paT) [44, 32]) := by unfold clT; rw [h1, h2, h3, h4, h]; apply ba_ex; simp [bs]
theorem ct6 {c : CL} (h1 : (c.k == 1) = false) (h2 : (c.k == 2) = false) (h3 : (c.k == 3) = false) (h4 : (c.k == 4) = false) (h5 : (c.k == 5) = false) (h : (c.k == 6) = true) : bs (clT c) = ⟨#[77, 69, 82, 71, 69, 32]⟩ ++ bs (Lib.join (c.ps.map paT) [44, 32]) := by unfold clT; rw [h1, h2, h3, h4, h5, h]; apply ba_ex; simp [bs]
theorem ct7 {c : CL} (h1 : (c.k == 1) = false) (h2 : (c.k == 2) = false) (h3 : (c.k == 3) = false) (h4 : (c.k == 4) = false) (h5 : (c.k == 5) = false) (h6 : (c.k == 6) = false) (h : (c.k == 7) = true) : bs (clT c) = bs (seT c.st) := by unfold clT; rw [h1, h2, h3, h4, h5, h6, h]; rfl
theorem ct8t {c : CL} (h1 : (c.k == 1) = false) (h2 : (c.k == 2) = false) (h3 : (c.k == 3) = false) (h4 : (c.k == 4) = false) (h5 : (c.k == 5) = false) (h6 : (c.k == 6) = false) (h7 : (c.k == 7) = false) (ho : c.opt = true) :
    bs (clT c) = ⟨#[68, 69, 84, 65, 67, 72, 32]⟩ ++ (⟨#[68, 69, 76, 69, 84, 69, 32]⟩ ++ bs (Lib.join (c.ns.map bl) [44, 32])) ∧ bs (clT c) = ⟨#[68, 69, 84, 65, 67, 72, 32, 68, 69, 76, 69, 84, 69, 32]⟩ ++ bs (Lib.join (c.ns.map bl) [44, 32]) := by unfold clT; rw [h1, h2, h3, h4, h5, h6, h7, ho]; exact ⟨by apply ba_ex; simp [bs], by apply ba_ex; simp [bs]⟩
theorem ct8f {c : CL} (h1 : (c.k == 1) = false) (h2 : (c.k == 2) = false) (h3 : (c.k == 3) = false) (h4 : (c.k == 4) = false) (h5 : (c.k == 5) = false) (h6 : (c.k == 6) = false) (h7 : (c.k == 7) = false) (ho : c.opt = false) :
    bs (clT c) = ⟨#[68, 69, 76, 69, 84, 69, 32]⟩ ++ bs (Lib.join (c.ns.map bl) [44, 32]) := by unfold clT; rw [h1, h2, h3, h4, h5, h6, h7, ho]; apply ba_ex; simp [bs]
set_option maxHeartbeats 8000000 in
theorem fclause_ev (c : CL) (h : TxC c) : Ev E 53 [encCL c] (.d (.str (bs (clT c)))) := by
  have hp := fpaths_ev c.ps h.pn h.p
  have zp := pas_le h.pn h.p
  have hw := fwhere_ev c.wh h.w
  have zw := wh_le h.w
  have hj := fproj_ev c h
  have zj := pj_le h
  have hs := fsets_ev c.st h.sm h.s
  have hn := joind_ev (c.ns.map bl) [44, 32] (by have := h.nm; rw [List.length_map]; omega) (by have := nms_le h.nm h.n; omega)
  have ej : strD (c.ns.map bl) = c.ns.map D.str := by
    simp only [strD, List.map_map]
    refine List.map_congr_left fun s _ => ?_
    show D.str (bs (bl s)) = D.str s
    rw [bs_bl]
  rw [ej] at hn
  clear ej
  have zn := nms_le h.nm h.n
  have he := h.e
  have he2 : c.k = 2 → Ev E 109 [encE c.e] (.d (.str (bs (txE c.e)))) := fun e => txx_ev (he e).1
  have he3 : c.k = 2 → (txE c.e).length ≤ 400000 := fun e => txx_le (he e).1
  have zj2 : (bs ([32] ++ pjT c)).size ≤ 17000001 := by rw [bs_size, List.length_append]; simp; omega
  rw [← bs_size] at zp zw zj zn
  have y0 : (⟨#[79, 80, 84, 73, 79, 78, 65, 76, 32]⟩ : ByteArray).size = 9 := rfl
  have y1 : (⟨#[77, 65, 84, 67, 72, 32]⟩ : ByteArray).size = 6 := rfl
  have y2 : (⟨#[85, 78, 87, 73, 78, 68, 32]⟩ : ByteArray).size = 7 := rfl
  have y3 : (⟨#[32, 65, 83, 32]⟩ : ByteArray).size = 4 := rfl
  have y4 : (⟨#[87, 73, 84, 72]⟩ : ByteArray).size = 4 := rfl
  have y5 : (⟨#[87, 73, 84, 72, 32]⟩ : ByteArray).size = 5 := rfl
  have y6 : (⟨#[82, 69, 84, 85, 82, 78]⟩ : ByteArray).size = 6 := rfl
  have y7 : (⟨#[82, 69, 84, 85, 82, 78, 32]⟩ : ByteArray).size = 7 := rfl
  have y8 : (⟨#[67, 82, 69, 65, 84, 69, 32]⟩ : ByteArray).size = 7 := rfl
  have y9 : (⟨#[77, 69, 82, 71, 69, 32]⟩ : ByteArray).size = 6 := rfl
  have y10 : (⟨#[68, 69, 84, 65, 67, 72, 32]⟩ : ByteArray).size = 7 := rfl
  have y11 : (⟨#[68, 69, 76, 69, 84, 69, 32]⟩ : ByteArray).size = 7 := rfl
  have y12 : (⟨#[68, 69, 84, 65, 67, 72, 32, 68, 69, 76, 69, 84, 69, 32]⟩ : ByteArray).size = 14 := rfl
  cases h1 : c.k == 1 with
  | true =>
    cases ho : c.opt with
    | true =>
      rw [ct1t h1 ho]
      clear hj hs hn he he2 he3 h
      obtain ⟨k, opt, ds, ps, wh, e, nm, it, od, sk, lm, st, ns⟩ := c
      dsimp only at *
      refine enter1 Tryz.func53 Tryz.ntmps53 rfl rfl fun w0 F0 O => ?_
      repeat' (first | refine zS rfl ?_ | refine qA ?_ | refine qB rfl ?_ | refine qC (by kernel_rfl) ?_ | refine qD ?_ | refine qF ?_ | refine qP rfl rfl rfl rfl rfl rfl b115 (hp) ?_ | refine qP rfl rfl rfl rfl rfl rfl b116 (hw) ?_ | refine zT rfl ?_ | refine qL rfl rfl ?_ | exact zD)
    | false =>
      rw [ct1f h1 ho]
      clear hj hs hn he he2 he3 h
      obtain ⟨k, opt, ds, ps, wh, e, nm, it, od, sk, lm, st, ns⟩ := c
      dsimp only at *
      refine enter1 Tryz.func53 Tryz.ntmps53 rfl rfl fun w0 F0 O => ?_
      repeat' (first | refine zS rfl ?_ | refine qA ?_ | refine qB rfl ?_ | refine qC (by kernel_rfl) ?_ | refine qD ?_ | refine qE ?_ | refine qF ?_ | refine qP rfl rfl rfl rfl rfl rfl b115 (hp) ?_ | refine qP rfl rfl rfl rfl rfl rfl b116 (hw) ?_ | refine zT rfl ?_ | refine zU rfl ?_ | refine qL rfl rfl ?_ | exact zD)
  | false =>
    cases h2 : c.k == 2 with
    | true =>
      have hk : c.k = 2 := by simpa using h2
      have hx := he2 hk
      have zx := he3 hk
      have zm := (he hk).2
      rw [← bs_size] at zx
      rw [ct2 h1 h2]
      clear hp hw hj hs hn he he2 he3 h
      obtain ⟨k, opt, ds, ps, wh, e, nm, it, od, sk, lm, st, ns⟩ := c
      dsimp only at *
      refine enter1 Tryz.func53 Tryz.ntmps53 rfl rfl fun w0 F0 O => ?_
      repeat' (first | refine zS rfl ?_ | refine qA ?_ | refine qB rfl ?_ | refine qC (by kernel_rfl) ?_ | refine qD ?_ | refine qF ?_ | refine qP rfl rfl rfl rfl rfl rfl b109 (hx) ?_ | refine zT rfl ?_ | refine zU rfl ?_ | refine qL rfl rfl ?_ | exact zD)
    | false =>
      cases h3 : c.k == 3 with
      | true =>
        rw [(ct3 h1 h2 h3).1]
        clear hp hw hs hn he he2 he3 h
        obtain ⟨k, opt, ds, ps, wh, e, nm, it, od, sk, lm, st, ns⟩ := c
        dsimp only at *
        refine enter1 Tryz.func53 Tryz.ntmps53 rfl rfl fun w0 F0 O => ?_
        repeat' (first | refine zS rfl ?_ | refine qA ?_ | refine qB rfl ?_ | refine qD ?_ | refine qF ?_ | refine qP rfl rfl rfl rfl rfl rfl b117 (hj) ?_ | refine zT rfl ?_ | refine zU rfl ?_ | refine qL rfl rfl ?_ | exact zD)
      | false =>
        cases h4 : c.k == 4 with
        | true =>
          rw [(ct4 h1 h2 h3 h4).1]
          clear hp hw hs hn he he2 he3 h
          obtain ⟨k, opt, ds, ps, wh, e, nm, it, od, sk, lm, st, ns⟩ := c
          dsimp only at *
          refine enter1 Tryz.func53 Tryz.ntmps53 rfl rfl fun w0 F0 O => ?_
          repeat' (first | refine zS rfl ?_ | refine qA ?_ | refine qB rfl ?_ | refine qD ?_ | refine qF ?_ | refine qP rfl rfl rfl rfl rfl rfl b117 (hj) ?_ | refine zT rfl ?_ | refine zU rfl ?_ | refine qL rfl rfl ?_ | exact zD)
        | false =>
          cases h5 : c.k == 5 with
          | true =>
            rw [ct5 h1 h2 h3 h4 h5]
            clear hw hj hs hn he he2 he3 h
            obtain ⟨k, opt, ds, ps, wh, e, nm, it, od, sk, lm, st, ns⟩ := c
            dsimp only at *
            refine enter1 Tryz.func53 Tryz.ntmps53 rfl rfl fun w0 F0 O => ?_
            repeat' (first | refine zS rfl ?_ | refine qA ?_ | refine qB rfl ?_ | refine qD ?_ | refine qF ?_ | refine qP rfl rfl rfl rfl rfl rfl b115 (hp) ?_ | refine zT rfl ?_ | refine zU rfl ?_ | refine qL rfl rfl ?_ | exact zD)
          | false =>
            cases h6 : c.k == 6 with
            | true =>
              rw [ct6 h1 h2 h3 h4 h5 h6]
              clear hw hj hs hn he he2 he3 h
              obtain ⟨k, opt, ds, ps, wh, e, nm, it, od, sk, lm, st, ns⟩ := c
              dsimp only at *
              refine enter1 Tryz.func53 Tryz.ntmps53 rfl rfl fun w0 F0 O => ?_
              repeat' (first | refine zS rfl ?_ | refine qA ?_ | refine qB rfl ?_ | refine qD ?_ | refine qF ?_ | refine qP rfl rfl rfl rfl rfl rfl b115 (hp) ?_ | refine zT rfl ?_ | refine zU rfl ?_ | refine qL rfl rfl ?_ | exact zD)
            | false =>
              cases h7 : c.k == 7 with
              | true =>
                rw [ct7 h1 h2 h3 h4 h5 h6 h7]
                clear hp hw hj hn he he2 he3 h
                obtain ⟨k, opt, ds, ps, wh, e, nm, it, od, sk, lm, st, ns⟩ := c
                dsimp only at *
                refine enter1 Tryz.func53 Tryz.ntmps53 rfl rfl fun w0 F0 O => ?_
                repeat' (first | refine zS rfl ?_ | refine qA ?_ | refine qB rfl ?_ | refine qD ?_ | refine qF ?_ | refine qP rfl rfl rfl rfl rfl rfl b118 (hs) ?_ | refine zT rfl ?_ | refine zU rfl ?_ | refine qL rfl rfl ?_ | exact zD)
              | false =>
                cases ho : c.opt with
                | true =>
                  rw [(ct8t h1 h2 h3 h4 h5 h6 h7 ho).1]
                  clear hp hw hj hs he he2 he3 h
                  obtain ⟨k, opt, ds, ps, wh, e, nm, it, od, sk, lm, st, ns⟩ := c
                  dsimp only at *
                  refine enter1 Tryz.func53 Tryz.ntmps53 rfl rfl fun w0 F0 O => ?_
                  repeat' (first | refine zS rfl ?_ | refine qA ?_ | refine qB rfl ?_ | refine qD ?_ | refine qE ?_ | refine qF ?_ | refine qG ?_ | refine qP rfl rfl rfl rfl rfl rfl b57 (hn) ?_ | refine zT rfl ?_ | refine zU rfl ?_ | refine qL rfl rfl ?_ | exact zD)
                | false =>
                  rw [ct8f h1 h2 h3 h4 h5 h6 h7 ho]
                  clear hp hw hj hs he he2 he3 h
                  obtain ⟨k, opt, ds, ps, wh, e, nm, it, od, sk, lm, st, ns⟩ := c
                  dsimp only at *
                  refine enter1 Tryz.func53 Tryz.ntmps53 rfl rfl fun w0 F0 O => ?_
                  repeat' (first | refine zS rfl ?_ | refine qA ?_ | refine qB rfl ?_ | refine qD ?_ | refine qE ?_ | refine qF ?_ | refine qG ?_ | refine qP rfl rfl rfl rfl rfl rfl b57 (hn) ?_ | refine zU rfl ?_ | refine qL rfl rfl ?_ | exact zD)
set_option maxHeartbeats 8000000 in
theorem gclause_ev (c : CL) (h : TxC c) : Ev E 55 [encCL c] (.d (.str (bs (clT c)))) := by
  have hp := gpaths_ev c.ps h.pn h.p
  have zp := pas_le h.pn h.p
  have hw := gwhere_ev c.wh h.w
  have zw := wh_le h.w
  have hj := gitems_ev c h
  have zj := pj_le h
  have hs := gsets_ev c.st h.sm h.s
  have hn := gnames_ev c.ns h.nm h.n
  have zn := nms_le h.nm h.n
  have he := h.e
  have he2 : c.k = 2 → Ev E 124 [encE c.e] (.d (.str (bs (txE c.e)))) := fun e => rtxx_ev (he e).1
  have he3 : c.k = 2 → (txE c.e).length ≤ 400000 := fun e => txx_le (he e).1
  rw [← bs_size] at zp zw zj zn
  have y0 : (⟨#[79, 80, 84, 73, 79, 78, 65, 76, 32]⟩ : ByteArray).size = 9 := rfl
  have y1 : (⟨#[77, 65, 84, 67, 72, 32]⟩ : ByteArray).size = 6 := rfl
  have y2 : (⟨#[85, 78, 87, 73, 78, 68, 32]⟩ : ByteArray).size = 7 := rfl
  have y3 : (⟨#[32, 65, 83, 32]⟩ : ByteArray).size = 4 := rfl
  have y4 : (⟨#[87, 73, 84, 72]⟩ : ByteArray).size = 4 := rfl
  have y5 : (⟨#[87, 73, 84, 72, 32]⟩ : ByteArray).size = 5 := rfl
  have y6 : (⟨#[82, 69, 84, 85, 82, 78]⟩ : ByteArray).size = 6 := rfl
  have y7 : (⟨#[82, 69, 84, 85, 82, 78, 32]⟩ : ByteArray).size = 7 := rfl
  have y8 : (⟨#[67, 82, 69, 65, 84, 69, 32]⟩ : ByteArray).size = 7 := rfl
  have y9 : (⟨#[77, 69, 82, 71, 69, 32]⟩ : ByteArray).size = 6 := rfl
  have y10 : (⟨#[68, 69, 84, 65, 67, 72, 32]⟩ : ByteArray).size = 7 := rfl
  have y11 : (⟨#[68, 69, 76, 69, 84, 69, 32]⟩ : ByteArray).size = 7 := rfl
  have y12 : (⟨#[68, 69, 84, 65, 67, 72, 32, 68, 69, 76, 69, 84, 69, 32]⟩ : ByteArray).size = 14 := rfl
  cases h1 : c.k == 1 with
  | true =>
    cases ho : c.opt with
    | true =>
      rw [ct1t h1 ho]
      clear hj hs hn he he2 he3 h
      obtain ⟨k, opt, ds, ps, wh, e, nm, it, od, sk, lm, st, ns⟩ := c
      dsimp only at *
      refine enter1 Tryz.func55 Tryz.ntmps55 rfl rfl fun w0 F0 O => ?_
      repeat' (first | refine zS rfl ?_ | refine qA ?_ | refine qB rfl ?_ | refine qC (by kernel_rfl) ?_ | refine qD ?_ | refine qF ?_ | refine qP rfl rfl rfl rfl rfl rfl b122 (hp) ?_ | refine qP rfl rfl rfl rfl rfl rfl b123 (hw) ?_ | refine zT rfl ?_ | refine qL rfl rfl ?_ | exact zD)
    | false =>
      rw [ct1f h1 ho]
      clear hj hs hn he he2 he3 h
      obtain ⟨k, opt, ds, ps, wh, e, nm, it, od, sk, lm, st, ns⟩ := c
      dsimp only at *
      refine enter1 Tryz.func55 Tryz.ntmps55 rfl rfl fun w0 F0 O => ?_
      repeat' (first | refine zS rfl ?_ | refine qA ?_ | refine qB rfl ?_ | refine qC (by kernel_rfl) ?_ | refine qD ?_ | refine qE ?_ | refine qF ?_ | refine qP rfl rfl rfl rfl rfl rfl b122 (hp) ?_ | refine qP rfl rfl rfl rfl rfl rfl b123 (hw) ?_ | refine zT rfl ?_ | refine zU rfl ?_ | refine qL rfl rfl ?_ | exact zD)
  | false =>
    cases h2 : c.k == 2 with
    | true =>
      have hk : c.k = 2 := by simpa using h2
      have hx := he2 hk
      have zx := he3 hk
      have zm := (he hk).2
      rw [← bs_size] at zx
      rw [ct2 h1 h2]
      clear hp hw hj hs hn he he2 he3 h
      obtain ⟨k, opt, ds, ps, wh, e, nm, it, od, sk, lm, st, ns⟩ := c
      dsimp only at *
      refine enter1 Tryz.func55 Tryz.ntmps55 rfl rfl fun w0 F0 O => ?_
      repeat' (first | refine zS rfl ?_ | refine qA ?_ | refine qB rfl ?_ | refine qC (by kernel_rfl) ?_ | refine qD ?_ | refine qF ?_ | refine qP rfl rfl rfl rfl rfl rfl b124 (hx) ?_ | refine zT rfl ?_ | refine zU rfl ?_ | refine qL rfl rfl ?_ | exact zD)
    | false =>
      cases h3 : c.k == 3 with
      | true =>
        rw [(ct3 h1 h2 h3).2]
        clear hp hw hs hn he he2 he3 h
        obtain ⟨k, opt, ds, ps, wh, e, nm, it, od, sk, lm, st, ns⟩ := c
        dsimp only at *
        refine enter1 Tryz.func55 Tryz.ntmps55 rfl rfl fun w0 F0 O => ?_
        repeat' (first | refine zS rfl ?_ | refine qA ?_ | refine qB rfl ?_ | refine qD ?_ | refine qF ?_ | refine qP rfl rfl rfl rfl rfl rfl b125 (hj) ?_ | refine zT rfl ?_ | refine zU rfl ?_ | refine qL rfl rfl ?_ | exact zD)
      | false =>
        cases h4 : c.k == 4 with
        | true =>
          rw [(ct4 h1 h2 h3 h4).2]
          clear hp hw hs hn he he2 he3 h
          obtain ⟨k, opt, ds, ps, wh, e, nm, it, od, sk, lm, st, ns⟩ := c
          dsimp only at *
          refine enter1 Tryz.func55 Tryz.ntmps55 rfl rfl fun w0 F0 O => ?_
          repeat' (first | refine zS rfl ?_ | refine qA ?_ | refine qB rfl ?_ | refine qD ?_ | refine qF ?_ | refine qP rfl rfl rfl rfl rfl rfl b125 (hj) ?_ | refine zT rfl ?_ | refine zU rfl ?_ | refine qL rfl rfl ?_ | exact zD)
        | false =>
          cases h5 : c.k == 5 with
          | true =>
            rw [ct5 h1 h2 h3 h4 h5]
            clear hw hj hs hn he he2 he3 h
            obtain ⟨k, opt, ds, ps, wh, e, nm, it, od, sk, lm, st, ns⟩ := c
            dsimp only at *
            refine enter1 Tryz.func55 Tryz.ntmps55 rfl rfl fun w0 F0 O => ?_
            repeat' (first | refine zS rfl ?_ | refine qA ?_ | refine qB rfl ?_ | refine qD ?_ | refine qF ?_ | refine qP rfl rfl rfl rfl rfl rfl b122 (hp) ?_ | refine zT rfl ?_ | refine zU rfl ?_ | refine qL rfl rfl ?_ | exact zD)
          | false =>
            cases h6 : c.k == 6 with
            | true =>
              rw [ct6 h1 h2 h3 h4 h5 h6]
              clear hw hj hs hn he he2 he3 h
              obtain ⟨k, opt, ds, ps, wh, e, nm, it, od, sk, lm, st, ns⟩ := c
              dsimp only at *
              refine enter1 Tryz.func55 Tryz.ntmps55 rfl rfl fun w0 F0 O => ?_
              repeat' (first | refine zS rfl ?_ | refine qA ?_ | refine qB rfl ?_ | refine qD ?_ | refine qF ?_ | refine qP rfl rfl rfl rfl rfl rfl b122 (hp) ?_ | refine zT rfl ?_ | refine zU rfl ?_ | refine qL rfl rfl ?_ | exact zD)
            | false =>
              cases h7 : c.k == 7 with
              | true =>
                rw [ct7 h1 h2 h3 h4 h5 h6 h7]
                clear hp hw hj hn he he2 he3 h
                obtain ⟨k, opt, ds, ps, wh, e, nm, it, od, sk, lm, st, ns⟩ := c
                dsimp only at *
                refine enter1 Tryz.func55 Tryz.ntmps55 rfl rfl fun w0 F0 O => ?_
                repeat' (first | refine zS rfl ?_ | refine qA ?_ | refine qB rfl ?_ | refine qD ?_ | refine qF ?_ | refine qP rfl rfl rfl rfl rfl rfl b126 (hs) ?_ | refine zT rfl ?_ | refine zU rfl ?_ | refine qL rfl rfl ?_ | exact zD)
              | false =>
                cases ho : c.opt with
                | true =>
                  rw [(ct8t h1 h2 h3 h4 h5 h6 h7 ho).2]
                  clear hp hw hj hs he he2 he3 h
                  obtain ⟨k, opt, ds, ps, wh, e, nm, it, od, sk, lm, st, ns⟩ := c
                  dsimp only at *
                  refine enter1 Tryz.func55 Tryz.ntmps55 rfl rfl fun w0 F0 O => ?_
                  repeat' (first | refine zS rfl ?_ | refine qA ?_ | refine qB rfl ?_ | refine qD ?_ | refine qE ?_ | refine qF ?_ | refine qG ?_ | refine qP rfl rfl rfl rfl rfl rfl b127 (hn) ?_ | refine zT rfl ?_ | refine zU rfl ?_ | refine qL rfl rfl ?_ | exact zD)
                | false =>
                  rw [ct8f h1 h2 h3 h4 h5 h6 h7 ho]
                  clear hp hw hj hs he he2 he3 h
                  obtain ⟨k, opt, ds, ps, wh, e, nm, it, od, sk, lm, st, ns⟩ := c
                  dsimp only at *
                  refine enter1 Tryz.func55 Tryz.ntmps55 rfl rfl fun w0 F0 O => ?_
                  repeat' (first | refine zS rfl ?_ | refine qA ?_ | refine qB rfl ?_ | refine qD ?_ | refine qE ?_ | refine qF ?_ | refine qG ?_ | refine qP rfl rfl rfl rfl rfl rfl b127 (hn) ?_ | refine zU rfl ?_ | refine qL rfl rfl ?_ | exact zD)
end Go.Proofs.YtmfjfclpdmpncaaGreatDoor

/- Clauses and queries, checked and written as text, by both texts. Conditions: small clauses. -/
namespace Go.Proofs.YtmfjfclpdmpncaaGreatDoor
set_option maxRecDepth 4000
open Go Go.Abs Go.Val Go.RowKit
attribute [local irreducible] go SGo HasBody Ev ExtEv EvO EvS RGo

theorem ltc_ok {c : CL} (h : LtC c) : OkC c := ⟨fun p hp => lta_ok (h.p p hp), fun e he => lt_okEx (h.w e he), lt_okEx h.e, fun x hx => lt_okEx (h.i x hx), fun x hx => lt_okEx (h.o x hx), fun x hx => lt_okEx (h.s x hx)⟩
def rTC (c : CL) : ByteArray := bif clauF c != 0 then ⟨#[]⟩ else bs (clT c)
theorem fClause_ev (c : CL) (hl : LtC c) : Ev E 18 [encCL c] (.tup [.str (rTC c), .int (clauF c)]) := Ev.fit fun hfit => by
  have h1 := checkclause_ev c (ltc_ok hl)
  have hf := fit_CL (c := c) (hfit _ (by simp))
  unfold rTC
  cases hc : clauF c != 0 with
  | true =>
    rw [cond_true]
    generalize clauF c = z at *
    clear hf hl hfit
    obtain ⟨k, opt, ds, ps, wh, e, nm, it, od, sk, lm, st, ns⟩ := c
    refine enter1 Tryz.func18 Tryz.ntmps18 rfl rfl fun w0 F0 O => ?_
    repeat' (first | refine zS rfl ?_ | refine qA ?_ | refine qB rfl ?_ | refine qD ?_ | refine qP rfl rfl rfl rfl rfl rfl b52 (h1) ?_ | refine zT rfl ?_ | refine qM rfl rfl rfl ?_ | exact zL)
  | false =>
    have hc0 : clauF c = 0 := by simpa using hc
    have h2 := fclause_ev c (txc_of hf hl hc0).2
    rw [hc0] at h1 ⊢
    rw [cond_false]
    generalize bs (clT c) = T at *
    clear hf hl hfit hc hc0
    obtain ⟨k, opt, ds, ps, wh, e, nm, it, od, sk, lm, st, ns⟩ := c
    refine enter1 Tryz.func18 Tryz.ntmps18 rfl rfl fun w0 F0 O => ?_
    repeat' (first | refine zS rfl ?_ | refine qA ?_ | refine qB rfl ?_ | refine qD ?_ | refine qE ?_ | refine qP rfl rfl rfl rfl rfl rfl b52 (h1) ?_ | refine qP rfl rfl rfl rfl rfl rfl b53 (h2) ?_ | refine zU rfl ?_ | refine qM rfl rfl rfl ?_ | exact zL)
theorem rClause_ev (c : CL) (hl : LtC c) : Ev E 19 [encCL c] (.tup [.str (rTC c), .int (clauF c)]) := Ev.fit fun hfit => by
  have h1 := rcheckclause_ev c (ltc_ok hl)
  have hf := fit_CL (c := c) (hfit _ (by simp))
  unfold rTC
  cases hc : clauF c != 0 with
  | true =>
    rw [cond_true]
    generalize clauF c = z at *
    clear hf hl hfit
    obtain ⟨k, opt, ds, ps, wh, e, nm, it, od, sk, lm, st, ns⟩ := c
    refine enter1 Tryz.func19 Tryz.ntmps19 rfl rfl fun w0 F0 O => ?_
    repeat' (first | refine zS rfl ?_ | refine qA ?_ | refine qB rfl ?_ | refine qD ?_ | refine qP rfl rfl rfl rfl rfl rfl b54 (h1) ?_ | refine zT rfl ?_ | refine qM rfl rfl rfl ?_ | exact zL)
  | false =>
    have hc0 : clauF c = 0 := by simpa using hc
    have h2 := gclause_ev c (txc_of hf hl hc0).2
    rw [hc0] at h1 ⊢
    rw [cond_false]
    generalize bs (clT c) = T at *
    clear hf hl hfit hc hc0
    obtain ⟨k, opt, ds, ps, wh, e, nm, it, od, sk, lm, st, ns⟩ := c
    refine enter1 Tryz.func19 Tryz.ntmps19 rfl rfl fun w0 F0 O => ?_
    repeat' (first | refine zS rfl ?_ | refine qA ?_ | refine qB rfl ?_ | refine qD ?_ | refine qE ?_ | refine qP rfl rfl rfl rfl rfl rfl b54 (h1) ?_ | refine qP rfl rfl rfl rfl rfl rfl b55 (h2) ?_ | refine zU rfl ?_ | refine qM rfl rfl rfl ?_ | exact zL)
structure LtQ (q : List CL) : Prop where
  n : q.length ≤ 14
  c : ∀ c ∈ q, LtC c
def rTQ (q : List CL) : ByteArray := bif (queF q).2 != 0 then ⟨#[]⟩ else bs (Lib.join (q.map clT) [32])
theorem fit_QU {q : List CL} (h : Fit (encQU q)) : ∀ c ∈ q, FxC c := fun c hc => fit_CL ((fitc_map (h.aggs (.sl (q.map encCL)) (by simp))).2 c hc)
theorem qj_le {q : List CL} (hn : q.length ≤ 12) (h : ∀ c ∈ q, TxC c) : (Lib.join (q.map clT) [32]).length ≤ 11000000000 := by
  have h1 := join_le2 900000000 [32] (by simp) (q.map clT) (by
    intro x hx
    obtain ⟨p, hp, rfl⟩ := List.mem_map.1 hx
    exact cl_le (h p hp))
  rw [List.length_map] at h1
  omega
set_option maxHeartbeats 1000000 in
theorem fQuery_ev (q : List CL) (hl : LtQ q) : Ev E 21 [encQU q] (.tup [.str (rTQ q), .int (queF q).2]) := Ev.fit fun hfit => by
  have h1 := qcheck_ev q fun c hc => ltc_ok (hl.c c hc)
  have hf := fit_QU (q := q) (hfit _ (by simp))
  unfold rTQ
  cases hc : (queF q).2 != 0 with
  | true =>
    rw [cond_true]
    generalize queF q = z at *
    refine enter1 Tryz.func21 Tryz.ntmps21 rfl rfl fun w0 F0 O => ?_
    repeat' (first | refine zS rfl ?_ | refine qA ?_ | refine qB rfl ?_ | refine qD ?_ | refine qP rfl rfl rfl rfl rfl rfl b56 (h1) ?_ | refine zT rfl ?_ | refine qM rfl rfl rfl ?_ | exact zL)
  | false =>
    have hc0 : (queF q).2 = 0 := by simpa using hc
    obtain ⟨hn, hz⟩ := queF_zero hc0
    have hT : ∀ c ∈ q, TxC c := fun c hc => (txc_of (hf c hc) (hl.c c hc) (hz c hc)).2
    have hlen := qj_le hn hT
    have hj := joind_ev (q.map clT) [32] (by rw [List.length_map]; omega) (by omega)
    have hle : (q.map encCL).length = q.length := by simp
    rw [hc0] at h1 ⊢
    rw [cond_false]
    clear hf hl hfit hc hc0 hz hlen
    generalize (queF q).1 = z1 at *
    refine enter1 Tryz.func21 Tryz.ntmps21 rfl rfl fun w0 F0 O => ?_
    repeat' (first | refine zS rfl ?_ | refine qA ?_ | refine qB rfl ?_ | refine qD ?_ | refine qE ?_ | refine qF ?_ | refine qP rfl rfl rfl rfl rfl rfl b56 (h1) ?_ | refine zU rfl ?_)
    refine go_loop_ (α := SDx q) (fun p => ⟨[(6, rowK 1 (strD ((q.take p.i).map clT))), (1, .ptr 0 0), (18, .d (.sl (q.map encCL))), (19, .d (.int (q.map encCL).length)), (20, .d (.int p.i))], [oQU q] ++ rowO 9 1 (strD ((q.take p.i).map clT))⟩) (fun p => q.length - p.i) ⟨0, by omega⟩ ((zle 1)) ?_
    rintro ⟨i, hi⟩
    dsimp only
    have hol : (strD ((q.take i).map clT)).length ≤ 1000000 := by simp [strD]; omega
    rcases Nat.lt_or_ge i q.length with hlt | hge
    · have g1 : decide ((i : Int) < ((q.map encCL).length : Int)) = true := by rw [hle]; simpa using hlt
      have hx0 := List.getElem?_eq_getElem hlt
      generalize q[i] = x at hx0
      have hx := map_c (f := encCL) hx0
      have ht := fclause_ev x (hT x (List.mem_of_getElem? hx0))
      have hnx := strD_at (f := clT) hx0
      generalize strD ((q.take i).map clT) = o at *
      match o, hol with
      | [], hol =>
        dsimp only [rowK, rowO]
        repeat' (first | refine zS rfl ?_ | refine qA ?_ | refine qB rfl ?_ | refine qD ?_ | refine qE ?_ | refine qF ?_ | refine qG ?_ | refine qI (encCL x) rfl (guardX_ok rfl) rfl rfl rfl rfl rfl rfl (by first | omega | decide) hx ?_ | refine qP rfl rfl rfl rfl rfl rfl b53 (ht) ?_ | (refine qS rfl ⟨by simp, fun d hd => by (obtain rfl := List.mem_singleton.1 hd; rfl), by (show (0 + 1) * 16 ≤ 140737488355328; omega), by (show 0 + 1 ≤ 9223372036854775807; omega)⟩ ?_) | refine zT rfl ?_)
        refine go_stop ?_
        refine ⟨⟨i + 1, by omega⟩, by dsimp only; omega, ?_⟩
        dsimp only
        rw [hnx]
        exact (zren [0, 2])
      | a :: r, hol =>
        dsimp only [rowK, rowO]
        repeat' (first | refine zS rfl ?_ | refine qA ?_ | refine qB rfl ?_ | refine qD ?_ | refine qE ?_ | refine qF ?_ | refine qG ?_ | refine qI (encCL x) rfl (guardX_ok rfl) rfl rfl rfl rfl rfl rfl (by first | omega | decide) hx ?_ | refine qP rfl rfl rfl rfl rfl rfl b53 (ht) ?_ | (refine qS rfl ⟨by simp, fun d hd => by (obtain rfl := List.mem_singleton.1 hd; rfl), by (show ((a :: r).length + 1) * 16 ≤ 140737488355328; omega), by (show (a :: r).length + 1 ≤ 9223372036854775807; omega)⟩ ?_) | refine zT rfl ?_)
        refine go_stop ?_
        refine ⟨⟨i + 1, by omega⟩, by dsimp only; omega, ?_⟩
        dsimp only
        rw [hnx]
        exact (zren [0, 3])
    · have g1 : decide ((i : Int) < ((q.map encCL).length : Int)) = false := by rw [hle]; simp; omega
      rw [List.take_of_length_le hge]
      generalize strD (q.map clT) = o at *
      match o, hj with
      | [], hj =>
        dsimp only [rowK, rowO]
        repeat' (first | refine zS rfl ?_ | refine qA ?_ | refine qB rfl ?_ | refine qD ?_ | refine qH rfl ?_ | refine qP rfl rfl rfl rfl rfl rfl b57 (hj) ?_ | refine zU rfl ?_ | refine qM rfl rfl rfl ?_ | exact zL)
      | a :: r, hj =>
        dsimp only [rowK, rowO]
        refine qA ?_
        refine go_frz 1 rfl ?_
        repeat' (first | refine zS rfl ?_ | refine qA ?_ | refine qB rfl ?_ | refine qD ?_ | refine qH rfl ?_ | refine qP rfl rfl rfl rfl rfl rfl b57 (hj) ?_ | refine zU rfl ?_ | refine qM rfl rfl rfl ?_ | exact zL)
set_option maxHeartbeats 1000000 in
theorem rQuery_ev (q : List CL) (hl : LtQ q) : Ev E 22 [encQU q] (.tup [.str (rTQ q), .int (queF q).2]) := Ev.fit fun hfit => by
  have h1 := rqcheck_ev q fun c hc => ltc_ok (hl.c c hc)
  have hf := fit_QU (q := q) (hfit _ (by simp))
  unfold rTQ
  cases hc : (queF q).2 != 0 with
  | true =>
    rw [cond_true]
    generalize queF q = z at *
    refine enter1 Tryz.func22 Tryz.ntmps22 rfl rfl fun w0 F0 O => ?_
    repeat' (first | refine zS rfl ?_ | refine qA ?_ | refine qB rfl ?_ | refine qD ?_ | refine qP rfl rfl rfl rfl rfl rfl b58 (h1) ?_ | refine zT rfl ?_ | refine qM rfl rfl rfl ?_ | exact zL)
  | false =>
    have hc0 : (queF q).2 = 0 := by simpa using hc
    obtain ⟨hn, hz⟩ := queF_zero hc0
    have hT : ∀ c ∈ q, TxC c := fun c hc => (txc_of (hf c hc) (hl.c c hc) (hz c hc)).2
    have hlen := qj_le hn hT
    have hle : (q.map encCL).length = q.length := by simp
    have y1 : (⟨#[32]⟩ : ByteArray).size = 1 := rfl
    rw [hc0] at h1 ⊢
    rw [cond_false]
    clear hf hl hfit hc hc0 hz
    generalize (queF q).1 = z1 at *
    refine enter1 Tryz.func22 Tryz.ntmps22 rfl rfl fun w0 F0 O => ?_
    repeat' (first | refine zS rfl ?_ | refine qA ?_ | refine qB rfl ?_ | refine qD ?_ | refine qE ?_ | refine qF ?_ | refine qP rfl rfl rfl rfl rfl rfl b58 (h1) ?_ | refine zU rfl ?_)
    refine go_loop_ (α := SJ (q.map clT) [32]) (fun p => ⟨[(1, .ptr 0 0), (6, .d (.str (bs p.s))), (7, .d (.int p.i))], [oQU q]⟩) (fun p => q.length - p.i) ⟨0, [], by omega, fun _ => rfl, fun h => absurd rfl h⟩ ((zle 1)) ?_
    rintro ⟨i, s, hi, h0, h1⟩
    dsimp only
    rw [List.length_map] at hi
    rcases Nat.lt_or_ge i q.length with hlt | hge
    · have g1 : decide ((i : Int) < ((q.map encCL).length : Int)) = true := by rw [hle]; simpa using hlt
      have hx0 := List.getElem?_eq_getElem hlt
      generalize q[i] = x at hx0
      have hx := map_c (f := encCL) hx0
      have hm := List.mem_of_getElem? hx0
      have hmm : (q.map clT)[i]? = some (clT x) := by rw [List.getElem?_map, hx0]; rfl
      have ht := gclause_ev x (hT x hm)
      have zt : (bs (clT x)).size ≤ 900000000 := by rw [bs_size]; exact cl_le (hT x hm)
      by_cases hi0 : i = 0
      · subst hi0
        have hs0 := h0 rfl
        subst hs0
        have g2 : decide (((0 : Nat) : Int) > 0) = false := rfl
        have z2 : (bs []).size = 0 := rfl
        repeat' (first | refine zS rfl ?_ | refine qA ?_ | refine qB rfl ?_ | refine qD ?_ | refine qE ?_ | refine qF ?_ | refine qG ?_ | refine qI (encCL x) rfl (guardX_ok rfl) rfl rfl rfl rfl rfl rfl (by first | omega | decide) hx ?_ | refine qP rfl rfl rfl rfl rfl rfl b55 (ht) ?_ | refine zT rfl ?_ | refine zU rfl ?_)
        refine go_stop ?_
        rw [bs_append]
        exact ⟨⟨1, [] ++ clT x, by rw [List.length_map]; omega, fun h => by omega, fun _ => by have := drop_at hmm; rw [List.drop_zero] at this; rw [List.nil_append]; conv => rhs; rw [this, Lib.join_cons]⟩, by dsimp only; omega, (zle 1)⟩
      · have g2 : decide ((i : Int) > 0) = true := by simp; omega
        have h1' := h1 hi0
        rw [joinTail_at hmm] at h1'
        have hll : s.length ≤ 11000000000 := by
          have := congrArg List.length h1'
          simp only [List.length_append] at this
          omega
        rw [← bs_size] at hll
        repeat' (first | refine zS rfl ?_ | refine qA ?_ | refine qB rfl ?_ | refine qD ?_ | refine qE ?_ | refine qF ?_ | refine qG ?_ | refine qI (encCL x) rfl (guardX_ok rfl) rfl rfl rfl rfl rfl rfl (by first | omega | decide) hx ?_ | refine qP rfl rfl rfl rfl rfl rfl b55 (ht) ?_ | refine zT rfl ?_)
        refine go_stop ?_
        rw [show (⟨#[32]⟩ : ByteArray) = bs [32] from rfl, bs_append, bs_append]
        exact ⟨⟨i + 1, s ++ [32] ++ clT x, by rw [List.length_map]; omega, fun h => by omega, fun _ => by rw [← h1']; simp only [List.append_assoc]⟩, by dsimp only; omega, (zle 1)⟩
    · have g1 : decide ((i : Int) < ((q.map encCL).length : Int)) = false := by rw [hle]; simp; omega
      have e : Lib.join (q.map clT) [32] = s := by
        by_cases hi0 : i = 0
        · have : q = [] := List.eq_nil_of_length_eq_zero (by omega)
          rw [this, h0 hi0]
          rfl
        · rw [← h1 hi0, List.drop_eq_nil_of_le (by rw [List.length_map]; omega)]
          simp [Lib.joinTail]
      rw [e]
      repeat' (first | refine zS rfl ?_ | refine qA ?_ | refine qB rfl ?_ | refine qD ?_ | refine qH rfl ?_ | refine zU rfl ?_ | refine qM rfl rfl rfl ?_ | exact zL)
end Go.Proofs.YtmfjfclpdmpncaaGreatDoor

/- Small patterns and clauses, as the statements' own text measures them. Conditions: none. -/
namespace Go.Proofs.YtmfjfclpdmpncaaGreatDoor
set_option maxRecDepth 4000
open Go Go.Abs Go.Val Go.RowKit
attribute [local irreducible] go SGo HasBody Ev ExtEv EvO EvS RGo

structure SAl {α : Type} (l : List α) (f : α → Bool) where
  i : Nat
  hi : i ≤ l.length
  ok : l.all f = (l.drop i).all f
theorem ltB_ev (e : Ex) : Ev E 49 [encE e] (.d (.bool (ltB e))) := lightEx_ev e
attribute [local irreducible] ltB
def lpB (l : List PP) : Bool := !(decide ((l.length : Int) > 20)) && l.all fun p => ltB p.e
theorem lpB_ok {l : List PP} (h : lpB l = true) : LtP l := by
  unfold lpB at h
  simp only [Bool.and_eq_true, Bool.not_eq_true', decide_eq_false_iff_not, List.all_eq_true] at h
  exact ⟨by omega, fun p hp => lt_of (h.2 p hp)⟩
def lnB (n : NP) : Bool := lpB n.ps && !(decide ((n.lb.length : Int) > 20))
def leB (n : EP) : Bool := lpB n.ps && !(decide ((n.ty.length : Int) > 20))
def laB (p : PA) : Bool := (!(decide ((p.ns.length : Int) > 10)) && !(decide ((p.es.length : Int) > 10))) && (p.ns.all lnB && p.es.all leB)
theorem laB_ok {p : PA} (h : laB p = true) : LtA p := by
  unfold laB lnB leB at h
  simp only [Bool.and_eq_true, Bool.not_eq_true', decide_eq_false_iff_not, List.all_eq_true] at h
  exact ⟨by omega, by omega, fun n hn => ⟨lpB_ok (h.2.1 n hn).1, by have := (h.2.1 n hn).2; omega⟩, fun n hn => ⟨lpB_ok (h.2.2 n hn).1, by have := (h.2.2 n hn).2; omega⟩⟩
def lpaB (l : List PA) : Bool := !(decide ((l.length : Int) > 8)) && l.all laB
theorem lpaB_ok {l : List PA} (h : lpaB l = true) : l.length ≤ 8 ∧ ∀ p ∈ l, LtA p := by
  unfold lpaB at h
  simp only [Bool.and_eq_true, Bool.not_eq_true', decide_eq_false_iff_not, List.all_eq_true] at h
  exact ⟨by omega, fun p hp => laB_ok (h.2 p hp)⟩
def lcA (c : CL) : Bool := lpaB c.ps && (ltB c.e && (!(decide ((c.wh.length : Int) > 4)) && (!(decide ((c.it.length : Int) > 20)) && (!(decide ((c.od.length : Int) > 20)) && (!(decide ((c.st.length : Int) > 20)) && !(decide ((c.ns.length : Int) > 20)))))))
def lcB (c : CL) : Bool := lcA c && (c.wh.all ltB && ((c.it.all fun x => ltB x.e) && ((c.od.all fun x => ltB x.e) && c.st.all fun x => ltB x.e)))
theorem lcB_ok {c : CL} (h : lcB c = true) : LtC c := by
  unfold lcB lcA at h
  simp only [Bool.and_eq_true, Bool.not_eq_true', decide_eq_false_iff_not, List.all_eq_true] at h
  obtain ⟨⟨h1, h2, h3, h4, h5, h6, h7⟩, h8, h9, h10, h11⟩ := h
  exact ⟨(lpaB_ok h1).1, (lpaB_ok h1).2, lt_of h2, by omega, fun e he => lt_of (h8 e he), by omega, fun x hx => lt_of (h9 x hx), by omega, fun x hx => lt_of (h10 x hx), by omega, fun x hx => lt_of (h11 x hx), by omega⟩
def lqB (q : List CL) : Bool := !(decide ((q.length : Int) > 14)) && q.all lcB
theorem all_f {α : Type} {f : α → Bool} {x : α} {r : List α} (h : f x = false) : (x :: r).all f = false := by rw [List.all_cons, h]; rfl
theorem all_t {α : Type} {f : α → Bool} {x : α} {r : List α} (h : f x = true) : (x :: r).all f = r.all f := by rw [List.all_cons, h]; rfl
theorem lprops_ev (l : List PP) : Ev E 59 [.sl (l.map encPP)] (.d (.bool (lpB l))) := Ev.fit fun hfit => by
  have hmax := (fitc_map (hfit (.sl (l.map encPP)) (by simp))).1
  have hle : (l.map encPP).length = l.length := by simp
  unfold lpB
  cases c1 : decide ((l.length : Int) > 20) with
  | true =>
    have g0 : decide (((l.map encPP).length : Int) > 20) = true := by rw [hle]; exact c1
    refine enter1 Tryz.func59 Tryz.ntmps59 rfl rfl fun w0 F0 O => ?_
    repeat' (first | refine zS rfl ?_ | refine qA ?_ | refine qB rfl ?_ | refine qD ?_ | refine zT rfl ?_ | refine qL rfl rfl ?_ | exact zD)
  | false =>
    have g0 : decide (((l.map encPP).length : Int) > 20) = false := by rw [hle]; exact c1
    rw [Bool.not_false, Bool.true_and]
    refine enter1 Tryz.func59 Tryz.ntmps59 rfl rfl fun w0 F0 O => ?_
    repeat' (first | refine zS rfl ?_ | refine qA ?_ | refine qB rfl ?_ | refine qD ?_ | refine qE ?_ | refine qF ?_ | refine zU rfl ?_)
    refine go_loop_ (α := SAl l fun p => ltB p.e) (fun p => ⟨[(8, .d (.sl (l.map encPP))), (9, .d (.int (l.map encPP).length)), (10, .d (.int p.i))], []⟩) (fun p => l.length - p.i) ⟨0, by omega, rfl⟩ ((zle 0)) ?_
    rintro ⟨i, hi, ok⟩
    dsimp only at ok ⊢
    rcases Nat.lt_or_ge i l.length with hlt | hge
    · have g1 : decide ((i : Int) < ((l.map encPP).length : Int)) = true := by rw [hle]; simpa using hlt
      have hx0 := List.getElem?_eq_getElem hlt
      generalize l[i] = x at hx0
      have hx := map_c (f := encPP) hx0
      rw [drop_c hx0] at ok
      have h1 := ltB_ev x.e
      cases hc : ltB x.e with
      | false =>
        rw [ok, all_f (f := fun p : PP => ltB p.e) (x := x) hc]
        rw [hc] at h1
        repeat' (first | refine zS rfl ?_ | refine qA ?_ | refine qB rfl ?_ | refine qD ?_ | refine qE ?_ | refine qF ?_ | refine qI (encPP x) rfl (guardX_ok rfl) rfl rfl rfl rfl rfl rfl (by first | omega | decide) hx ?_ | refine qP rfl rfl rfl rfl rfl rfl b49 (h1) ?_ | refine zT rfl ?_ | refine qL rfl rfl ?_ | exact zD)
      | true =>
        rw [all_t (f := fun p : PP => ltB p.e) (x := x) hc] at ok
        rw [hc] at h1
        repeat' (first | refine zS rfl ?_ | refine qA ?_ | refine qB rfl ?_ | refine qD ?_ | refine qE ?_ | refine qF ?_ | refine qG ?_ | refine qI (encPP x) rfl (guardX_ok rfl) rfl rfl rfl rfl rfl rfl (by first | omega | decide) hx ?_ | refine qP rfl rfl rfl rfl rfl rfl b49 (h1) ?_ | refine zT rfl ?_ | refine zU rfl ?_)
        refine go_stop ?_
        exact ⟨⟨i + 1, by omega, ok⟩, by dsimp only; omega, (zle 0)⟩
    · have g1 : decide ((i : Int) < ((l.map encPP).length : Int)) = false := by rw [hle]; simp; omega
      rw [List.drop_eq_nil_of_le hge, List.all_nil] at ok
      rw [ok]
      repeat' (first | refine zS rfl ?_ | refine qA ?_ | refine qB rfl ?_ | refine qD ?_ | refine qH rfl ?_ | refine zU rfl ?_ | refine qL rfl rfl ?_ | exact zD)
set_option maxHeartbeats 4000000 in
theorem lpaths_ev (l : List PA) : Ev E 23 [.sl (l.map encPA)] (.d (.bool (lpaB l))) := Ev.fit fun hfit => by
  obtain ⟨hmax, hft⟩ := fitc_map (hfit (.sl (l.map encPA)) (by simp))
  have hle : (l.map encPA).length = l.length := by simp
  unfold lpaB
  cases c1 : decide ((l.length : Int) > 8) with
  | true =>
    have g0 : decide (((l.map encPA).length : Int) > 8) = true := by rw [hle]; exact c1
    refine enter1 Tryz.func23 Tryz.ntmps23 rfl rfl fun w0 F0 O => ?_
    repeat' (first | refine zS rfl ?_ | refine qA ?_ | refine qB rfl ?_ | refine qD ?_ | refine zT rfl ?_ | refine qL rfl rfl ?_ | exact zD)
  | false =>
    have g0 : decide (((l.map encPA).length : Int) > 8) = false := by rw [hle]; exact c1
    rw [Bool.not_false, Bool.true_and]
    refine enter1 Tryz.func23 Tryz.ntmps23 rfl rfl fun w0 F0 O => ?_
    repeat' (first | refine zS rfl ?_ | refine qA ?_ | refine qB rfl ?_ | refine qD ?_ | refine qE ?_ | refine qF ?_ | refine zU rfl ?_)
    refine go_loop_ (α := SAl l laB) (fun p => ⟨[(12, .d (.sl (l.map encPA))), (13, .d (.int (l.map encPA).length)), (14, .d (.int p.i))], []⟩) (fun p => l.length - p.i) ⟨0, by omega, rfl⟩ ((zle 0)) ?_
    rintro ⟨i, hi, ok⟩
    dsimp only at ok ⊢
    rcases Nat.lt_or_ge i l.length with hlt | hge
    · have g1 : decide ((i : Int) < ((l.map encPA).length : Int)) = true := by rw [hle]; simpa using hlt
      have hx0 := List.getElem?_eq_getElem hlt
      generalize l[i] = x at hx0
      have hx := map_c (f := encPA) hx0
      have hfx := hft x (List.mem_of_getElem? hx0)
      have mn := (fitc_map (hfx.aggs (.sl (x.ns.map encNP)) (by simp))).1
      have me := (fitc_map (hfx.aggs (.sl (x.es.map encEP)) (by simp))).1
      rw [drop_c hx0] at ok
      have hln : (x.ns.map encNP).length = x.ns.length := by simp
      have hlee : (x.es.map encEP).length = x.es.length := by simp
      have hff : laB x = false → l.all laB = false := fun h => by rw [ok, all_f h]
      have htt : laB x = true → l.all laB = (l.drop (i + 1)).all laB := fun h => by rw [ok, all_t h]
      have hla : laB x = ((!(decide ((x.ns.length : Int) > 10)) && !(decide ((x.es.length : Int) > 10))) && (x.ns.all lnB && x.es.all leB)) := rfl
      cases k1 : decide ((x.ns.length : Int) > 10) with
      | true =>
        rw [hff (by rw [hla, k1]; rfl)]
        clear hff htt hla ok hfx
        obtain ⟨vr, ns, es⟩ := x
        dsimp only at *
        have k2 : decide (((ns.map encNP).length : Int) > 10) = true := by rw [hln]; exact k1
        repeat' (first | refine zS rfl ?_ | refine qA ?_ | refine qB rfl ?_ | refine qD ?_ | refine qE ?_ | refine qF ?_ | refine qI (encPA ⟨vr, ns, es⟩) rfl (guardX_ok rfl) rfl rfl rfl rfl rfl rfl (by first | omega | decide) hx ?_ | refine zT rfl ?_ | refine qL rfl rfl ?_ | refine zX rfl rfl rfl rfl ?_ | exact zD)
      | false =>
        cases k3 : decide ((x.es.length : Int) > 10) with
        | true =>
          rw [hff (by rw [hla, k1, k3]; rfl)]
          clear hff htt hla ok hfx
          obtain ⟨vr, ns, es⟩ := x
          dsimp only at *
          have k2 : decide (((ns.map encNP).length : Int) > 10) = false := by rw [hln]; exact k1
          have k4 : decide (((es.map encEP).length : Int) > 10) = true := by rw [hlee]; exact k3
          repeat' (first | refine zS rfl ?_ | refine qA ?_ | refine qB rfl ?_ | refine qD ?_ | refine qE ?_ | refine qF ?_ | refine qI (encPA ⟨vr, ns, es⟩) rfl (guardX_ok rfl) rfl rfl rfl rfl rfl rfl (by first | omega | decide) hx ?_ | refine zT rfl ?_ | refine qL rfl rfl ?_ | refine zW rfl rfl rfl rfl ?_ | exact zD)
        | false =>
          rw [k1, k3, show (!false && !false) = true from rfl, Bool.true_and] at hla
          have hff1 : x.ns.all lnB = false → l.all laB = false := fun h => hff (by rw [hla, h]; rfl)
          have hff2 : x.es.all leB = false → l.all laB = false := fun h => hff (by rw [hla, h]; simp)
          have htt2 : x.ns.all lnB = true → x.es.all leB = true → l.all laB = (l.drop (i + 1)).all laB := fun h h' => htt (by rw [hla, h, h']; rfl)
          clear hff htt hla ok hfx
          obtain ⟨vr, ns, es⟩ := x
          dsimp only at *
          have k2 : decide (((ns.map encNP).length : Int) > 10) = false := by rw [hln]; exact k1
          have k4 : decide (((es.map encEP).length : Int) > 10) = false := by rw [hlee]; exact k3
          repeat' (first | refine zS rfl ?_ | refine qA ?_ | refine qB rfl ?_ | refine qD ?_ | refine qE ?_ | refine qF ?_ | refine qI (encPA ⟨vr, ns, es⟩) rfl (guardX_ok rfl) rfl rfl rfl rfl rfl rfl (by first | omega | decide) hx ?_ | refine zT rfl ?_ | refine zU rfl ?_ | refine zW rfl rfl rfl rfl ?_)
          refine go_loop_ (α := SAl ns lnB) (fun p => ⟨[(12, .d (.sl (l.map encPA))), (13, .d (.int (l.map encPA).length)), (14, .d (.int i)), (4, .ptr 0 0), (29, .d (.sl (ns.map encNP))), (30, .d (.int (ns.map encNP).length)), (31, .d (.int p.i))], [oPA ⟨vr, ns, es⟩]⟩) (fun p => ns.length - p.i) ⟨0, by omega, rfl⟩ ((zle 1)) ?_
          rintro ⟨j, hj, okn⟩
          dsimp only at okn ⊢
          rcases Nat.lt_or_ge j ns.length with hlt2 | hge2
          · have q1 : decide ((j : Int) < ((ns.map encNP).length : Int)) = true := by rw [hln]; simpa using hlt2
            have hy0 := List.getElem?_eq_getElem hlt2
            generalize ns[j] = y at hy0
            have hy := map_c (f := encNP) hy0
            rw [drop_c hy0] at okn
            have h1 := lprops_ev y.ps
            have hll : (y.lb.map D.str).length = y.lb.length := by simp
            cases d1 : lpB y.ps with
            | false =>
              rw [d1] at h1
              have e : lnB y = false := by unfold lnB; rw [d1]; rfl
              rw [all_f e] at okn
              rw [hff1 okn]
              obtain ⟨nv, lb, nps⟩ := y
              dsimp only at *
              repeat' (first | refine zS rfl ?_ | refine qA ?_ | refine qB rfl ?_ | refine qD ?_ | refine qE ?_ | refine qF ?_ | refine qI (encNP ⟨nv, lb, nps⟩) rfl (guardX_ok rfl) rfl rfl rfl rfl rfl rfl (by first | omega | decide) hy ?_ | refine qP rfl rfl rfl rfl rfl rfl b59 (h1) ?_ | refine zT rfl ?_ | refine qL rfl rfl ?_ | exact zD)
            | true =>
              rw [d1] at h1
              cases d2 : decide ((y.lb.length : Int) > 20) with
              | true =>
                have e : lnB y = false := by unfold lnB; rw [d1, d2]; rfl
                rw [all_f e] at okn
                rw [hff1 okn]
                obtain ⟨nv, lb, nps⟩ := y
                dsimp only at *
                have d3 : decide (((lb.map D.str).length : Int) > 20) = true := by rw [hll]; exact d2
                repeat' (first | refine zS rfl ?_ | refine qA ?_ | refine qB rfl ?_ | refine qD ?_ | refine qE ?_ | refine qF ?_ | refine qI (encNP ⟨nv, lb, nps⟩) rfl (guardX_ok rfl) rfl rfl rfl rfl rfl rfl (by first | omega | decide) hy ?_ | refine qP rfl rfl rfl rfl rfl rfl b59 (h1) ?_ | refine zT rfl ?_ | refine qL rfl rfl ?_ | exact zD)
              | false =>
                have e : lnB y = true := by unfold lnB; rw [d1, d2]; rfl
                rw [all_t e] at okn
                obtain ⟨nv, lb, nps⟩ := y
                dsimp only at *
                have d3 : decide (((lb.map D.str).length : Int) > 20) = false := by rw [hll]; exact d2
                repeat' (first | refine zS rfl ?_ | refine qA ?_ | refine qB rfl ?_ | refine qD ?_ | refine qE ?_ | refine qF ?_ | refine qG ?_ | refine qI (encNP ⟨nv, lb, nps⟩) rfl (guardX_ok rfl) rfl rfl rfl rfl rfl rfl (by first | omega | decide) hy ?_ | refine qP rfl rfl rfl rfl rfl rfl b59 (h1) ?_ | refine zT rfl ?_ | refine zU rfl ?_)
                refine go_stop ?_
                exact ⟨⟨j + 1, by omega, okn⟩, by dsimp only; omega, (zle 1)⟩
          · have q1 : decide ((j : Int) < ((ns.map encNP).length : Int)) = false := by rw [hln]; simp; omega
            rw [List.drop_eq_nil_of_le hge2, List.all_nil] at okn
            repeat' (first | refine zS rfl ?_ | refine qA ?_ | refine qB rfl ?_ | refine qD ?_ | refine qF ?_ | refine qH rfl ?_ | refine zU rfl ?_)
            refine go_loop_ (α := SAl es leB) (fun p => ⟨[(12, .d (.sl (l.map encPA))), (13, .d (.int (l.map encPA).length)), (14, .d (.int i)), (4, .ptr 0 0), (47, .d (.sl (es.map encEP))), (48, .d (.int (es.map encEP).length)), (49, .d (.int p.i))], [oPA ⟨vr, ns, es⟩]⟩) (fun p => es.length - p.i) ⟨0, by omega, rfl⟩ ((zle 1)) ?_
            rintro ⟨m, hm, oke⟩
            dsimp only at oke ⊢
            rcases Nat.lt_or_ge m es.length with hlt3 | hge3
            · have q2 : decide ((m : Int) < ((es.map encEP).length : Int)) = true := by rw [hlee]; simpa using hlt3
              have hz0 := List.getElem?_eq_getElem hlt3
              generalize es[m] = z at hz0
              have hz := map_c (f := encEP) hz0
              rw [drop_c hz0] at oke
              have h1 := lprops_ev z.ps
              have hll : (z.ty.map D.str).length = z.ty.length := by simp
              cases d1 : lpB z.ps with
              | false =>
                rw [d1] at h1
                have e : leB z = false := by unfold leB; rw [d1]; rfl
                rw [all_f e] at oke
                rw [hff2 oke]
                obtain ⟨ev, ty, dir, mode, emn, emx, eps⟩ := z
                dsimp only at *
                repeat' (first | refine zS rfl ?_ | refine qA ?_ | refine qB rfl ?_ | refine qD ?_ | refine qE ?_ | refine qF ?_ | refine qI (encEP ⟨ev, ty, dir, mode, emn, emx, eps⟩) rfl (guardX_ok rfl) rfl rfl rfl rfl rfl rfl (by first | omega | decide) hz ?_ | refine qP rfl rfl rfl rfl rfl rfl b59 (h1) ?_ | refine zT rfl ?_ | refine qL rfl rfl ?_ | exact zD)
              | true =>
                rw [d1] at h1
                cases d2 : decide ((z.ty.length : Int) > 20) with
                | true =>
                  have e : leB z = false := by unfold leB; rw [d1, d2]; rfl
                  rw [all_f e] at oke
                  rw [hff2 oke]
                  obtain ⟨ev, ty, dir, mode, emn, emx, eps⟩ := z
                  dsimp only at *
                  have d3 : decide (((ty.map D.str).length : Int) > 20) = true := by rw [hll]; exact d2
                  repeat' (first | refine zS rfl ?_ | refine qA ?_ | refine qB rfl ?_ | refine qD ?_ | refine qE ?_ | refine qF ?_ | refine qI (encEP ⟨ev, ty, dir, mode, emn, emx, eps⟩) rfl (guardX_ok rfl) rfl rfl rfl rfl rfl rfl (by first | omega | decide) hz ?_ | refine qP rfl rfl rfl rfl rfl rfl b59 (h1) ?_ | refine zT rfl ?_ | refine qL rfl rfl ?_ | exact zD)
                | false =>
                  have e : leB z = true := by unfold leB; rw [d1, d2]; rfl
                  rw [all_t e] at oke
                  obtain ⟨ev, ty, dir, mode, emn, emx, eps⟩ := z
                  dsimp only at *
                  have d3 : decide (((ty.map D.str).length : Int) > 20) = false := by rw [hll]; exact d2
                  repeat' (first | refine zS rfl ?_ | refine qA ?_ | refine qB rfl ?_ | refine qD ?_ | refine qE ?_ | refine qF ?_ | refine qG ?_ | refine qI (encEP ⟨ev, ty, dir, mode, emn, emx, eps⟩) rfl (guardX_ok rfl) rfl rfl rfl rfl rfl rfl (by first | omega | decide) hz ?_ | refine qP rfl rfl rfl rfl rfl rfl b59 (h1) ?_ | refine zT rfl ?_ | refine zU rfl ?_)
                  refine go_stop ?_
                  exact ⟨⟨m + 1, by omega, oke⟩, by dsimp only; omega, (zle 1)⟩
            · have q2 : decide ((m : Int) < ((es.map encEP).length : Int)) = false := by rw [hlee]; simp; omega
              rw [List.drop_eq_nil_of_le hge3, List.all_nil] at oke
              have okl := htt2 okn oke
              repeat' (first | refine zS rfl ?_ | refine qA ?_ | refine qB rfl ?_ | refine qD ?_ | refine qG ?_ | refine qH rfl ?_ | refine zU rfl ?_)
              refine go_stop ?_
              exact ⟨⟨i + 1, by omega, okl⟩, by dsimp only; omega, (zle 0)⟩
    · have g1 : decide ((i : Int) < ((l.map encPA).length : Int)) = false := by rw [hle]; simp; omega
      rw [List.drop_eq_nil_of_le hge, List.all_nil] at ok
      rw [ok]
      repeat' (first | refine zS rfl ?_ | refine qA ?_ | refine qB rfl ?_ | refine qD ?_ | refine qH rfl ?_ | refine zU rfl ?_ | refine qL rfl rfl ?_ | exact zD)
set_option maxHeartbeats 8000000 in
theorem lclause_ev (c : CL) : Ev E 16 [encCL c] (.d (.bool (lcB c))) := Ev.fit fun hfit => by
  have hp := lpaths_ev c.ps
  have he := ltB_ev c.e
  have hft := hfit (encCL c) (by simp)
  have m2 := (fit_encEL (hft.aggs (.sl (encEL c.wh)) (by simp))).1
  have m3 := (fitc_map (hft.aggs (.sl (c.it.map encIT)) (by simp))).1
  have m4 := (fitc_map (hft.aggs (.sl (c.od.map encSK)) (by simp))).1
  have m5 := (fitc_map (hft.aggs (.sl (c.st.map encSI)) (by simp))).1
  have l2 : (encEL c.wh).length = c.wh.length := encEL_len _
  have l3 : (c.it.map encIT).length = c.it.length := by simp
  have l4 : (c.od.map encSK).length = c.od.length := by simp
  have l5 : (c.st.map encSI).length = c.st.length := by simp
  have l6 : (c.ns.map D.str).length = c.ns.length := by simp
  clear hfit hft
  unfold lcB lcA
  obtain ⟨k, opt, ds, ps, wh, e, nm, it, od, sk, lm, st, ns⟩ := c
  dsimp only at *
  obtain ⟨v1, hv1⟩ : ∃ b, lpaB ps = b := ⟨_, rfl⟩
  obtain ⟨v2, hv2⟩ : ∃ b, ltB e = b := ⟨_, rfl⟩
  rw [hv1] at hp ⊢
  rw [hv2] at he ⊢
  rw [← l2, ← l3, ← l4, ← l5, ← l6]
  clear hv1 hv2
  cases v1 with
  | false =>
    simp only [Bool.true_and, Bool.false_and, Bool.not_true, Bool.not_false]
    refine enter1 Tryz.func16 Tryz.ntmps16 rfl rfl fun w0 F0 O => ?_
    repeat' (first | refine zS rfl ?_ | refine qA ?_ | refine qB rfl ?_ | refine qD ?_ | refine qP rfl rfl rfl rfl rfl rfl b23 (hp) ?_ | refine zT rfl ?_ | refine qL rfl rfl ?_ | exact zD)
  | true =>
    cases v2 with
    | false =>
      simp only [Bool.true_and, Bool.false_and, Bool.not_true, Bool.not_false]
      refine enter1 Tryz.func16 Tryz.ntmps16 rfl rfl fun w0 F0 O => ?_
      repeat' (first | refine zS rfl ?_ | refine qA ?_ | refine qB rfl ?_ | refine qD ?_ | refine qP rfl rfl rfl rfl rfl rfl b23 (hp) ?_ | refine qP (d := 18) rfl rfl rfl rfl rfl rfl b49 (he) ?_ | refine zT rfl ?_ | refine qL rfl rfl ?_ | exact zD)
    | true =>
      cases w3 : decide (((encEL wh).length : Int) > 4) with
      | true =>
        simp only [Bool.true_and, Bool.false_and, Bool.not_true, Bool.not_false]
        refine enter1 Tryz.func16 Tryz.ntmps16 rfl rfl fun w0 F0 O => ?_
        repeat' (first | refine zS rfl ?_ | refine qA ?_ | refine qB rfl ?_ | refine qD ?_ | refine qP rfl rfl rfl rfl rfl rfl b23 (hp) ?_ | refine qP (d := 18) rfl rfl rfl rfl rfl rfl b49 (he) ?_ | refine zT rfl ?_ | refine qL rfl rfl ?_ | refine zX rfl rfl rfl rfl ?_ | exact zD)
      | false =>
        cases w4 : decide (((it.map encIT).length : Int) > 20) with
        | true =>
          simp only [Bool.true_and, Bool.false_and, Bool.not_true, Bool.not_false]
          refine enter1 Tryz.func16 Tryz.ntmps16 rfl rfl fun w0 F0 O => ?_
          repeat' (first | refine zS rfl ?_ | refine qA ?_ | refine qB rfl ?_ | refine qD ?_ | refine qP rfl rfl rfl rfl rfl rfl b23 (hp) ?_ | refine qP (d := 18) rfl rfl rfl rfl rfl rfl b49 (he) ?_ | refine zT rfl ?_ | refine qL rfl rfl ?_ | refine zX rfl rfl rfl rfl ?_ | refine zW rfl rfl rfl rfl ?_ | exact zD)
        | false =>
          cases w5 : decide (((od.map encSK).length : Int) > 20) with
          | true =>
            simp only [Bool.true_and, Bool.false_and, Bool.not_true, Bool.not_false]
            refine enter1 Tryz.func16 Tryz.ntmps16 rfl rfl fun w0 F0 O => ?_
            repeat' (first | refine zS rfl ?_ | refine qA ?_ | refine qB rfl ?_ | refine qD ?_ | refine qP rfl rfl rfl rfl rfl rfl b23 (hp) ?_ | refine qP (d := 18) rfl rfl rfl rfl rfl rfl b49 (he) ?_ | refine zT rfl ?_ | refine qL rfl rfl ?_ | refine zX rfl rfl rfl rfl ?_ | refine zW rfl rfl rfl rfl ?_ | exact zD)
          | false =>
            cases w6 : decide (((st.map encSI).length : Int) > 20) with
            | true =>
              simp only [Bool.true_and, Bool.false_and, Bool.not_true, Bool.not_false]
              refine enter1 Tryz.func16 Tryz.ntmps16 rfl rfl fun w0 F0 O => ?_
              repeat' (first | refine zS rfl ?_ | refine qA ?_ | refine qB rfl ?_ | refine qD ?_ | refine qP rfl rfl rfl rfl rfl rfl b23 (hp) ?_ | refine qP (d := 18) rfl rfl rfl rfl rfl rfl b49 (he) ?_ | refine zT rfl ?_ | refine qL rfl rfl ?_ | refine zX rfl rfl rfl rfl ?_ | refine zW rfl rfl rfl rfl ?_ | exact zD)
            | false =>
              cases w7 : decide (((ns.map D.str).length : Int) > 20) with
              | true =>
                simp only [Bool.true_and, Bool.false_and, Bool.not_true, Bool.not_false]
                refine enter1 Tryz.func16 Tryz.ntmps16 rfl rfl fun w0 F0 O => ?_
                repeat' (first | refine zS rfl ?_ | refine qA ?_ | refine qB rfl ?_ | refine qD ?_ | refine qP rfl rfl rfl rfl rfl rfl b23 (hp) ?_ | refine qP (d := 18) rfl rfl rfl rfl rfl rfl b49 (he) ?_ | refine zT rfl ?_ | refine qL rfl rfl ?_ | refine zW rfl rfl rfl rfl ?_ | exact zD)
              | false =>
                simp only [Bool.true_and, Bool.not_false]
                refine enter1 Tryz.func16 Tryz.ntmps16 rfl rfl fun w0 F0 O => ?_
                repeat' (first | refine zS rfl ?_ | refine qA ?_ | refine qB rfl ?_ | refine qD ?_ | refine qE ?_ | refine qF ?_ | refine qP rfl rfl rfl rfl rfl rfl b23 (hp) ?_ | refine qP (d := 18) rfl rfl rfl rfl rfl rfl b49 (he) ?_ | refine zU rfl ?_ | refine zW rfl rfl rfl rfl ?_)
                clear hp he
                refine go_loop_ (α := SAl wh ltB) (fun p => ⟨[(1, .ptr 0 0), (52, .d (.sl (encEL wh))), (53, .d (.int (encEL wh).length)), (54, .d (.int p.i))], [oCL ⟨k, opt, ds, ps, wh, e, nm, it, od, sk, lm, st, ns⟩]⟩) (fun p => wh.length - p.i) ⟨0, by omega, rfl⟩ ((zle 1)) ?_
                rintro ⟨i, hi, ok⟩
                dsimp only at ok ⊢
                rcases Nat.lt_or_ge i wh.length with hlt | hge
                · have g1 : decide ((i : Int) < ((encEL wh).length : Int)) = true := by rw [l2]; simpa using hlt
                  have hx0 := List.getElem?_eq_getElem hlt
                  generalize wh[i] = x at hx0
                  have hx := (show (encEL wh)[((i : Nat) : Int).toNat]? = some (encE x) by rw [Int.toNat_natCast]; exact encEL_get hx0)
                  rw [drop_c hx0] at ok
                  have h1 := ltB_ev x
                  cases hc : ltB x with
                  | false =>
                    rw [all_f (f := ltB) (x := x) hc] at ok
                    rw [hc] at h1
                    rw [ok]
                    try simp only [Bool.false_and]
                    repeat' (first | refine zS rfl ?_ | refine qA ?_ | refine qB rfl ?_ | refine qD ?_ | refine qE ?_ | refine qF ?_ | refine qI (encE x) rfl (guardX_ok rfl) rfl rfl rfl rfl rfl rfl (by first | omega | decide) hx ?_ | refine qP rfl rfl rfl rfl rfl rfl b49 (h1) ?_ | refine zT rfl ?_ | refine qL rfl rfl ?_ | exact zD)
                  | true =>
                    rw [all_t (f := ltB) (x := x) hc] at ok
                    rw [hc] at h1
                    repeat' (first | refine zS rfl ?_ | refine qA ?_ | refine qB rfl ?_ | refine qD ?_ | refine qE ?_ | refine qF ?_ | refine qG ?_ | refine qI (encE x) rfl (guardX_ok rfl) rfl rfl rfl rfl rfl rfl (by first | omega | decide) hx ?_ | refine qP rfl rfl rfl rfl rfl rfl b49 (h1) ?_ | refine zT rfl ?_ | refine zU rfl ?_)
                    refine go_stop ?_
                    exact ⟨⟨i + 1, by omega, ok⟩, by dsimp only; omega, (zle 1)⟩
                · have g1 : decide ((i : Int) < ((encEL wh).length : Int)) = false := by rw [l2]; simp; omega
                  rw [List.drop_eq_nil_of_le hge, List.all_nil] at ok
                  rw [ok]
                  try simp only [Bool.true_and]
                  repeat' (first | refine zS rfl ?_ | refine qA ?_ | refine qB rfl ?_ | refine qD ?_ | refine qF ?_ | refine qH rfl ?_ | refine zU rfl ?_)
                  refine go_loop_ (α := SAl it (fun x : IT => ltB x.e)) (fun p => ⟨[(1, .ptr 0 0), (63, .d (.sl (it.map encIT))), (64, .d (.int (it.map encIT).length)), (65, .d (.int p.i))], [oCL ⟨k, opt, ds, ps, wh, e, nm, it, od, sk, lm, st, ns⟩]⟩) (fun p => it.length - p.i) ⟨0, by omega, rfl⟩ ((zle 1)) ?_
                  rintro ⟨i, hi, ok⟩
                  dsimp only at ok ⊢
                  rcases Nat.lt_or_ge i it.length with hlt | hge
                  · have g1 : decide ((i : Int) < ((it.map encIT).length : Int)) = true := by rw [l3]; simpa using hlt
                    have hx0 := List.getElem?_eq_getElem hlt
                    generalize it[i] = x at hx0
                    have hx := map_c (f := encIT) hx0
                    rw [drop_c hx0] at ok
                    have h1 := ltB_ev x.e
                    cases hc : ltB x.e with
                    | false =>
                      rw [all_f (f := (fun x : IT => ltB x.e)) (x := x) hc] at ok
                      rw [hc] at h1
                      rw [ok]
                      try simp only [Bool.false_and]
                      repeat' (first | refine zS rfl ?_ | refine qA ?_ | refine qB rfl ?_ | refine qD ?_ | refine qE ?_ | refine qF ?_ | refine qI (encIT x) rfl (guardX_ok rfl) rfl rfl rfl rfl rfl rfl (by first | omega | decide) hx ?_ | refine go_load0 rfl rfl rfl rfl rfl rfl rfl ?_ | refine qP rfl rfl rfl rfl rfl rfl b49 (h1) ?_ | refine zT rfl ?_ | refine qL rfl rfl ?_ | exact zD)
                    | true =>
                      rw [all_t (f := (fun x : IT => ltB x.e)) (x := x) hc] at ok
                      rw [hc] at h1
                      repeat' (first | refine zS rfl ?_ | refine qA ?_ | refine qB rfl ?_ | refine qD ?_ | refine qE ?_ | refine qF ?_ | refine qG ?_ | refine qI (encIT x) rfl (guardX_ok rfl) rfl rfl rfl rfl rfl rfl (by first | omega | decide) hx ?_ | refine go_load0 rfl rfl rfl rfl rfl rfl rfl ?_ | refine qP rfl rfl rfl rfl rfl rfl b49 (h1) ?_ | refine zT rfl ?_ | refine zU rfl ?_)
                      refine go_stop ?_
                      exact ⟨⟨i + 1, by omega, ok⟩, by dsimp only; omega, (zle 1)⟩
                  · have g1 : decide ((i : Int) < ((it.map encIT).length : Int)) = false := by rw [l3]; simp; omega
                    rw [List.drop_eq_nil_of_le hge, List.all_nil] at ok
                    rw [ok]
                    try simp only [Bool.true_and]
                    repeat' (first | refine zS rfl ?_ | refine qA ?_ | refine qB rfl ?_ | refine qD ?_ | refine qF ?_ | refine qH rfl ?_ | refine zU rfl ?_)
                    refine go_loop_ (α := SAl od (fun x : SK => ltB x.e)) (fun p => ⟨[(1, .ptr 0 0), (75, .d (.sl (od.map encSK))), (76, .d (.int (od.map encSK).length)), (77, .d (.int p.i))], [oCL ⟨k, opt, ds, ps, wh, e, nm, it, od, sk, lm, st, ns⟩]⟩) (fun p => od.length - p.i) ⟨0, by omega, rfl⟩ ((zle 1)) ?_
                    rintro ⟨i, hi, ok⟩
                    dsimp only at ok ⊢
                    rcases Nat.lt_or_ge i od.length with hlt | hge
                    · have g1 : decide ((i : Int) < ((od.map encSK).length : Int)) = true := by rw [l4]; simpa using hlt
                      have hx0 := List.getElem?_eq_getElem hlt
                      generalize od[i] = x at hx0
                      have hx := map_c (f := encSK) hx0
                      rw [drop_c hx0] at ok
                      have h1 := ltB_ev x.e
                      cases hc : ltB x.e with
                      | false =>
                        rw [all_f (f := (fun x : SK => ltB x.e)) (x := x) hc] at ok
                        rw [hc] at h1
                        rw [ok]
                        try simp only [Bool.false_and]
                        repeat' (first | refine zS rfl ?_ | refine qA ?_ | refine qB rfl ?_ | refine qD ?_ | refine qE ?_ | refine qF ?_ | refine qI (encSK x) rfl (guardX_ok rfl) rfl rfl rfl rfl rfl rfl (by first | omega | decide) hx ?_ | refine go_load0 rfl rfl rfl rfl rfl rfl rfl ?_ | refine qP rfl rfl rfl rfl rfl rfl b49 (h1) ?_ | refine zT rfl ?_ | refine qL rfl rfl ?_ | exact zD)
                      | true =>
                        rw [all_t (f := (fun x : SK => ltB x.e)) (x := x) hc] at ok
                        rw [hc] at h1
                        repeat' (first | refine zS rfl ?_ | refine qA ?_ | refine qB rfl ?_ | refine qD ?_ | refine qE ?_ | refine qF ?_ | refine qG ?_ | refine qI (encSK x) rfl (guardX_ok rfl) rfl rfl rfl rfl rfl rfl (by first | omega | decide) hx ?_ | refine go_load0 rfl rfl rfl rfl rfl rfl rfl ?_ | refine qP rfl rfl rfl rfl rfl rfl b49 (h1) ?_ | refine zT rfl ?_ | refine zU rfl ?_)
                        refine go_stop ?_
                        exact ⟨⟨i + 1, by omega, ok⟩, by dsimp only; omega, (zle 1)⟩
                    · have g1 : decide ((i : Int) < ((od.map encSK).length : Int)) = false := by rw [l4]; simp; omega
                      rw [List.drop_eq_nil_of_le hge, List.all_nil] at ok
                      rw [ok]
                      try simp only [Bool.true_and]
                      repeat' (first | refine zS rfl ?_ | refine qA ?_ | refine qB rfl ?_ | refine qD ?_ | refine qF ?_ | refine qH rfl ?_ | refine zU rfl ?_)
                      refine go_loop_ (α := SAl st (fun x : SIt => ltB x.e)) (fun p => ⟨[(1, .ptr 0 0), (87, .d (.sl (st.map encSI))), (88, .d (.int (st.map encSI).length)), (89, .d (.int p.i))], [oCL ⟨k, opt, ds, ps, wh, e, nm, it, od, sk, lm, st, ns⟩]⟩) (fun p => st.length - p.i) ⟨0, by omega, rfl⟩ ((zle 1)) ?_
                      rintro ⟨i, hi, ok⟩
                      dsimp only at ok ⊢
                      rcases Nat.lt_or_ge i st.length with hlt | hge
                      · have g1 : decide ((i : Int) < ((st.map encSI).length : Int)) = true := by rw [l5]; simpa using hlt
                        have hx0 := List.getElem?_eq_getElem hlt
                        generalize st[i] = x at hx0
                        have hx := map_c (f := encSI) hx0
                        rw [drop_c hx0] at ok
                        have h1 := ltB_ev x.e
                        cases hc : ltB x.e with
                        | false =>
                          rw [all_f (f := (fun x : SIt => ltB x.e)) (x := x) hc] at ok
                          rw [hc] at h1
                          rw [ok]
                          try simp only [Bool.false_and]
                          repeat' (first | refine zS rfl ?_ | refine qA ?_ | refine qB rfl ?_ | refine qD ?_ | refine qE ?_ | refine qF ?_ | refine qI (encSI x) rfl (guardX_ok rfl) rfl rfl rfl rfl rfl rfl (by first | omega | decide) hx ?_ | refine qP rfl rfl rfl rfl rfl rfl b49 (h1) ?_ | refine zT rfl ?_ | refine qL rfl rfl ?_ | exact zD)
                        | true =>
                          rw [all_t (f := (fun x : SIt => ltB x.e)) (x := x) hc] at ok
                          rw [hc] at h1
                          repeat' (first | refine zS rfl ?_ | refine qA ?_ | refine qB rfl ?_ | refine qD ?_ | refine qE ?_ | refine qF ?_ | refine qG ?_ | refine qI (encSI x) rfl (guardX_ok rfl) rfl rfl rfl rfl rfl rfl (by first | omega | decide) hx ?_ | refine qP rfl rfl rfl rfl rfl rfl b49 (h1) ?_ | refine zT rfl ?_ | refine zU rfl ?_)
                          refine go_stop ?_
                          exact ⟨⟨i + 1, by omega, ok⟩, by dsimp only; omega, (zle 1)⟩
                      · have g1 : decide ((i : Int) < ((st.map encSI).length : Int)) = false := by rw [l5]; simp; omega
                        rw [List.drop_eq_nil_of_le hge, List.all_nil] at ok
                        rw [ok]
                        try simp only [Bool.true_and]
                        repeat' (first | refine zS rfl ?_ | refine qA ?_ | refine qB rfl ?_ | refine qD ?_ | refine qH rfl ?_ | refine zU rfl ?_ | refine qL rfl rfl ?_ | exact zD)
theorem light_q (q : List CL) : Ev E 20 [encQU q] (.d (.bool (lqB q))) := Ev.fit fun hfit => by
  have hmax := (fitc_map ((hfit (encQU q) (by simp)).aggs (.sl (q.map encCL)) (by simp))).1
  have hle : (q.map encCL).length = q.length := by simp
  unfold lqB
  cases c1 : decide ((q.length : Int) > 14) with
  | true =>
    have g0 : decide (((q.map encCL).length : Int) > 14) = true := by rw [hle]; exact c1
    refine enter1 Tryz.func20 Tryz.ntmps20 rfl rfl fun w0 F0 O => ?_
    repeat' (first | refine zS rfl ?_ | refine qA ?_ | refine qB rfl ?_ | refine qD ?_ | refine zT rfl ?_ | refine qL rfl rfl ?_ | exact zD)
  | false =>
    have g0 : decide (((q.map encCL).length : Int) > 14) = false := by rw [hle]; exact c1
    rw [Bool.not_false, Bool.true_and]
    refine enter1 Tryz.func20 Tryz.ntmps20 rfl rfl fun w0 F0 O => ?_
    repeat' (first | refine zS rfl ?_ | refine qA ?_ | refine qB rfl ?_ | refine qD ?_ | refine qE ?_ | refine qF ?_ | refine zU rfl ?_)
    refine go_loop_ (α := SAl q lcB) (fun p => ⟨[(10, .d (.sl (q.map encCL))), (11, .d (.int (q.map encCL).length)), (12, .d (.int p.i))], [oQU q]⟩) (fun p => q.length - p.i) ⟨0, by omega, rfl⟩ ((zle 1)) ?_
    rintro ⟨i, hi, ok⟩
    dsimp only at ok ⊢
    rcases Nat.lt_or_ge i q.length with hlt | hge
    · have g1 : decide ((i : Int) < ((q.map encCL).length : Int)) = true := by rw [hle]; simpa using hlt
      have hx0 := List.getElem?_eq_getElem hlt
      generalize q[i] = x at hx0
      have hx := map_c (f := encCL) hx0
      rw [drop_c hx0] at ok
      have h1 := lclause_ev x
      cases hc : lcB x with
      | false =>
        rw [ok, all_f (f := lcB) hc]
        rw [hc] at h1
        repeat' (first | refine zS rfl ?_ | refine qA ?_ | refine qB rfl ?_ | refine qD ?_ | refine qE ?_ | refine qF ?_ | refine qI (encCL x) rfl (guardX_ok rfl) rfl rfl rfl rfl rfl rfl (by first | omega | decide) hx ?_ | refine qP rfl rfl rfl rfl rfl rfl b16 (h1) ?_ | refine zT rfl ?_ | refine qL rfl rfl ?_ | exact zD)
      | true =>
        rw [all_t (f := lcB) hc] at ok
        rw [hc] at h1
        repeat' (first | refine zS rfl ?_ | refine qA ?_ | refine qB rfl ?_ | refine qD ?_ | refine qE ?_ | refine qF ?_ | refine qG ?_ | refine qI (encCL x) rfl (guardX_ok rfl) rfl rfl rfl rfl rfl rfl (by first | omega | decide) hx ?_ | refine qP rfl rfl rfl rfl rfl rfl b16 (h1) ?_ | refine zT rfl ?_ | refine zU rfl ?_)
        refine go_stop ?_
        exact ⟨⟨i + 1, by omega, ok⟩, by dsimp only; omega, (zle 1)⟩
    · have g1 : decide ((i : Int) < ((q.map encCL).length : Int)) = false := by rw [hle]; simp; omega
      rw [List.drop_eq_nil_of_le hge, List.all_nil] at ok
      rw [ok]
      repeat' (first | refine zS rfl ?_ | refine qA ?_ | refine qB rfl ?_ | refine qD ?_ | refine qH rfl ?_ | refine zU rfl ?_ | refine qL rfl rfl ?_ | exact zD)
end Go.Proofs.YtmfjfclpdmpncaaGreatDoor

/- From rows' readings to clauses and queries; the listed variables as the engine wants them; a world for the witnesses. Conditions: none. -/
namespace Go.Proofs.YtmfjfclpdmpncaaGreatDoor
set_option maxRecDepth 4000
open Go Go.Abs Go.Val Go.RowKit Go.ChangeShapes Go.WideShapes

theorem ty_V : ∀ {t : TypeId} {x : D}, HasTy Tryz.prog t x → (t = 38 → ∃ v, x = enc v) ∧ (t = 36 → ∃ l, x = .sl (encL l)) := by
  intro t x h
  induction h with
  | bool b h => exact ⟨fun e => (by subst e; rw [Tryz.underlying38] at h; cases h), fun e => (by subst e; rw [Tryz.underlying36] at h; cases h)⟩
  | int n h => exact ⟨fun e => (by subst e; rw [Tryz.underlying38] at h; cases h), fun e => (by subst e; rw [Tryz.underlying36] at h; cases h)⟩
  | str s h => exact ⟨fun e => (by subst e; rw [Tryz.underlying38] at h; cases h), fun e => (by subst e; rw [Tryz.underlying36] at h; cases h)⟩
  | arr ps h _ _ => exact ⟨fun e => (by subst e; rw [Tryz.underlying38] at h; cases h), fun e => (by subst e; rw [Tryz.underlying36] at h; cases h)⟩
  | sl xs h hx ih =>
    refine ⟨fun e => (by subst e; rw [Tryz.underlying38] at h; cases h), fun e => ?_⟩
    subst e
    rw [Tryz.underlying36] at h
    cases h
    have : ∀ ys : List D, (∀ y ∈ ys, ∃ v, y = enc v) → ∃ l, ys = encL l := by
      intro ys
      induction ys with
      | nil => exact fun _ => ⟨[], by simp [encL]⟩
      | cons y r ihr =>
        intro hy
        obtain ⟨v, rfl⟩ := hy y (by simp)
        obtain ⟨l, rfl⟩ := ihr fun z hz => hy z (by simp [hz])
        exact ⟨v :: l, by simp [encL, enc]⟩
    obtain ⟨l, rfl⟩ := this xs fun y hy => (ih y hy).1 rfl
    exact ⟨l, rfl⟩
  | struct parts h hl hp ih =>
    refine ⟨fun e => ?_, fun e => (by subst e; rw [Tryz.underlying36] at h; cases h)⟩
    subst e
    rw [Tryz.underlying38] at h
    cases h
    match parts, hl with
    | [p0, p1, p2, p3, p4], _ =>
      obtain ⟨k, rfl⟩ := HasTy.int_inv Tryz.underlying3 (hp 0 _ p0 rfl rfl)
      obtain ⟨n, rfl⟩ := HasTy.int_inv Tryz.underlying3 (hp 1 _ p1 rfl rfl)
      obtain ⟨d, rfl⟩ := HasTy.int_inv Tryz.underlying3 (hp 2 _ p2 rfl rfl)
      obtain ⟨s, rfl⟩ := HasTy.str_inv Tryz.underlying9 (hp 3 _ p3 rfl rfl)
      obtain ⟨l, rfl⟩ := (ih 4 _ p4 rfl rfl).2 rfl
      exact ⟨.mk k n d s l, rfl⟩
theorem ty_val {x : D} (h : HasTy Tryz.prog 38 x) : ∃ v, x = enc v := (ty_V h).1 rfl
theorem ty_E : ∀ {t : TypeId} {x : D}, HasTy Tryz.prog t x → (t = 40 → ∃ v, x = encE v) ∧ (t = 35 → ∃ l, x = .sl (encEL l)) := by
  intro t x h
  induction h with
  | bool b h => exact ⟨fun e => (by subst e; rw [Tryz.underlying40] at h; cases h), fun e => (by subst e; rw [Tryz.underlying35] at h; cases h)⟩
  | int n h => exact ⟨fun e => (by subst e; rw [Tryz.underlying40] at h; cases h), fun e => (by subst e; rw [Tryz.underlying35] at h; cases h)⟩
  | str s h => exact ⟨fun e => (by subst e; rw [Tryz.underlying40] at h; cases h), fun e => (by subst e; rw [Tryz.underlying35] at h; cases h)⟩
  | arr ps h _ _ => exact ⟨fun e => (by subst e; rw [Tryz.underlying40] at h; cases h), fun e => (by subst e; rw [Tryz.underlying35] at h; cases h)⟩
  | sl xs h hx ih =>
    refine ⟨fun e => (by subst e; rw [Tryz.underlying40] at h; cases h), fun e => ?_⟩
    subst e
    rw [Tryz.underlying35] at h
    cases h
    have : ∀ ys : List D, (∀ y ∈ ys, ∃ v, y = encE v) → ∃ l, ys = encEL l := by
      intro ys
      induction ys with
      | nil => exact fun _ => ⟨[], by simp [encEL]⟩
      | cons y r ihr =>
        intro hy
        obtain ⟨v, rfl⟩ := hy y (by simp)
        obtain ⟨l, rfl⟩ := ihr fun z hz => hy z (by simp [hz])
        exact ⟨v :: l, by simp [encEL, encE]⟩
    obtain ⟨l, rfl⟩ := this xs fun y hy => (ih y hy).1 rfl
    exact ⟨l, rfl⟩
  | struct parts h hl hp ih =>
    refine ⟨fun e => ?_, fun e => (by subst e; rw [Tryz.underlying35] at h; cases h)⟩
    subst e
    rw [Tryz.underlying40] at h
    cases h
    match parts, hl with
    | [p0, p1, p2, p3, p4], _ =>
      obtain ⟨k, rfl⟩ := HasTy.int_inv Tryz.underlying3 (hp 0 _ p0 rfl rfl)
      obtain ⟨v, rfl⟩ := ty_val (hp 1 _ p1 rfl rfl)
      obtain ⟨s, rfl⟩ := HasTy.str_inv Tryz.underlying9 (hp 2 _ p2 rfl rfl)
      obtain ⟨b, rfl⟩ := HasTy.bool_inv Tryz.underlying4 (hp 3 _ p3 rfl rfl)
      obtain ⟨l, rfl⟩ := (ih 4 _ p4 rfl rfl).2 rfl
      exact ⟨.mk k v s b l, rfl⟩
theorem ty_expr {x : D} (h : HasTy Tryz.prog 40 x) : ∃ v, x = encE v := (ty_E h).1 rfl
theorem ty_exprs {x : D} (h : HasTy Tryz.prog 35 x) : ∃ l, x = .sl (encEL l) := (ty_E h).2 rfl
theorem list_of {α : Type} {f : α → D} : ∀ ys : List D, (∀ y ∈ ys, ∃ v, y = f v) → ∃ l : List α, ys = l.map f
  | [], _ => ⟨[], rfl⟩
  | y :: r, hy => by
    obtain ⟨v, rfl⟩ := hy y (by simp)
    obtain ⟨l, rfl⟩ := list_of r fun z hz => hy z (by simp [hz])
    exact ⟨v :: l, rfl⟩
theorem ty_strs {x : D} (h : HasTy Tryz.prog 26 x) : ∃ l : List ByteArray, x = .sl (l.map .str) := by
  obtain ⟨xs, rfl, hx⟩ := HasTy.sl_inv Tryz.underlying26 h
  obtain ⟨l, rfl⟩ := list_of (f := D.str) xs fun y hy => HasTy.str_inv Tryz.underlying9 (hx y hy)
  exact ⟨l, rfl⟩
theorem ty_PP {x : D} (h : HasTy Tryz.prog 177 x) : ∃ c, x = encPP c := by
  obtain ⟨parts, rfl, hl, hp⟩ := HasTy.struct_inv Tryz.underlying177 h
  match parts, hl with
  | [p0, p1], _ =>
    obtain ⟨s, rfl⟩ := HasTy.str_inv Tryz.underlying9 (hp 0 _ p0 rfl rfl)
    obtain ⟨e, rfl⟩ := ty_expr (hp 1 _ p1 rfl rfl)
    exact ⟨⟨s, e⟩, rfl⟩
theorem ty_PPs {x : D} (h : HasTy Tryz.prog 101 x) : ∃ l : List PP, x = .sl (l.map encPP) := by
  obtain ⟨xs, rfl, hx⟩ := HasTy.sl_inv Tryz.underlying101 h
  obtain ⟨l, rfl⟩ := list_of (f := encPP) xs fun y hy => ty_PP (hx y hy)
  exact ⟨l, rfl⟩
theorem ty_NP {x : D} (h : HasTy Tryz.prog 103 x) : ∃ c, x = encNP c := by
  obtain ⟨parts, rfl, hl, hp⟩ := HasTy.struct_inv Tryz.underlying103 h
  match parts, hl with
  | [p0, p1, p2], _ =>
    obtain ⟨s, rfl⟩ := HasTy.str_inv Tryz.underlying9 (hp 0 _ p0 rfl rfl)
    obtain ⟨lb, rfl⟩ := ty_strs (hp 1 _ p1 rfl rfl)
    obtain ⟨ps, rfl⟩ := ty_PPs (hp 2 _ p2 rfl rfl)
    exact ⟨⟨s, lb, ps⟩, rfl⟩
theorem ty_NPs {x : D} (h : HasTy Tryz.prog 97 x) : ∃ l : List NP, x = .sl (l.map encNP) := by
  obtain ⟨xs, rfl, hx⟩ := HasTy.sl_inv Tryz.underlying97 h
  obtain ⟨l, rfl⟩ := list_of (f := encNP) xs fun y hy => ty_NP (hx y hy)
  exact ⟨l, rfl⟩
theorem ty_EP {x : D} (h : HasTy Tryz.prog 106 x) : ∃ c, x = encEP c := by
  obtain ⟨parts, rfl, hl, hp⟩ := HasTy.struct_inv Tryz.underlying106 h
  match parts, hl with
  | [p0, p1, p2, p3, p4, p5, p6], _ =>
    obtain ⟨s, rfl⟩ := HasTy.str_inv Tryz.underlying9 (hp 0 _ p0 rfl rfl)
    obtain ⟨ty, rfl⟩ := ty_strs (hp 1 _ p1 rfl rfl)
    obtain ⟨d, rfl⟩ := HasTy.int_inv Tryz.underlying3 (hp 2 _ p2 rfl rfl)
    obtain ⟨m, rfl⟩ := HasTy.int_inv Tryz.underlying3 (hp 3 _ p3 rfl rfl)
    obtain ⟨mn, rfl⟩ := HasTy.int_inv Tryz.underlying3 (hp 4 _ p4 rfl rfl)
    obtain ⟨mx, rfl⟩ := HasTy.int_inv Tryz.underlying3 (hp 5 _ p5 rfl rfl)
    obtain ⟨ps, rfl⟩ := ty_PPs (hp 6 _ p6 rfl rfl)
    exact ⟨⟨s, ty, d, m, mn, mx, ps⟩, rfl⟩
theorem ty_EPs {x : D} (h : HasTy Tryz.prog 98 x) : ∃ l : List EP, x = .sl (l.map encEP) := by
  obtain ⟨xs, rfl, hx⟩ := HasTy.sl_inv Tryz.underlying98 h
  obtain ⟨l, rfl⟩ := list_of (f := encEP) xs fun y hy => ty_EP (hx y hy)
  exact ⟨l, rfl⟩
theorem ty_PA {x : D} (h : HasTy Tryz.prog 100 x) : ∃ c, x = encPA c := by
  obtain ⟨parts, rfl, hl, hp⟩ := HasTy.struct_inv Tryz.underlying100 h
  match parts, hl with
  | [p0, p1, p2], _ =>
    obtain ⟨s, rfl⟩ := HasTy.str_inv Tryz.underlying9 (hp 0 _ p0 rfl rfl)
    obtain ⟨ns, rfl⟩ := ty_NPs (hp 1 _ p1 rfl rfl)
    obtain ⟨es, rfl⟩ := ty_EPs (hp 2 _ p2 rfl rfl)
    exact ⟨⟨s, ns, es⟩, rfl⟩
theorem ty_PAs {x : D} (h : HasTy Tryz.prog 34 x) : ∃ l : List PA, x = .sl (l.map encPA) := by
  obtain ⟨xs, rfl, hx⟩ := HasTy.sl_inv Tryz.underlying34 h
  obtain ⟨l, rfl⟩ := list_of (f := encPA) xs fun y hy => ty_PA (hx y hy)
  exact ⟨l, rfl⟩
theorem ty_IT {x : D} (h : HasTy Tryz.prog 85 x) : ∃ c, x = encIT c := by
  obtain ⟨parts, rfl, hl, hp⟩ := HasTy.struct_inv Tryz.underlying85 h
  match parts, hl with
  | [p0, p1], _ =>
    obtain ⟨e, rfl⟩ := ty_expr (hp 0 _ p0 rfl rfl)
    obtain ⟨s, rfl⟩ := HasTy.str_inv Tryz.underlying9 (hp 1 _ p1 rfl rfl)
    exact ⟨⟨e, s⟩, rfl⟩
theorem ty_ITs {x : D} (h : HasTy Tryz.prog 41 x) : ∃ l : List IT, x = .sl (l.map encIT) := by
  obtain ⟨xs, rfl, hx⟩ := HasTy.sl_inv Tryz.underlying41 h
  obtain ⟨l, rfl⟩ := list_of (f := encIT) xs fun y hy => ty_IT (hx y hy)
  exact ⟨l, rfl⟩
theorem ty_SK {x : D} (h : HasTy Tryz.prog 87 x) : ∃ c, x = encSK c := by
  obtain ⟨parts, rfl, hl, hp⟩ := HasTy.struct_inv Tryz.underlying87 h
  match parts, hl with
  | [p0, p1], _ =>
    obtain ⟨e, rfl⟩ := ty_expr (hp 0 _ p0 rfl rfl)
    obtain ⟨s, rfl⟩ := HasTy.bool_inv Tryz.underlying4 (hp 1 _ p1 rfl rfl)
    exact ⟨⟨e, s⟩, rfl⟩
theorem ty_SKs {x : D} (h : HasTy Tryz.prog 42 x) : ∃ l : List SK, x = .sl (l.map encSK) := by
  obtain ⟨xs, rfl, hx⟩ := HasTy.sl_inv Tryz.underlying42 h
  obtain ⟨l, rfl⟩ := list_of (f := encSK) xs fun y hy => ty_SK (hx y hy)
  exact ⟨l, rfl⟩
theorem ty_SI {x : D} (h : HasTy Tryz.prog 89 x) : ∃ c, x = encSI c := by
  obtain ⟨parts, rfl, hl, hp⟩ := HasTy.struct_inv Tryz.underlying89 h
  match parts, hl with
  | [p0, p1, p2, p3, p4], _ =>
    obtain ⟨v, rfl⟩ := HasTy.str_inv Tryz.underlying9 (hp 0 _ p0 rfl rfl)
    obtain ⟨k, rfl⟩ := HasTy.str_inv Tryz.underlying9 (hp 1 _ p1 rfl rfl)
    obtain ⟨l, rfl⟩ := HasTy.str_inv Tryz.underlying9 (hp 2 _ p2 rfl rfl)
    obtain ⟨o, rfl⟩ := HasTy.bool_inv Tryz.underlying4 (hp 3 _ p3 rfl rfl)
    obtain ⟨e, rfl⟩ := ty_expr (hp 4 _ p4 rfl rfl)
    exact ⟨⟨v, k, l, o, e⟩, rfl⟩
theorem ty_SIs {x : D} (h : HasTy Tryz.prog 43 x) : ∃ l : List SIt, x = .sl (l.map encSI) := by
  obtain ⟨xs, rfl, hx⟩ := HasTy.sl_inv Tryz.underlying43 h
  obtain ⟨l, rfl⟩ := list_of (f := encSI) xs fun y hy => ty_SI (hx y hy)
  exact ⟨l, rfl⟩
theorem ty_CL {x : D} (h : HasTy Tryz.prog 45 x) : ∃ c, x = encCL c := by
  obtain ⟨parts, rfl, hl, hp⟩ := HasTy.struct_inv Tryz.underlying45 h
  match parts, hl with
  | [p0, p1, p2, p3, p4, p5, p6, p7, p8, p9, p10, p11, p12], _ =>
    obtain ⟨k, rfl⟩ := HasTy.int_inv Tryz.underlying3 (hp 0 _ p0 rfl rfl)
    obtain ⟨o, rfl⟩ := HasTy.bool_inv Tryz.underlying4 (hp 1 _ p1 rfl rfl)
    obtain ⟨d, rfl⟩ := HasTy.bool_inv Tryz.underlying4 (hp 2 _ p2 rfl rfl)
    obtain ⟨ps, rfl⟩ := ty_PAs (hp 3 _ p3 rfl rfl)
    obtain ⟨wh, rfl⟩ := ty_exprs (hp 4 _ p4 rfl rfl)
    obtain ⟨e, rfl⟩ := ty_expr (hp 5 _ p5 rfl rfl)
    obtain ⟨nm, rfl⟩ := HasTy.str_inv Tryz.underlying9 (hp 6 _ p6 rfl rfl)
    obtain ⟨it, rfl⟩ := ty_ITs (hp 7 _ p7 rfl rfl)
    obtain ⟨od, rfl⟩ := ty_SKs (hp 8 _ p8 rfl rfl)
    obtain ⟨sk, rfl⟩ := HasTy.int_inv Tryz.underlying3 (hp 9 _ p9 rfl rfl)
    obtain ⟨lm, rfl⟩ := HasTy.int_inv Tryz.underlying3 (hp 10 _ p10 rfl rfl)
    obtain ⟨st, rfl⟩ := ty_SIs (hp 11 _ p11 rfl rfl)
    obtain ⟨ns, rfl⟩ := ty_strs (hp 12 _ p12 rfl rfl)
    exact ⟨⟨k, o, d, ps, wh, e, nm, it, od, sk, lm, st, ns⟩, rfl⟩
theorem ty_CLs {x : D} (h : HasTy Tryz.prog 56 x) : ∃ l : List CL, x = .sl (l.map encCL) := by
  obtain ⟨xs, rfl, hx⟩ := HasTy.sl_inv Tryz.underlying56 h
  obtain ⟨l, rfl⟩ := list_of (f := encCL) xs fun y hy => ty_CL (hx y hy)
  exact ⟨l, rfl⟩
theorem ty_QU {x : D} (h : HasTy Tryz.prog 58 x) : ∃ c, x = encQU c := by
  obtain ⟨parts, rfl, hl, hp⟩ := HasTy.struct_inv Tryz.underlying58 h
  match parts, hl with
  | [p0], _ =>
    obtain ⟨l, rfl⟩ := ty_CLs (hp 0 _ p0 rfl rfl)
    exact ⟨l, rfl⟩
/-- The types that the laws' arguments are made of. -/
def tys : List TypeId := [3, 9, 4, 26, 36, 38, 35, 40, 177, 101, 103, 97, 106, 98, 100, 34, 85, 41, 87, 42, 89, 43, 45, 56, 58]
theorem tys_ok : closedB Tryz.prog tys = true := by kernel_rfl
/-- The rows' list of listed variables. -/
noncomputable def seatLaid : List (String × DataW Unit) := Rows.formatClausesRow.laid
theorem gi_of {W : World} (hL : laidMetH Tryz.prog seatLaid W) (hS : W.ShapedOpen Tryz.prog) : E.GI W (F0 W) := by
  rw [MakeChecks.laidMetH_plain _ _ _ (by kernel_rfl)] at hL
  obtain ⟨ps, hLV, -⟩ := hL
  have hlt : ∀ {g : Nat} {v : Value}, W.cell? ⟨g, 0, none⟩ = some v → F0 W g := fun {g v} h => by
    unfold F0
    rcases Nat.lt_or_ge g W.heap.size with h' | h'
    · exact h'
    · unfold World.cell? at h
      simp only at h
      rw [Array.getElem?_eq_none h'] at h
      cases h
  refine ⟨fun e he => (by simp [E, seatG] at he), ⟨?_, ?_⟩, ?_, ?_⟩
  · have ht : Lib.TabIs Tryz.prog W "internal/strconv.uint64pow10" .u64 Lib.pow10Tab :=
      listed_tab hLV "internal/strconv.uint64pow10" .u64 Lib.pow10Tab 2 353 298 20 (by
        have : (Lib.tabData .u64 Lib.pow10Tab : DataW Unit) = Rows.laid_internal_strconv_uint64pow10 := by rfl
        rw [this]
        simp [seatLaid, Rows.formatClausesRow]) (by kernel_rfl) (by kernel_rfl) Tryz.underlying353 Tryz.underlying298 (by kernel_rfl) (by kernel_rfl)
    unfold Lib.TabIs World.var? at ht
    have hg : Tryz.prog.globalNamed "internal/strconv.uint64pow10" = some 2 := by kernel_rfl
    rw [hg] at ht
    simp only [Option.bind_some] at ht
    unfold F0
    rcases Nat.lt_or_ge 2 W.heap.size with h | h
    · exact h
    · rw [Array.getElem?_eq_none h] at ht; cases ht
  · exact listed_tab hLV "internal/strconv.uint64pow10" .u64 Lib.pow10Tab 2 353 298 20 (by
        have : (Lib.tabData .u64 Lib.pow10Tab : DataW Unit) = Rows.laid_internal_strconv_uint64pow10 := by rfl
        rw [this]
        simp [seatLaid, Rows.formatClausesRow]) (by kernel_rfl) (by kernel_rfl) Tryz.underlying353 Tryz.underlying298 (by kernel_rfl) (by kernel_rfl)
  · obtain ⟨m, hm⟩ := cell_of_shapedOpen_int (P := Tryz.prog) (g := 0) (t := 3) (zero := #[.int .i64 0]) hS (by decide +kernel) (by kernel_rfl) (by decide) (by kernel_rfl) (by kernel_rfl) Tryz.underlying3
    exact hlt hm
  · exact cell_of_shapedOpen_int (P := Tryz.prog) (g := 0) (t := 3) (zero := #[.int .i64 0]) hS (by decide +kernel) (by kernel_rfl) (by decide) (by kernel_rfl) (by kernel_rfl) Tryz.underlying3
/-- A world in which the listed variables are as listed. -/
noncomputable def wit (os : Os) : World :=
  { World.doorLaid Tryz.prog 400 os with heap := (World.doorLaid Tryz.prog 400 os).heap.modify 3 fun o => match o with | .cells _ t z => .cells (tabRow Rows.laid_unicode_utf8_first) t z | o => o }
set_option maxRecDepth 100000 in
theorem wit_met (os : Os) (args : Array Value) : laidMetH Tryz.prog seatLaid ((wit os).forCall (fun _ _ => 0) ⟨#[], args, []⟩).memory :=
  laidMetH_of_parts3 (fuel := 8) (laidMet_of_run' 8 (by kernel_rfl) (by kernel_rfl)) (by kernel_rfl) (by kernel_rfl)
set_option maxRecDepth 100000 in
theorem wit_shaped (os : Os) (args : Array Value) : ((wit os).forCall (fun _ _ => 0) ⟨#[], args, []⟩).Shaped Tryz.prog := World.shaped_of_RefB (by kernel_rfl) (by kernel_rfl)
theorem seat_own : ownKnob Tryz.prog.godebug = none := by kernel_rfl
theorem seat_out : laidOutB Tryz.prog = true := by kernel_rfl
end Go.Proofs.YtmfjfclpdmpncaaGreatDoor

/- The statements' own examples. Conditions: none. -/
namespace Go.Proofs.YtmfjfclpdmpncaaGreatDoor
set_option maxRecDepth 4000
open Go Go.Abs Go.Val Go.RowKit
attribute [local irreducible] go SGo HasBody Ev ExtEv EvO EvS RGo

def rT (e : Ex) : ByteArray := bif chkF e != 0 then ⟨#[]⟩ else bs (txE e)
theorem fExpr_ev (e : Ex) (hl : ltE e) : Ev E 50 [encE e] (.tup [.str (rT e), .int (chkF e)]) := Ev.fit fun hfit => by
  have h1 := check_ev e (by have := hl.2.1; omega) (by have := hl.1; omega)
  unfold rT
  cases hc : chkF e != 0 with
  | true =>
    refine enter1 Tryz.func50 Tryz.ntmps50 rfl rfl fun w0 F0 O => ?_
    repeat' (first | refine zS rfl ?_ | refine qA ?_ | refine qB rfl ?_ | refine qD ?_ | refine qP rfl rfl rfl rfl rfl rfl b108 (h1) ?_ | refine zT rfl ?_ | refine qM rfl rfl rfl ?_ | exact zL)
  | false =>
    have hc0 : chkF e = 0 := by simpa using hc
    have h2 := expr_ev e (sm_of (hfit _ (by simp)) hl hc0) (by have := hl.1; omega)
    rw [hc0] at h1 ⊢
    refine enter1 Tryz.func50 Tryz.ntmps50 rfl rfl fun w0 F0 O => ?_
    repeat' (first | refine zS rfl ?_ | refine qA ?_ | refine qB rfl ?_ | refine qD ?_ | refine qE ?_ | refine qP rfl rfl rfl rfl rfl rfl b108 (h1) ?_ | refine qP rfl rfl rfl rfl rfl rfl b109 (h2) ?_ | refine zU rfl ?_ | refine qM rfl rfl rfl ?_ | exact zL)
def v0 : V := .mk 0 0 0 ⟨#[]⟩ []
def vE (s : ByteArray) : Ex := .mk 2 v0 s false []
theorem variable_ev (s : ByteArray) : Ev E 51 [.str s] (.d (encE (vE s))) := by
  refine enter1 Tryz.func51 Tryz.ntmps51 rfl rfl fun w0 F0 O => ?_
  repeat' (first | refine zS rfl ?_ | refine qA ?_ | refine qB rfl ?_ | refine qD ?_ | refine qL rfl rfl ?_ | exact zD)
def x1 : Ex := .mk 7 v0 ⟨#[]⟩ false [vE ⟨#[97]⟩, .mk 9 v0 ⟨#[]⟩ false [vE ⟨#[98]⟩, vE ⟨#[99]⟩]]
def x2 : Ex := .mk 6 v0 ⟨#[]⟩ false [.mk 6 v0 ⟨#[]⟩ false [vE ⟨#[97]⟩]]
theorem x1_ok : rT x1 = ⟨#[97, 32, 43, 32, 40, 98, 32, 42, 32, 99, 41]⟩ ∧ chkF x1 = 0 := by decide +kernel
theorem x2_ok : rT x2 = ⟨#[45, 40, 45, 97, 41]⟩ ∧ chkF x2 = 0 := by decide +kernel
theorem alive_ev : Ev E 17 [] (.d (.bool true)) := by
  have h1 := fExpr_ev x1 (lt_of (by decide +kernel))
  have h2 := fExpr_ev x2 (lt_of (by decide +kernel))
  rw [x1_ok.1, x1_ok.2] at h1
  rw [x2_ok.1, x2_ok.2] at h2
  have v1 := variable_ev ⟨#[97]⟩
  have v2 := variable_ev ⟨#[98]⟩
  have v3 := variable_ev ⟨#[99]⟩
  have t1 : ((⟨#[97, 32, 43, 32, 40, 98, 32, 42, 32, 99, 41]⟩ : ByteArray).toList == (⟨#[97, 32, 43, 32, 40, 98, 32, 42, 32, 99, 41]⟩ : ByteArray).toList) = true := beq_self_eq_true _
  have t2 : ((⟨#[45, 40, 45, 97, 41]⟩ : ByteArray).toList == (⟨#[45, 40, 45, 97, 41]⟩ : ByteArray).toList) = true := beq_self_eq_true _
  refine enter0 Tryz.func17 Tryz.ntmps17 rfl rfl fun w0 F0 O => ?_
  repeat' (first | refine zS rfl ?_ | refine qA ?_ | refine qB rfl ?_ | refine qD ?_ | refine qP rfl rfl rfl rfl rfl rfl b51 (v1) ?_ | refine qP rfl rfl rfl rfl rfl rfl b51 (v2) ?_ | refine qP rfl rfl rfl rfl rfl rfl b51 (v3) ?_ | refine qP (d := 13) rfl rfl rfl rfl rfl rfl b50 (h1) ?_ | refine qP (d := 22) rfl rfl rfl rfl rfl rfl b50 (h2) ?_ | refine qL rfl rfl ?_ | refine zX rfl rfl rfl rfl ?_)
  exact congrArg D.bool t2
end Go.Proofs.YtmfjfclpdmpncaaGreatDoor
