/- Slices that are made and never written: they count as data at once. Conditions: each operation's own. -/
import Derived.Test.YtpjnngfjbcjikaaDoorEng13
namespace Go.Abs
open Go Go.RowKit

section
variable {C : Cx} {s : St} {o : Oper} {x : X} {p : Prop}

theorem v_makeD {t : TypeId} {y z : Operand} {te : TE} {ky kz : IntKind} {n : Nat} {d : D} (ho : o.op = .makeSlice t y z) (hte : elemT C.E t = some te) (hy : s.ev C.E y = .d (.imm (.int ky (n : Int)))) (hz : s.ev C.E z = .d (.imm (.int kz (n : Int))))
    (hzd : zeroD te = some d) (h1z : oneAll te.zero.cells.toList = true) (hzs : te.zero.cells.size = te.size) (hb : te.bytes * n ≤ 281474976710656) (hmx : n ≤ 9223372036854775807) : VOp C s o (.d (.sl (List.replicate n d))) := by
  obtain ⟨hu, hok⟩ := elemT_ok hte
  obtain ⟨hdesc, i0, hi0, hsize, hbytes, hzero⟩ := hok
  have hc := zeroD_cells hzd
  intro F σ w a K Q hi hr hK
  have hvy := hr y (by simp [ho, Op.operands])
  have hvz := hr z (by simp [ho, Op.operands])
  rw [hy] at hvy
  rw [hz] at hvz
  have e1 := (Rd.imm_inv hvy).1
  have e2 := (Rd.imm_inv hvz).1
  have hbz : (i0.bytes : Int) * (n : Int) ≤ 281474976710656 := by
    have h : ((i0.bytes * n : Nat) : Int) ≤ 281474976710656 := by rw [hbytes]; omega
    rwa [Int.natCast_mul] at h
  have hrun0 := run_make (P := C.E.P) w t te.t i0 te.zero hu hi0 hzero ky kz n n (Int.natCast_nonneg n) (Int.le_refl _) hbz (by omega)
  have hrun : (execOp a.eval o).run C.E.P w = .ok (.value (.slice (some ⟨w.heap.size, 0, none⟩) n n)) (w.alloc (.cells (madeCells te.zero.cells (n * te.size)) te.t)) := by
    simp only [Int.toNat_natCast, hsize] at hrun0
    simp [execOp, ho, e1, e2, hrun0]
  unfold Oper.wp
  rw [hrun]
  have hx := ext_alloc (F := F) (.cells (madeCells te.zero.cells (n * te.size)) te.t) hi.flt
  have he : Ext w F (w.alloc (.cells (madeCells te.zero.cells (n * te.size)) te.t)) (fun b => F b ∨ b = w.heap.size) :=
    ⟨hx.below, fun b h => .inl h, fun b h => by rcases h with h | h; exact .inl h; exact .inr (by omega), fun b h => by rcases h with h | h; exact hx.lt b h; rw [h]; simp⟩
  have hz0 : CellsRd (w.alloc (.cells (madeCells te.zero.cells (n * te.size)) te.t)) (fun b => F b ∨ b = w.heap.size) te.zero.cells.toList d.cells := zeroDs_ok hc fun v hv => oneAll_ok h1z v hv
  have hdl : d.cells.length = te.size := by rw [hz0.len]; simpa using hzs
  refine hK _ _ _ he ?_
  have hheap : (w.alloc (.cells (madeCells te.zero.cells (n * te.size)) te.t)).heap[w.heap.size]? = some (.cells (madeCells te.zero.cells (n * te.size)).toList.toArray te.t (0, 0)) := by simpa using heap_push
  have hlen : (List.replicate n d).length = n := by simp
  have hget : ∀ (i : Nat) x, (List.replicate n d)[i]? = some x → i < n ∧ x = d := by
    intro i x hx
    have hin : i < n := by
      have := (List.getElem?_eq_some_iff.1 hx).1
      simpa using this
    rw [List.getElem?_replicate, if_pos hin] at hx
    cases hx
    exact ⟨hin, rfl⟩
  have key : Rd (w.alloc (.cells (madeCells te.zero.cells (n * te.size)) te.t)) (fun b => F b ∨ b = w.heap.size) (.sl (List.replicate n d)) (.slice (some ⟨w.heap.size, 0, none⟩) (List.replicate n d).length n) := by
    refine Rd.sl te.size _ ⟨w.heap.size, 0, none⟩ n (fun _ j => te.zero.cells.toList.getD j undef) (by rw [hlen]; exact Nat.le_refl _) hmx (fun _ => .inr rfl) (fun x hx => ?_) (fun x hx c hcx => ?_) (fun i x j cd hx hcd => ?_) (fun i x j cd hx hcd => ?_)
    · rw [(List.mem_replicate.1 hx).2]; exact hdl
    · rw [(List.mem_replicate.1 hx).2] at hcx
      obtain ⟨j, hj⟩ := List.getElem?_of_mem hcx
      have hlt : j < te.zero.cells.toList.length := by rw [← hz0.len]; exact (List.getElem?_eq_some_iff.1 hj).1
      obtain ⟨d', e1, e2⟩ := hz0.rd j _ (List.getElem?_eq_getElem hlt)
      rw [hj] at e1
      cases e1
      exact e2.one_of (hz0.one _ (List.getElem_mem hlt))
    · obtain ⟨hin, rfl⟩ := hget i x hx
      have hj : j < te.size := by rw [← hdl]; exact (List.getElem?_eq_some_iff.1 hcd).1
      have hjj : j < te.zero.cells.size := by rw [hzs]; exact hj
      have hmod : (i * te.size + j) % te.zero.cells.size = j := by rw [hzs]; exact (div_idx hj).2
      rw [add_mk, cell_vs hheap, Nat.zero_add]
      simp only [madeCells, Array.toList_map, Array.toList_range, List.getElem?_map, List.getElem?_range (mul_idx hin hj), Option.map_some, hmod]
      simp [hjj]
    · obtain ⟨hin, rfl⟩ := hget i x hx
      have hj : j < te.size := by rw [← hdl]; exact (List.getElem?_eq_some_iff.1 hcd).1
      have hlt : j < te.zero.cells.toList.length := by simpa [hzs] using hj
      obtain ⟨d', e1, e2⟩ := hz0.rd j _ (List.getElem?_eq_getElem hlt)
      rw [hcd] at e1
      cases e1
      rw [List.getD_eq_getElem?_getD, List.getElem?_eq_getElem hlt]
      exact e2
  rw [hlen] at key
  exact key
section
variable {all : Array Oper} {pu : Bool} {K : St → Prop} {rest : List Oper} {tm : List (Nat × X)} {ob : List AObj} {k : Nat}
theorem go_makeD {t : TypeId} {y z : Operand} {te : TE} {ky kz : IntKind} (n : Nat) {d : D} (ho : o.op = .makeSlice t y z) (hg : guardX all tm o = some true) (hdst : o.dst = some k) (hd : Nat.blt k C.N = true) (hte : elemT C.E t = some te) (hy : (⟨tm, ob⟩ : St).ev C.E y = .d (.imm (.int ky (n : Int)))) (hz : (⟨tm, ob⟩ : St).ev C.E z = .d (.imm (.int kz (n : Int))))
    (hzd : zeroD te = some d) (h1z : oneAll te.zero.cells.toList = true) (hzs : te.zero.cells.size = te.size) (hb : te.bytes * n ≤ 281474976710656) (hmx : n ≤ 9223372036854775807) (h : SGo C all pu rest ⟨(k, .d (.sl (List.replicate n d))) :: tm, ob⟩ K) :
    SGo C all pu (o :: rest) ⟨tm, ob⟩ K :=
  go_vopG hg hdst hd (v_makeD ho hte hy hz hzd h1z hzs hb hmx) h
end
end
end Go.Abs
