/- From rows' readings to values; the listed variables as the engine wants them; a world for the witnesses. Conditions: none. -/
import Derived.Test.YtpjnngfjbcjikaaDoorM26
import Derived.Test.YtpjnngfjbcjikaaDoorEng19
import Derived.Test.YtpjnngfjbcjikaaDoorRows
import Derived.Test.YtpjnngfjbcjikaaDoorTie
import Derived.ProofKit
namespace Go.Proofs.YtpjnngfjbcjikaaDoor
open Go Go.Abs Go.Val Go.RowKit Go.ChangeShapes Go.WideShapes

theorem ty_V : ∀ {t : TypeId} {x : D}, HasTy Tryd.prog t x → (t = 24 → ∃ v, x = enc v) ∧ (t = 22 → ∃ l, x = .sl (encL l)) := by
  intro t x h
  induction h with
  | bool b h => exact ⟨fun e => (by subst e; rw [Tryd.underlying24] at h; cases h), fun e => (by subst e; rw [Tryd.underlying22] at h; cases h)⟩
  | int n h => exact ⟨fun e => (by subst e; rw [Tryd.underlying24] at h; cases h), fun e => (by subst e; rw [Tryd.underlying22] at h; cases h)⟩
  | str s h => exact ⟨fun e => (by subst e; rw [Tryd.underlying24] at h; cases h), fun e => (by subst e; rw [Tryd.underlying22] at h; cases h)⟩
  | arr ps h _ _ => exact ⟨fun e => (by subst e; rw [Tryd.underlying24] at h; cases h), fun e => (by subst e; rw [Tryd.underlying22] at h; cases h)⟩
  | sl xs h hx ih =>
    refine ⟨fun e => (by subst e; rw [Tryd.underlying24] at h; cases h), fun e => ?_⟩
    subst e
    rw [Tryd.underlying22] at h
    cases h
    have : ∀ ys : List D, (∀ y ∈ ys, ∃ v, y = enc v) → ∃ l, ys = encL l := by
      intro ys
      induction ys with
      | nil => exact fun _ => ⟨[], by simp [encL]⟩
      | cons y r ihr =>
        intro hy
        obtain ⟨v, rfl⟩ := hy y (by simp)
        obtain ⟨l, rfl⟩ := ihr fun z hz => hy z (by simp [hz])
        exact ⟨v :: l, by simp [encL, enc]⟩
    obtain ⟨l, rfl⟩ := this xs fun y hy => (ih y hy).1 rfl
    exact ⟨l, rfl⟩
  | struct parts h hl hp ih =>
    refine ⟨fun e => ?_, fun e => (by subst e; rw [Tryd.underlying22] at h; cases h)⟩
    subst e
    rw [Tryd.underlying24] at h
    cases h
    match parts, hl with
    | [p0, p1, p2, p3, p4], _ =>
      obtain ⟨k, rfl⟩ := HasTy.int_inv Tryd.underlying3 (hp 0 _ p0 rfl rfl)
      obtain ⟨n, rfl⟩ := HasTy.int_inv Tryd.underlying3 (hp 1 _ p1 rfl rfl)
      obtain ⟨d, rfl⟩ := HasTy.int_inv Tryd.underlying3 (hp 2 _ p2 rfl rfl)
      obtain ⟨s, rfl⟩ := HasTy.str_inv Tryd.underlying9 (hp 3 _ p3 rfl rfl)
      obtain ⟨l, rfl⟩ := (ih 4 _ p4 rfl rfl).2 rfl
      exact ⟨.mk k n d s l, rfl⟩
theorem ty_val {x : D} (h : HasTy Tryd.prog 24 x) : ∃ v, x = enc v := (ty_V h).1 rfl
theorem ty_vals {x : D} (h : HasTy Tryd.prog 22 x) : ∃ l, x = .sl (encL l) := (ty_V h).2 rfl
/-- The types that the laws' arguments and the listed variables are made of. -/
def tys : List TypeId := [3, 9, 22, 24, 36]
theorem tys_ok : closedB Tryd.prog tys = true := by kernel_rfl
/-- The rows' list of listed variables. -/
noncomputable def seatLaid : List (String × DataW Unit) := Rows.valueOrderRow.laid
theorem gi_of {W : World} (hL : laidMetH Tryd.prog seatLaid W) (hS : W.ShapedOpen Tryd.prog) : E.GI W (F0 W) := by
  rw [MakeChecks.laidMetH_plain _ _ _ (by kernel_rfl)] at hL
  obtain ⟨ps, hLV, -⟩ := hL
  have hlt : ∀ {g : Nat} {v : Value}, W.cell? ⟨g, 0, none⟩ = some v → F0 W g := fun {g v} h => by
    unfold F0
    rcases Nat.lt_or_ge g W.heap.size with h' | h'
    · exact h'
    · unfold World.cell? at h
      simp only at h
      rw [Array.getElem?_eq_none h'] at h
      cases h
  refine ⟨fun e he => ?_, ⟨?_, ?_⟩, ?_, ?_⟩
  · simp only [E, seatG, List.mem_singleton] at he
    subst he
    obtain ⟨x, hm, hs⟩ := listed_D tys tys_ok hLV "graphdb/frac.zero" Rows.laid_graphdb_frac_zero 0 36 (by simp [seatLaid, Rows.valueOrderRow]) (by kernel_rfl) (by kernel_rfl) (by decide)
    obtain ⟨parts, rfl, hl, hp⟩ := Says.agg_inv hs
    match parts, hl with
    | [p0, p1], _ =>
      have e0 := Says.int_inv (hp 0 _ p0 rfl rfl)
      have e1 := Says.int_inv (hp 1 _ p1 rfl rfl)
      subst e0 e1
      exact hm
  · have ht : Lib.TabIs Tryd.prog W "internal/strconv.uint64pow10" .u64 Lib.pow10Tab :=
      listed_tab hLV "internal/strconv.uint64pow10" .u64 Lib.pow10Tab 1 105 70 20 (by
        have : (Lib.tabData .u64 Lib.pow10Tab : DataW Unit) = Rows.laid_internal_strconv_uint64pow10 := by rfl
        rw [this]
        simp [seatLaid, Rows.valueOrderRow]) (by kernel_rfl) (by kernel_rfl) Tryd.underlying105 Tryd.underlying70 (by kernel_rfl) (by kernel_rfl)
    unfold Lib.TabIs World.var? at ht
    have hg : Tryd.prog.globalNamed "internal/strconv.uint64pow10" = some 1 := by kernel_rfl
    rw [hg] at ht
    simp only [Option.bind_some] at ht
    unfold F0
    rcases Nat.lt_or_ge 1 W.heap.size with h | h
    · exact h
    · rw [Array.getElem?_eq_none h] at ht; cases ht
  · exact listed_tab hLV "internal/strconv.uint64pow10" .u64 Lib.pow10Tab 1 105 70 20 (by
        have : (Lib.tabData .u64 Lib.pow10Tab : DataW Unit) = Rows.laid_internal_strconv_uint64pow10 := by rfl
        rw [this]
        simp [seatLaid, Rows.valueOrderRow]) (by kernel_rfl) (by kernel_rfl) Tryd.underlying105 Tryd.underlying70 (by kernel_rfl) (by kernel_rfl)
  · obtain ⟨m, hm⟩ := cell_of_shapedOpen_int (P := Tryd.prog) (g := 2) (t := 3) (zero := #[.int .i64 0]) hS (by decide +kernel) (by kernel_rfl) (by decide) (by kernel_rfl) (by kernel_rfl) Tryd.underlying3
    exact hlt hm
  · exact cell_of_shapedOpen_int (P := Tryd.prog) (g := 2) (t := 3) (zero := #[.int .i64 0]) hS (by decide +kernel) (by kernel_rfl) (by decide) (by kernel_rfl) (by kernel_rfl) Tryd.underlying3
/-- A world in which the listed variables are as listed. -/
noncomputable def wit (os : Os) : World :=
  { World.doorLaid Tryd.prog 400 os with heap := (World.doorLaid Tryd.prog 400 os).heap.modify 3 fun o => match o with | .cells _ t z => .cells (tabRow Rows.laid_unicode_utf8_first) t z | o => o }
set_option maxRecDepth 100000 in
theorem wit_met (os : Os) (args : Array Value) : laidMetH Tryd.prog seatLaid ((wit os).forCall (fun _ _ => 0) ⟨#[], args, []⟩).memory :=
  laidMetH_of_parts3 (fuel := 8) (laidMet_of_run' 8 (by kernel_rfl) (by kernel_rfl)) (by kernel_rfl) (by kernel_rfl)
set_option maxRecDepth 100000 in
theorem wit_shaped (os : Os) (args : Array Value) : ((wit os).forCall (fun _ _ => 0) ⟨#[], args, []⟩).Shaped Tryd.prog := World.shaped_of_RefB (by kernel_rfl) (by kernel_rfl)
theorem seat_own : ownKnob Tryd.prog.godebug = none := by kernel_rfl
theorem seat_out : laidOutB Tryd.prog = true := by kernel_rfl
end Go.Proofs.YtpjnngfjbcjikaaDoor
