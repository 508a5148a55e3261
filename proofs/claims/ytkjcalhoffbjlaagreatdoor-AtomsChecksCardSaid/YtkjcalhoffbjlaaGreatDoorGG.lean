/- Graphs and bindings as data, and the reference's look-ups in them; Membership in lists of names, by the library; Copies of lists of names and of properties, by the library. Conditions: each part's own, as it says. -/
import Derived.Test.YtkjcalhoffbjlaaGreatDoorGC
import Derived.Test.YtkjcalhoffbjlaaGreatDoorMA
import Derived.Test.YtkjcalhoffbjlaaGreatDoorGB
import Derived.Test.YtkjcalhoffbjlaaGreatDoorMB
set_option linter.unusedVariables false
set_option linter.unusedSimpArgs false
namespace Go.Proofs.YtkjcalhoffbjlaaGreatDoor
set_option maxRecDepth 4000
open Go Go.Abs Go.Val Go.Proofs.Tryz
attribute [local irreducible] go SGo HasBody Ev ExtEv EvO EvS
theorem map_at {α β : Type} {l : List α} {f : α → β} {i : Nat} {x : α} (h : l[i]? = some x) : (l.map f)[(i : Int).toNat]? = some (f x) := by
 rw [Int.toNat_natCast, List.getElem?_map, h]; rfl
theorem fit_map {α : Type} {l : List α} {f : α → D} (h : Fit (.sl (l.map f))) : l.length ≤ 9223372036854775807 ∧ ∀ x ∈ l, Fit (f x) := by
 have h5 := h.sls
 rw [List.length_map] at h5
 exact ⟨h5.1, fun x hx => h5.2 _ (List.mem_map_of_mem hx)⟩
theorem cloneS0_ev : Ev E 93 [.sl []] (.d (.sl [])) := by
 refine ye1 func93 ntmps93 fun _ _ _=>?_
 repeat' (first | refine yz ?_ | (refine go_condm rfl (fun _ => ?_) ?_) | refine go_append0 rfl rfl rfl rfl rfl rfl rfl rfl ?_ | refine yx ?_ | (refine yy ?_ ?_ <;> intro _) | exact zD | exact zL)
theorem cloneS_evO (l : List ByteArray) (h0 : l ≠ []) (hn : l.length ≤ 2000000) : EvO E 93 [.sl (l.map .str)] 9 1 (l.map .str) := by
 have hle : (l.map D.str).length = l.length := by simp
 have hne : l.map D.str ≠ [] := by simpa using h0
 have hc : ∀ d ∈ l.map D.str, d.cells.length = 1 := fun d hd => by
  obtain ⟨u, -, rfl⟩ := List.mem_map.1 hd
  rfl
 generalize l.map D.str = xs at *
 refine enterO1 func93 ntmps93 rfl rfl fun w0 F0 O => ?_
 repeat' (first | refine go_buildOwn rfl rfl rfl rfl rfl rfl rfl (by decide) (by decide) ?_ | refine yz ?_ | (refine go_condm rfl (fun h => absurd h hne) ?_) | refine yx ?_ | (refine yy ?_ ?_ <;> intro _) | exact zD | exact zL)
 refine qS rfl ⟨hne, hc, by (show (0 + xs.length) * 16 ≤ 140737488355328; omega), by (show 0 + xs.length ≤ 9223372036854775807; omega)⟩ ?_
 repeat' (first | refine yz ?_ | refine yx ?_ | (refine yy ?_ ?_ <;> intro _) | exact zD | exact zL)
theorem cloneS_ev (l : List ByteArray) (hn : l.length ≤ 2000000) : Ev E 93 [.sl (l.map .str)] (.d (.sl (l.map .str))) := by
 by_cases h0 : l = []
 ·subst h0; exact cloneS0_ev
 ·exact (cloneS_evO l h0 hn).ev
end Go.Proofs.YtkjcalhoffbjlaaGreatDoor
