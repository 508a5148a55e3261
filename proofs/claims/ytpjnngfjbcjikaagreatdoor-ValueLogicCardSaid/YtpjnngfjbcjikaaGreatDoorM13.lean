/- What the law's test of smallness comes to. Conditions: none. -/
import Derived.Test.YtpjnngfjbcjikaaGreatDoorM12
namespace Go.Proofs.YtpjnngfjbcjikaaGreatDoor
open Go Go.Abs Go.Val
attribute [local irreducible] go SGo HasBody Ev
theorem small_ev (l : List V) : Ev E 8 [.sl (encL l)] (.d (.bool (lightF [l] 300))) := by
  have h := light_ev [l] 300 (by omega) (by omega)
  refine enter1 Tryz.func8 Tryz.ntmps8 rfl rfl fun w0 F0 => ?_
  repeat' (first
    | (refine go_step2 rfl ?_ ?_; (first | exact True.intro | rfl | assumption | omega | (simp only [inR]; omega) | exact tmod_ok (by omega) (by omega) | exact tdiv_ok (by omega) (by omega) | exact ⟨rfl, by decide, by decide⟩))
    | refine go_seq ?_
    | refine go_region rfl ?_
    | refine go_region_draw (by kernel_rfl) ?_
    | refine SGo.nil ?_
    | refine go_skip ?_
    | refine go_block ?_
    | refine go_blk ?_
    | refine go_exit_ rfl ?_
    | refine go_call rfl rfl rfl rfl rfl rfl b53 (h) ?_
    | (refine go_cond_t rfl ?_ ?_; (first | rfl | assumption))
    | (refine go_cond_f rfl ?_ ?_; (first | rfl | assumption))
    | refine ret1 rfl rfl ?_
    | refine ret2 rfl rfl rfl ?_
    | refine go_gset (b' := true) rfl rfl rfl rfl (by assumption) ?_
    | refine go_gset (b' := false) rfl rfl rfl rfl (by assumption) ?_
    | (refine go_gsplit rfl rfl rfl rfl ?_ ?_ <;> intro _)
    | exact (rfl : (_ : D) = _))
end Go.Proofs.YtpjnngfjbcjikaaGreatDoor
