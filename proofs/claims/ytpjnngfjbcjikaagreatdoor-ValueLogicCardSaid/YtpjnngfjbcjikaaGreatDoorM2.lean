/- The small functions of layer 4, of the program and of the specification: logic, constructors, classes. Conditions: none. -/
import Derived.Test.YtpjnngfjbcjikaaGreatDoorEnv
import Derived.Test.YtpjnngfjbcjikaaGreatDoorVal
namespace Go.Proofs.YtpjnngfjbcjikaaGreatDoor
open Go Go.Abs Go.Val
attribute [local irreducible] go SGo HasBody Ev

theorem known_ev (n : Int) : Ev E 86 [.int n] (.d (.int (kn n))) := by
  refine enter1 Tryz.func86 Tryz.ntmps86 rfl rfl fun w0 F0 => ?_
  repeat' (first
    | (refine go_step2 rfl ?_ ?_; (first | exact True.intro | rfl | assumption | omega | (simp only [inR]; omega) | exact tmod_ok (by omega) (by omega) | exact tdiv_ok (by omega) (by omega) | exact ⟨rfl, by decide, by decide⟩))
    | refine go_seq ?_
    | refine go_region rfl ?_
    | refine go_region_draw (by kernel_rfl) ?_
    | refine SGo.nil ?_
    | refine go_skip ?_
    | refine go_block ?_
    | refine go_blk ?_
    | refine go_exit_ rfl ?_
    | (refine go_cond_t rfl ?_ ?_; (first | rfl | assumption))
    | (refine go_cond_f rfl ?_ ?_; (first | rfl | assumption))
    | refine ret1 rfl rfl ?_
    | refine ret2 rfl rfl rfl ?_
    | refine go_gset (b' := true) rfl rfl rfl rfl (by assumption) ?_
    | refine go_gset (b' := false) rfl rfl rfl rfl (by assumption) ?_
    | (refine go_gsplit rfl rfl rfl rfl ?_ ?_ <;> intro _)
    | (refine go_cond rfl ?_ ?_ <;> intro _)
    | exact (rfl : (_ : D) = _))
  all_goals (refine congrArg D.int ?_; simp_all [kn]; try (rw [show (n == 0 || n == 2) = false by simp_all]; rfl))
theorem tri_ev (n : Int) : Ev E 87 [.int n] (.d (.int (kn n))) := by
  refine enter1 Tryz.func87 Tryz.ntmps87 rfl rfl fun w0 F0 => ?_
  repeat' (first
    | (refine go_step2 rfl ?_ ?_; (first | exact True.intro | rfl | assumption | omega | (simp only [inR]; omega) | exact tmod_ok (by omega) (by omega) | exact tdiv_ok (by omega) (by omega) | exact ⟨rfl, by decide, by decide⟩))
    | refine go_seq ?_
    | refine go_region rfl ?_
    | refine go_region_draw (by kernel_rfl) ?_
    | refine SGo.nil ?_
    | refine go_skip ?_
    | refine go_block ?_
    | refine go_blk ?_
    | refine go_exit_ rfl ?_
    | (refine go_cond_t rfl ?_ ?_; (first | rfl | assumption))
    | (refine go_cond_f rfl ?_ ?_; (first | rfl | assumption))
    | refine ret1 rfl rfl ?_
    | refine ret2 rfl rfl rfl ?_
    | refine go_gset (b' := true) rfl rfl rfl rfl (by assumption) ?_
    | refine go_gset (b' := false) rfl rfl rfl rfl (by assumption) ?_
    | (refine go_gsplit rfl rfl rfl rfl ?_ ?_ <;> intro _)
    | (refine go_cond rfl ?_ ?_ <;> intro _)
    | exact (rfl : (_ : D) = _))
  all_goals (refine congrArg D.int ?_; simp_all [kn]; try (rw [show (n == 0 || n == 2) = false by simp_all]; rfl))
theorem not_ev (n : Int) : Ev E 45 [.int n] (.d (.int (2 - kn n))) := by
  have h := kn_cases n
  refine enter1 Tryz.func45 Tryz.ntmps45 rfl rfl fun w0 F0 => ?_
  repeat' (first
    | (refine go_step2 rfl ?_ ?_; (first | exact True.intro | rfl | assumption | omega | (simp only [inR]; omega) | exact tmod_ok (by omega) (by omega) | exact tdiv_ok (by omega) (by omega) | exact ⟨rfl, by decide, by decide⟩))
    | refine go_seq ?_
    | refine go_region rfl ?_
    | refine go_region_draw (by kernel_rfl) ?_
    | refine SGo.nil ?_
    | refine go_skip ?_
    | refine go_block ?_
    | refine go_blk ?_
    | refine go_exit_ rfl ?_
    | refine go_call rfl rfl rfl rfl rfl rfl b86 (known_ev n) ?_
    | (refine go_cond_t rfl ?_ ?_; (first | rfl | assumption))
    | (refine go_cond_f rfl ?_ ?_; (first | rfl | assumption))
    | refine ret1 rfl rfl ?_
    | refine ret2 rfl rfl rfl ?_
    | refine go_gset (b' := true) rfl rfl rfl rfl (by assumption) ?_
    | refine go_gset (b' := false) rfl rfl rfl rfl (by assumption) ?_
    | (refine go_gsplit rfl rfl rfl rfl ?_ ?_ <;> intro _)
    | (refine go_cond rfl ?_ ?_ <;> intro _)
    | exact (rfl : (_ : D) = _))
theorem rnot_ev (n : Int) : Ev E 46 [.int n] (.d (.int (2 - kn n))) := by
  have h := kn_cases n
  refine enter1 Tryz.func46 Tryz.ntmps46 rfl rfl fun w0 F0 => ?_
  repeat' (first
    | (refine go_step2 rfl ?_ ?_; (first | exact True.intro | rfl | assumption | omega | (simp only [inR]; omega) | exact tmod_ok (by omega) (by omega) | exact tdiv_ok (by omega) (by omega) | exact ⟨rfl, by decide, by decide⟩))
    | refine go_seq ?_
    | refine go_region rfl ?_
    | refine go_region_draw (by kernel_rfl) ?_
    | refine SGo.nil ?_
    | refine go_skip ?_
    | refine go_block ?_
    | refine go_blk ?_
    | refine go_exit_ rfl ?_
    | refine go_call rfl rfl rfl rfl rfl rfl b87 (tri_ev n) ?_
    | (refine go_cond_t rfl ?_ ?_; (first | rfl | assumption))
    | (refine go_cond_f rfl ?_ ?_; (first | rfl | assumption))
    | refine ret1 rfl rfl ?_
    | refine ret2 rfl rfl rfl ?_
    | refine go_gset (b' := true) rfl rfl rfl rfl (by assumption) ?_
    | refine go_gset (b' := false) rfl rfl rfl rfl (by assumption) ?_
    | (refine go_gsplit rfl rfl rfl rfl ?_ ?_ <;> intro _)
    | (refine go_cond rfl ?_ ?_ <;> intro _)
    | exact (rfl : (_ : D) = _))
theorem and_ev (a b : Int) : Ev E 47 [.int a, .int b] (.d (.int (min (kn a) (kn b)))) := by
  have h1 := kn_cases a
  have h2 := kn_cases b
  refine enter2 Tryz.func47 Tryz.ntmps47 rfl rfl fun w0 F0 => ?_
  repeat' (first
    | (refine go_step2 rfl ?_ ?_; (first | exact True.intro | rfl | assumption | omega | (simp only [inR]; omega) | exact tmod_ok (by omega) (by omega) | exact tdiv_ok (by omega) (by omega) | exact ⟨rfl, by decide, by decide⟩))
    | refine go_seq ?_
    | refine go_region rfl ?_
    | refine go_region_draw (by kernel_rfl) ?_
    | refine SGo.nil ?_
    | refine go_skip ?_
    | refine go_block ?_
    | refine go_blk ?_
    | refine go_exit_ rfl ?_
    | refine go_call rfl rfl rfl rfl rfl rfl b86 (known_ev a) ?_
    | refine go_call rfl rfl rfl rfl rfl rfl b86 (known_ev b) ?_
    | (refine go_cond_t rfl ?_ ?_; (first | rfl | assumption))
    | (refine go_cond_f rfl ?_ ?_; (first | rfl | assumption))
    | refine ret1 rfl rfl ?_
    | refine ret2 rfl rfl rfl ?_
    | refine go_gset (b' := true) rfl rfl rfl rfl (by assumption) ?_
    | refine go_gset (b' := false) rfl rfl rfl rfl (by assumption) ?_
    | (refine go_gsplit rfl rfl rfl rfl ?_ ?_ <;> intro _)
    | (refine go_cond rfl ?_ ?_ <;> intro _)
    | exact (rfl : (_ : D) = _))
theorem rand_ev (a b : Int) : Ev E 49 [.int a, .int b] (.d (.int (min (kn a) (kn b)))) := by
  have h1 := kn_cases a
  have h2 := kn_cases b
  refine enter2 Tryz.func49 Tryz.ntmps49 rfl rfl fun w0 F0 => ?_
  repeat' (first
    | (refine go_step2 rfl ?_ ?_; (first | exact True.intro | rfl | assumption | omega | (simp only [inR]; omega) | exact tmod_ok (by omega) (by omega) | exact tdiv_ok (by omega) (by omega) | exact ⟨rfl, by decide, by decide⟩))
    | refine go_seq ?_
    | refine go_region rfl ?_
    | refine go_region_draw (by kernel_rfl) ?_
    | refine SGo.nil ?_
    | refine go_skip ?_
    | refine go_block ?_
    | refine go_blk ?_
    | refine go_exit_ rfl ?_
    | refine go_call rfl rfl rfl rfl rfl rfl b87 (tri_ev a) ?_
    | refine go_call rfl rfl rfl rfl rfl rfl b87 (tri_ev b) ?_
    | (refine go_cond_t rfl ?_ ?_; (first | rfl | assumption))
    | (refine go_cond_f rfl ?_ ?_; (first | rfl | assumption))
    | refine ret1 rfl rfl ?_
    | refine ret2 rfl rfl rfl ?_
    | refine go_gset (b' := true) rfl rfl rfl rfl (by assumption) ?_
    | refine go_gset (b' := false) rfl rfl rfl rfl (by assumption) ?_
    | (refine go_gsplit rfl rfl rfl rfl ?_ ?_ <;> intro _)
    | (refine go_cond rfl ?_ ?_ <;> intro _)
    | exact (rfl : (_ : D) = _))
theorem or_ev (a b : Int) : Ev E 48 [.int a, .int b] (.d (.int (max (kn a) (kn b)))) := by
  have h1 := kn_cases a
  have h2 := kn_cases b
  refine enter2 Tryz.func48 Tryz.ntmps48 rfl rfl fun w0 F0 => ?_
  repeat' (first
    | (refine go_step2 rfl ?_ ?_; (first | exact True.intro | rfl | assumption | omega | (simp only [inR]; omega) | exact tmod_ok (by omega) (by omega) | exact tdiv_ok (by omega) (by omega) | exact ⟨rfl, by decide, by decide⟩))
    | refine go_seq ?_
    | refine go_region rfl ?_
    | refine go_region_draw (by kernel_rfl) ?_
    | refine SGo.nil ?_
    | refine go_skip ?_
    | refine go_block ?_
    | refine go_blk ?_
    | refine go_exit_ rfl ?_
    | refine go_call rfl rfl rfl rfl rfl rfl b86 (known_ev a) ?_
    | refine go_call rfl rfl rfl rfl rfl rfl b86 (known_ev b) ?_
    | (refine go_cond_t rfl ?_ ?_; (first | rfl | assumption))
    | (refine go_cond_f rfl ?_ ?_; (first | rfl | assumption))
    | refine ret1 rfl rfl ?_
    | refine ret2 rfl rfl rfl ?_
    | refine go_gset (b' := true) rfl rfl rfl rfl (by assumption) ?_
    | refine go_gset (b' := false) rfl rfl rfl rfl (by assumption) ?_
    | (refine go_gsplit rfl rfl rfl rfl ?_ ?_ <;> intro _)
    | (refine go_cond rfl ?_ ?_ <;> intro _)
    | exact (rfl : (_ : D) = _))
theorem ror_ev (a b : Int) : Ev E 50 [.int a, .int b] (.d (.int (max (kn a) (kn b)))) := by
  have h1 := kn_cases a
  have h2 := kn_cases b
  refine enter2 Tryz.func50 Tryz.ntmps50 rfl rfl fun w0 F0 => ?_
  repeat' (first
    | (refine go_step2 rfl ?_ ?_; (first | exact True.intro | rfl | assumption | omega | (simp only [inR]; omega) | exact tmod_ok (by omega) (by omega) | exact tdiv_ok (by omega) (by omega) | exact ⟨rfl, by decide, by decide⟩))
    | refine go_seq ?_
    | refine go_region rfl ?_
    | refine go_region_draw (by kernel_rfl) ?_
    | refine SGo.nil ?_
    | refine go_skip ?_
    | refine go_block ?_
    | refine go_blk ?_
    | refine go_exit_ rfl ?_
    | refine go_call rfl rfl rfl rfl rfl rfl b87 (tri_ev a) ?_
    | refine go_call rfl rfl rfl rfl rfl rfl b87 (tri_ev b) ?_
    | (refine go_cond_t rfl ?_ ?_; (first | rfl | assumption))
    | (refine go_cond_f rfl ?_ ?_; (first | rfl | assumption))
    | refine ret1 rfl rfl ?_
    | refine ret2 rfl rfl rfl ?_
    | refine go_gset (b' := true) rfl rfl rfl rfl (by assumption) ?_
    | refine go_gset (b' := false) rfl rfl rfl rfl (by assumption) ?_
    | (refine go_gsplit rfl rfl rfl rfl ?_ ?_ <;> intro _)
    | (refine go_cond rfl ?_ ?_ <;> intro _)
    | exact (rfl : (_ : D) = _))
theorem null_ev : Ev E 17 [] (.d (enc vNull)) := by
  refine enter0 Tryz.func17 Tryz.ntmps17 rfl rfl fun w0 F0 => ?_
  repeat' (first
    | (refine go_step2 rfl ?_ ?_; (first | exact True.intro | rfl | assumption | omega | (simp only [inR]; omega) | exact tmod_ok (by omega) (by omega) | exact tdiv_ok (by omega) (by omega) | exact ⟨rfl, by decide, by decide⟩))
    | refine go_seq ?_
    | refine go_region rfl ?_
    | refine go_region_draw (by kernel_rfl) ?_
    | refine SGo.nil ?_
    | refine go_skip ?_
    | refine go_block ?_
    | refine go_blk ?_
    | refine go_exit_ rfl ?_
    | (refine go_cond_t rfl ?_ ?_; (first | rfl | assumption))
    | (refine go_cond_f rfl ?_ ?_; (first | rfl | assumption))
    | refine ret1 rfl rfl ?_
    | refine ret2 rfl rfl rfl ?_
    | refine go_gset (b' := true) rfl rfl rfl rfl (by assumption) ?_
    | refine go_gset (b' := false) rfl rfl rfl rfl (by assumption) ?_
    | (refine go_gsplit rfl rfl rfl rfl ?_ ?_ <;> intro _)
    | (refine go_cond rfl ?_ ?_ <;> intro _)
    | exact (rfl : (_ : D) = _))
theorem rnull_ev : Ev E 18 [] (.d (enc vNull)) := by
  refine enter0 Tryz.func18 Tryz.ntmps18 rfl rfl fun w0 F0 => ?_
  repeat' (first
    | (refine go_step2 rfl ?_ ?_; (first | exact True.intro | rfl | assumption | omega | (simp only [inR]; omega) | exact tmod_ok (by omega) (by omega) | exact tdiv_ok (by omega) (by omega) | exact ⟨rfl, by decide, by decide⟩))
    | refine go_seq ?_
    | refine go_region rfl ?_
    | refine go_region_draw (by kernel_rfl) ?_
    | refine SGo.nil ?_
    | refine go_skip ?_
    | refine go_block ?_
    | refine go_blk ?_
    | refine go_exit_ rfl ?_
    | (refine go_cond_t rfl ?_ ?_; (first | rfl | assumption))
    | (refine go_cond_f rfl ?_ ?_; (first | rfl | assumption))
    | refine ret1 rfl rfl ?_
    | refine ret2 rfl rfl rfl ?_
    | refine go_gset (b' := true) rfl rfl rfl rfl (by assumption) ?_
    | refine go_gset (b' := false) rfl rfl rfl rfl (by assumption) ?_
    | (refine go_gsplit rfl rfl rfl rfl ?_ ?_ <;> intro _)
    | (refine go_cond rfl ?_ ?_ <;> intro _)
    | exact (rfl : (_ : D) = _))
theorem bool_ev (b : Bool) : Ev E 19 [.bool b] (.d (enc (vBool b))) := by
  cases b
  · refine enter1 Tryz.func19 Tryz.ntmps19 rfl rfl fun w0 F0 => ?_
    repeat' (first
      | (refine go_step2 rfl ?_ ?_; (first | exact True.intro | rfl | assumption | omega | (simp only [inR]; omega) | exact tmod_ok (by omega) (by omega) | exact tdiv_ok (by omega) (by omega) | exact ⟨rfl, by decide, by decide⟩))
      | refine go_seq ?_
      | refine go_region rfl ?_
      | refine go_region_draw (by kernel_rfl) ?_
      | refine SGo.nil ?_
      | refine go_skip ?_
      | refine go_block ?_
      | refine go_blk ?_
      | refine go_exit_ rfl ?_
      | (refine go_cond_t rfl ?_ ?_; (first | rfl | assumption))
      | (refine go_cond_f rfl ?_ ?_; (first | rfl | assumption))
      | refine ret1 rfl rfl ?_
      | refine ret2 rfl rfl rfl ?_
      | refine go_gset (b' := true) rfl rfl rfl rfl (by assumption) ?_
      | refine go_gset (b' := false) rfl rfl rfl rfl (by assumption) ?_
      | (refine go_gsplit rfl rfl rfl rfl ?_ ?_ <;> intro _)
      | (refine go_cond rfl ?_ ?_ <;> intro _)
      | exact (rfl : (_ : D) = _))
  · refine enter1 Tryz.func19 Tryz.ntmps19 rfl rfl fun w0 F0 => ?_
    repeat' (first
      | (refine go_step2 rfl ?_ ?_; (first | exact True.intro | rfl | assumption | omega | (simp only [inR]; omega) | exact tmod_ok (by omega) (by omega) | exact tdiv_ok (by omega) (by omega) | exact ⟨rfl, by decide, by decide⟩))
      | refine go_seq ?_
      | refine go_region rfl ?_
      | refine go_region_draw (by kernel_rfl) ?_
      | refine SGo.nil ?_
      | refine go_skip ?_
      | refine go_block ?_
      | refine go_blk ?_
      | refine go_exit_ rfl ?_
      | (refine go_cond_t rfl ?_ ?_; (first | rfl | assumption))
      | (refine go_cond_f rfl ?_ ?_; (first | rfl | assumption))
      | refine ret1 rfl rfl ?_
      | refine ret2 rfl rfl rfl ?_
      | refine go_gset (b' := true) rfl rfl rfl rfl (by assumption) ?_
      | refine go_gset (b' := false) rfl rfl rfl rfl (by assumption) ?_
      | (refine go_gsplit rfl rfl rfl rfl ?_ ?_ <;> intro _)
      | (refine go_cond rfl ?_ ?_ <;> intro _)
      | exact (rfl : (_ : D) = _))
theorem rbool_ev (b : Bool) : Ev E 20 [.bool b] (.d (enc (vBool b))) := by
  cases b
  · refine enter1 Tryz.func20 Tryz.ntmps20 rfl rfl fun w0 F0 => ?_
    repeat' (first
      | (refine go_step2 rfl ?_ ?_; (first | exact True.intro | rfl | assumption | omega | (simp only [inR]; omega) | exact tmod_ok (by omega) (by omega) | exact tdiv_ok (by omega) (by omega) | exact ⟨rfl, by decide, by decide⟩))
      | refine go_seq ?_
      | refine go_region rfl ?_
      | refine go_region_draw (by kernel_rfl) ?_
      | refine SGo.nil ?_
      | refine go_skip ?_
      | refine go_block ?_
      | refine go_blk ?_
      | refine go_exit_ rfl ?_
      | (refine go_cond_t rfl ?_ ?_; (first | rfl | assumption))
      | (refine go_cond_f rfl ?_ ?_; (first | rfl | assumption))
      | refine ret1 rfl rfl ?_
      | refine ret2 rfl rfl rfl ?_
      | refine go_gset (b' := true) rfl rfl rfl rfl (by assumption) ?_
      | refine go_gset (b' := false) rfl rfl rfl rfl (by assumption) ?_
      | (refine go_gsplit rfl rfl rfl rfl ?_ ?_ <;> intro _)
      | (refine go_cond rfl ?_ ?_ <;> intro _)
      | exact (rfl : (_ : D) = _))
  · refine enter1 Tryz.func20 Tryz.ntmps20 rfl rfl fun w0 F0 => ?_
    repeat' (first
      | (refine go_step2 rfl ?_ ?_; (first | exact True.intro | rfl | assumption | omega | (simp only [inR]; omega) | exact tmod_ok (by omega) (by omega) | exact tdiv_ok (by omega) (by omega) | exact ⟨rfl, by decide, by decide⟩))
      | refine go_seq ?_
      | refine go_region rfl ?_
      | refine go_region_draw (by kernel_rfl) ?_
      | refine SGo.nil ?_
      | refine go_skip ?_
      | refine go_block ?_
      | refine go_blk ?_
      | refine go_exit_ rfl ?_
      | (refine go_cond_t rfl ?_ ?_; (first | rfl | assumption))
      | (refine go_cond_f rfl ?_ ?_; (first | rfl | assumption))
      | refine ret1 rfl rfl ?_
      | refine ret2 rfl rfl rfl ?_
      | refine go_gset (b' := true) rfl rfl rfl rfl (by assumption) ?_
      | refine go_gset (b' := false) rfl rfl rfl rfl (by assumption) ?_
      | (refine go_gsplit rfl rfl rfl rfl ?_ ?_ <;> intro _)
      | (refine go_cond rfl ?_ ?_ <;> intro _)
      | exact (rfl : (_ : D) = _))
theorem int_ev (n : Int) : Ev E 21 [.int n] (.d (enc (vInt n))) := by
  refine enter1 Tryz.func21 Tryz.ntmps21 rfl rfl fun w0 F0 => ?_
  repeat' (first
    | (refine go_step2 rfl ?_ ?_; (first | exact True.intro | rfl | assumption | omega | (simp only [inR]; omega) | exact tmod_ok (by omega) (by omega) | exact tdiv_ok (by omega) (by omega) | exact ⟨rfl, by decide, by decide⟩))
    | refine go_seq ?_
    | refine go_region rfl ?_
    | refine go_region_draw (by kernel_rfl) ?_
    | refine SGo.nil ?_
    | refine go_skip ?_
    | refine go_block ?_
    | refine go_blk ?_
    | refine go_exit_ rfl ?_
    | (refine go_cond_t rfl ?_ ?_; (first | rfl | assumption))
    | (refine go_cond_f rfl ?_ ?_; (first | rfl | assumption))
    | refine ret1 rfl rfl ?_
    | refine ret2 rfl rfl rfl ?_
    | refine go_gset (b' := true) rfl rfl rfl rfl (by assumption) ?_
    | refine go_gset (b' := false) rfl rfl rfl rfl (by assumption) ?_
    | (refine go_gsplit rfl rfl rfl rfl ?_ ?_ <;> intro _)
    | (refine go_cond rfl ?_ ?_ <;> intro _)
    | exact (rfl : (_ : D) = _))
theorem rint_ev (n : Int) : Ev E 22 [.int n] (.d (enc (vInt n))) := by
  refine enter1 Tryz.func22 Tryz.ntmps22 rfl rfl fun w0 F0 => ?_
  repeat' (first
    | (refine go_step2 rfl ?_ ?_; (first | exact True.intro | rfl | assumption | omega | (simp only [inR]; omega) | exact tmod_ok (by omega) (by omega) | exact tdiv_ok (by omega) (by omega) | exact ⟨rfl, by decide, by decide⟩))
    | refine go_seq ?_
    | refine go_region rfl ?_
    | refine go_region_draw (by kernel_rfl) ?_
    | refine SGo.nil ?_
    | refine go_skip ?_
    | refine go_block ?_
    | refine go_blk ?_
    | refine go_exit_ rfl ?_
    | (refine go_cond_t rfl ?_ ?_; (first | rfl | assumption))
    | (refine go_cond_f rfl ?_ ?_; (first | rfl | assumption))
    | refine ret1 rfl rfl ?_
    | refine ret2 rfl rfl rfl ?_
    | refine go_gset (b' := true) rfl rfl rfl rfl (by assumption) ?_
    | refine go_gset (b' := false) rfl rfl rfl rfl (by assumption) ?_
    | (refine go_gsplit rfl rfl rfl rfl ?_ ?_ <;> intro _)
    | (refine go_cond rfl ?_ ?_ <;> intro _)
    | exact (rfl : (_ : D) = _))
theorem str_ev (s : ByteArray) : Ev E 25 [.str s] (.d (enc (vStr s))) := by
  refine enter1 Tryz.func25 Tryz.ntmps25 rfl rfl fun w0 F0 => ?_
  repeat' (first
    | (refine go_step2 rfl ?_ ?_; (first | exact True.intro | rfl | assumption | omega | (simp only [inR]; omega) | exact tmod_ok (by omega) (by omega) | exact tdiv_ok (by omega) (by omega) | exact ⟨rfl, by decide, by decide⟩))
    | refine go_seq ?_
    | refine go_region rfl ?_
    | refine go_region_draw (by kernel_rfl) ?_
    | refine SGo.nil ?_
    | refine go_skip ?_
    | refine go_block ?_
    | refine go_blk ?_
    | refine go_exit_ rfl ?_
    | (refine go_cond_t rfl ?_ ?_; (first | rfl | assumption))
    | (refine go_cond_f rfl ?_ ?_; (first | rfl | assumption))
    | refine ret1 rfl rfl ?_
    | refine ret2 rfl rfl rfl ?_
    | refine go_gset (b' := true) rfl rfl rfl rfl (by assumption) ?_
    | refine go_gset (b' := false) rfl rfl rfl rfl (by assumption) ?_
    | (refine go_gsplit rfl rfl rfl rfl ?_ ?_ <;> intro _)
    | (refine go_cond rfl ?_ ?_ <;> intro _)
    | exact (rfl : (_ : D) = _))
theorem rstr_ev (s : ByteArray) : Ev E 26 [.str s] (.d (enc (vStr s))) := by
  refine enter1 Tryz.func26 Tryz.ntmps26 rfl rfl fun w0 F0 => ?_
  repeat' (first
    | (refine go_step2 rfl ?_ ?_; (first | exact True.intro | rfl | assumption | omega | (simp only [inR]; omega) | exact tmod_ok (by omega) (by omega) | exact tdiv_ok (by omega) (by omega) | exact ⟨rfl, by decide, by decide⟩))
    | refine go_seq ?_
    | refine go_region rfl ?_
    | refine go_region_draw (by kernel_rfl) ?_
    | refine SGo.nil ?_
    | refine go_skip ?_
    | refine go_block ?_
    | refine go_blk ?_
    | refine go_exit_ rfl ?_
    | (refine go_cond_t rfl ?_ ?_; (first | rfl | assumption))
    | (refine go_cond_f rfl ?_ ?_; (first | rfl | assumption))
    | refine ret1 rfl rfl ?_
    | refine ret2 rfl rfl rfl ?_
    | refine go_gset (b' := true) rfl rfl rfl rfl (by assumption) ?_
    | refine go_gset (b' := false) rfl rfl rfl rfl (by assumption) ?_
    | (refine go_gsplit rfl rfl rfl rfl ?_ ?_ <;> intro _)
    | (refine go_cond rfl ?_ ?_ <;> intro _)
    | exact (rfl : (_ : D) = _))
theorem node_ev (n : Int) : Ev E 27 [.int n] (.d (enc (vNode n))) := by
  refine enter1 Tryz.func27 Tryz.ntmps27 rfl rfl fun w0 F0 => ?_
  repeat' (first
    | (refine go_step2 rfl ?_ ?_; (first | exact True.intro | rfl | assumption | omega | (simp only [inR]; omega) | exact tmod_ok (by omega) (by omega) | exact tdiv_ok (by omega) (by omega) | exact ⟨rfl, by decide, by decide⟩))
    | refine go_seq ?_
    | refine go_region rfl ?_
    | refine go_region_draw (by kernel_rfl) ?_
    | refine SGo.nil ?_
    | refine go_skip ?_
    | refine go_block ?_
    | refine go_blk ?_
    | refine go_exit_ rfl ?_
    | (refine go_cond_t rfl ?_ ?_; (first | rfl | assumption))
    | (refine go_cond_f rfl ?_ ?_; (first | rfl | assumption))
    | refine ret1 rfl rfl ?_
    | refine ret2 rfl rfl rfl ?_
    | refine go_gset (b' := true) rfl rfl rfl rfl (by assumption) ?_
    | refine go_gset (b' := false) rfl rfl rfl rfl (by assumption) ?_
    | (refine go_gsplit rfl rfl rfl rfl ?_ ?_ <;> intro _)
    | (refine go_cond rfl ?_ ?_ <;> intro _)
    | exact (rfl : (_ : D) = _))
theorem rnode_ev (n : Int) : Ev E 28 [.int n] (.d (enc (vNode n))) := by
  refine enter1 Tryz.func28 Tryz.ntmps28 rfl rfl fun w0 F0 => ?_
  repeat' (first
    | (refine go_step2 rfl ?_ ?_; (first | exact True.intro | rfl | assumption | omega | (simp only [inR]; omega) | exact tmod_ok (by omega) (by omega) | exact tdiv_ok (by omega) (by omega) | exact ⟨rfl, by decide, by decide⟩))
    | refine go_seq ?_
    | refine go_region rfl ?_
    | refine go_region_draw (by kernel_rfl) ?_
    | refine SGo.nil ?_
    | refine go_skip ?_
    | refine go_block ?_
    | refine go_blk ?_
    | refine go_exit_ rfl ?_
    | (refine go_cond_t rfl ?_ ?_; (first | rfl | assumption))
    | (refine go_cond_f rfl ?_ ?_; (first | rfl | assumption))
    | refine ret1 rfl rfl ?_
    | refine ret2 rfl rfl rfl ?_
    | refine go_gset (b' := true) rfl rfl rfl rfl (by assumption) ?_
    | refine go_gset (b' := false) rfl rfl rfl rfl (by assumption) ?_
    | (refine go_gsplit rfl rfl rfl rfl ?_ ?_ <;> intro _)
    | (refine go_cond rfl ?_ ?_ <;> intro _)
    | exact (rfl : (_ : D) = _))
theorem edge_ev (n : Int) : Ev E 29 [.int n] (.d (enc (vEdge n))) := by
  refine enter1 Tryz.func29 Tryz.ntmps29 rfl rfl fun w0 F0 => ?_
  repeat' (first
    | (refine go_step2 rfl ?_ ?_; (first | exact True.intro | rfl | assumption | omega | (simp only [inR]; omega) | exact tmod_ok (by omega) (by omega) | exact tdiv_ok (by omega) (by omega) | exact ⟨rfl, by decide, by decide⟩))
    | refine go_seq ?_
    | refine go_region rfl ?_
    | refine go_region_draw (by kernel_rfl) ?_
    | refine SGo.nil ?_
    | refine go_skip ?_
    | refine go_block ?_
    | refine go_blk ?_
    | refine go_exit_ rfl ?_
    | (refine go_cond_t rfl ?_ ?_; (first | rfl | assumption))
    | (refine go_cond_f rfl ?_ ?_; (first | rfl | assumption))
    | refine ret1 rfl rfl ?_
    | refine ret2 rfl rfl rfl ?_
    | refine go_gset (b' := true) rfl rfl rfl rfl (by assumption) ?_
    | refine go_gset (b' := false) rfl rfl rfl rfl (by assumption) ?_
    | (refine go_gsplit rfl rfl rfl rfl ?_ ?_ <;> intro _)
    | (refine go_cond rfl ?_ ?_ <;> intro _)
    | exact (rfl : (_ : D) = _))
theorem redge_ev (n : Int) : Ev E 30 [.int n] (.d (enc (vEdge n))) := by
  refine enter1 Tryz.func30 Tryz.ntmps30 rfl rfl fun w0 F0 => ?_
  repeat' (first
    | (refine go_step2 rfl ?_ ?_; (first | exact True.intro | rfl | assumption | omega | (simp only [inR]; omega) | exact tmod_ok (by omega) (by omega) | exact tdiv_ok (by omega) (by omega) | exact ⟨rfl, by decide, by decide⟩))
    | refine go_seq ?_
    | refine go_region rfl ?_
    | refine go_region_draw (by kernel_rfl) ?_
    | refine SGo.nil ?_
    | refine go_skip ?_
    | refine go_block ?_
    | refine go_blk ?_
    | refine go_exit_ rfl ?_
    | (refine go_cond_t rfl ?_ ?_; (first | rfl | assumption))
    | (refine go_cond_f rfl ?_ ?_; (first | rfl | assumption))
    | refine ret1 rfl rfl ?_
    | refine ret2 rfl rfl rfl ?_
    | refine go_gset (b' := true) rfl rfl rfl rfl (by assumption) ?_
    | refine go_gset (b' := false) rfl rfl rfl rfl (by assumption) ?_
    | (refine go_gsplit rfl rfl rfl rfl ?_ ?_ <;> intro _)
    | (refine go_cond rfl ?_ ?_ <;> intro _)
    | exact (rfl : (_ : D) = _))
theorem rat_ev (n d : Int) : Ev E 23 [.agg [.int n, .int d]] (.d (enc (vRat n d))) := by
  cases h : d == 1 with
  | true =>
    refine enter1 Tryz.func23 Tryz.ntmps23 rfl rfl fun w0 F0 => ?_
    repeat' (first
      | (refine go_step2 rfl ?_ ?_; (first | exact True.intro | rfl | assumption | omega | (simp only [inR]; omega) | exact tmod_ok (by omega) (by omega) | exact tdiv_ok (by omega) (by omega) | exact ⟨rfl, by decide, by decide⟩))
      | refine go_seq ?_
      | refine go_region rfl ?_
      | refine go_region_draw (by kernel_rfl) ?_
      | refine SGo.nil ?_
      | refine go_skip ?_
      | refine go_block ?_
      | refine go_blk ?_
      | refine go_exit_ rfl ?_
      | refine go_call rfl rfl rfl rfl rfl rfl b21 (int_ev n) ?_
      | (refine go_cond_t rfl ?_ ?_; (first | rfl | assumption))
      | (refine go_cond_f rfl ?_ ?_; (first | rfl | assumption))
      | refine ret1 rfl rfl ?_
      | refine ret2 rfl rfl rfl ?_
      | refine go_gset (b' := true) rfl rfl rfl rfl (by assumption) ?_
      | refine go_gset (b' := false) rfl rfl rfl rfl (by assumption) ?_
      | (refine go_gsplit rfl rfl rfl rfl ?_ ?_ <;> intro _)
      | (refine go_cond rfl ?_ ?_ <;> intro _)
      | exact (rfl : (_ : D) = _))
    all_goals (rw [show vRat n d = vInt n by simp [vRat, h]]; rfl)
  | false =>
    refine enter1 Tryz.func23 Tryz.ntmps23 rfl rfl fun w0 F0 => ?_
    repeat' (first
      | (refine go_step2 rfl ?_ ?_; (first | exact True.intro | rfl | assumption | omega | (simp only [inR]; omega) | exact tmod_ok (by omega) (by omega) | exact tdiv_ok (by omega) (by omega) | exact ⟨rfl, by decide, by decide⟩))
      | refine go_seq ?_
      | refine go_region rfl ?_
      | refine go_region_draw (by kernel_rfl) ?_
      | refine SGo.nil ?_
      | refine go_skip ?_
      | refine go_block ?_
      | refine go_blk ?_
      | refine go_exit_ rfl ?_
      | (refine go_cond_t rfl ?_ ?_; (first | rfl | assumption))
      | (refine go_cond_f rfl ?_ ?_; (first | rfl | assumption))
      | refine ret1 rfl rfl ?_
      | refine ret2 rfl rfl rfl ?_
      | refine go_gset (b' := true) rfl rfl rfl rfl (by assumption) ?_
      | refine go_gset (b' := false) rfl rfl rfl rfl (by assumption) ?_
      | (refine go_gsplit rfl rfl rfl rfl ?_ ?_ <;> intro _)
      | (refine go_cond rfl ?_ ?_ <;> intro _)
      | exact (rfl : (_ : D) = _))
    all_goals (rw [show vRat n d = V.mk 3 n d ⟨#[]⟩ [] by simp [vRat, h]]; rfl)
theorem rrat_ev (n d : Int) : Ev E 24 [.agg [.int n, .int d]] (.d (enc (vRat n d))) := by
  cases h : d == 1 with
  | true =>
    refine enter1 Tryz.func24 Tryz.ntmps24 rfl rfl fun w0 F0 => ?_
    repeat' (first
      | (refine go_step2 rfl ?_ ?_; (first | exact True.intro | rfl | assumption | omega | (simp only [inR]; omega) | exact tmod_ok (by omega) (by omega) | exact tdiv_ok (by omega) (by omega) | exact ⟨rfl, by decide, by decide⟩))
      | refine go_seq ?_
      | refine go_region rfl ?_
      | refine go_region_draw (by kernel_rfl) ?_
      | refine SGo.nil ?_
      | refine go_skip ?_
      | refine go_block ?_
      | refine go_blk ?_
      | refine go_exit_ rfl ?_
      | refine go_call rfl rfl rfl rfl rfl rfl b22 (rint_ev n) ?_
      | (refine go_cond_t rfl ?_ ?_; (first | rfl | assumption))
      | (refine go_cond_f rfl ?_ ?_; (first | rfl | assumption))
      | refine ret1 rfl rfl ?_
      | refine ret2 rfl rfl rfl ?_
      | refine go_gset (b' := true) rfl rfl rfl rfl (by assumption) ?_
      | refine go_gset (b' := false) rfl rfl rfl rfl (by assumption) ?_
      | (refine go_gsplit rfl rfl rfl rfl ?_ ?_ <;> intro _)
      | (refine go_cond rfl ?_ ?_ <;> intro _)
      | exact (rfl : (_ : D) = _))
    all_goals (rw [show vRat n d = vInt n by simp [vRat, h]]; rfl)
  | false =>
    refine enter1 Tryz.func24 Tryz.ntmps24 rfl rfl fun w0 F0 => ?_
    repeat' (first
      | (refine go_step2 rfl ?_ ?_; (first | exact True.intro | rfl | assumption | omega | (simp only [inR]; omega) | exact tmod_ok (by omega) (by omega) | exact tdiv_ok (by omega) (by omega) | exact ⟨rfl, by decide, by decide⟩))
      | refine go_seq ?_
      | refine go_region rfl ?_
      | refine go_region_draw (by kernel_rfl) ?_
      | refine SGo.nil ?_
      | refine go_skip ?_
      | refine go_block ?_
      | refine go_blk ?_
      | refine go_exit_ rfl ?_
      | (refine go_cond_t rfl ?_ ?_; (first | rfl | assumption))
      | (refine go_cond_f rfl ?_ ?_; (first | rfl | assumption))
      | refine ret1 rfl rfl ?_
      | refine ret2 rfl rfl rfl ?_
      | refine go_gset (b' := true) rfl rfl rfl rfl (by assumption) ?_
      | refine go_gset (b' := false) rfl rfl rfl rfl (by assumption) ?_
      | (refine go_gsplit rfl rfl rfl rfl ?_ ?_ <;> intro _)
      | (refine go_cond rfl ?_ ?_ <;> intro _)
      | exact (rfl : (_ : D) = _))
    all_goals (rw [show vRat n d = V.mk 3 n d ⟨#[]⟩ [] by simp [vRat, h]]; rfl)
theorem truth_ev (b : Bool) : Ev E 64 [.bool b] (.d (.int (tt b))) := by
  cases b
  · refine enter1 Tryz.func64 Tryz.ntmps64 rfl rfl fun w0 F0 => ?_
    repeat' (first
      | (refine go_step2 rfl ?_ ?_; (first | exact True.intro | rfl | assumption | omega | (simp only [inR]; omega) | exact tmod_ok (by omega) (by omega) | exact tdiv_ok (by omega) (by omega) | exact ⟨rfl, by decide, by decide⟩))
      | refine go_seq ?_
      | refine go_region rfl ?_
      | refine go_region_draw (by kernel_rfl) ?_
      | refine SGo.nil ?_
      | refine go_skip ?_
      | refine go_block ?_
      | refine go_blk ?_
      | refine go_exit_ rfl ?_
      | (refine go_cond_t rfl ?_ ?_; (first | rfl | assumption))
      | (refine go_cond_f rfl ?_ ?_; (first | rfl | assumption))
      | refine ret1 rfl rfl ?_
      | refine ret2 rfl rfl rfl ?_
      | refine go_gset (b' := true) rfl rfl rfl rfl (by assumption) ?_
      | refine go_gset (b' := false) rfl rfl rfl rfl (by assumption) ?_
      | (refine go_gsplit rfl rfl rfl rfl ?_ ?_ <;> intro _)
      | (refine go_cond rfl ?_ ?_ <;> intro _)
      | exact (rfl : (_ : D) = _))
  · refine enter1 Tryz.func64 Tryz.ntmps64 rfl rfl fun w0 F0 => ?_
    repeat' (first
      | (refine go_step2 rfl ?_ ?_; (first | exact True.intro | rfl | assumption | omega | (simp only [inR]; omega) | exact tmod_ok (by omega) (by omega) | exact tdiv_ok (by omega) (by omega) | exact ⟨rfl, by decide, by decide⟩))
      | refine go_seq ?_
      | refine go_region rfl ?_
      | refine go_region_draw (by kernel_rfl) ?_
      | refine SGo.nil ?_
      | refine go_skip ?_
      | refine go_block ?_
      | refine go_blk ?_
      | refine go_exit_ rfl ?_
      | (refine go_cond_t rfl ?_ ?_; (first | rfl | assumption))
      | (refine go_cond_f rfl ?_ ?_; (first | rfl | assumption))
      | refine ret1 rfl rfl ?_
      | refine ret2 rfl rfl rfl ?_
      | refine go_gset (b' := true) rfl rfl rfl rfl (by assumption) ?_
      | refine go_gset (b' := false) rfl rfl rfl rfl (by assumption) ?_
      | (refine go_gsplit rfl rfl rfl rfl ?_ ?_ <;> intro _)
      | (refine go_cond rfl ?_ ?_ <;> intro _)
      | exact (rfl : (_ : D) = _))
theorem yes_ev (b : Bool) : Ev E 62 [.bool b] (.d (.int (tt b))) := by
  cases b
  · refine enter1 Tryz.func62 Tryz.ntmps62 rfl rfl fun w0 F0 => ?_
    repeat' (first
      | (refine go_step2 rfl ?_ ?_; (first | exact True.intro | rfl | assumption | omega | (simp only [inR]; omega) | exact tmod_ok (by omega) (by omega) | exact tdiv_ok (by omega) (by omega) | exact ⟨rfl, by decide, by decide⟩))
      | refine go_seq ?_
      | refine go_region rfl ?_
      | refine go_region_draw (by kernel_rfl) ?_
      | refine SGo.nil ?_
      | refine go_skip ?_
      | refine go_block ?_
      | refine go_blk ?_
      | refine go_exit_ rfl ?_
      | (refine go_cond_t rfl ?_ ?_; (first | rfl | assumption))
      | (refine go_cond_f rfl ?_ ?_; (first | rfl | assumption))
      | refine ret1 rfl rfl ?_
      | refine ret2 rfl rfl rfl ?_
      | refine go_gset (b' := true) rfl rfl rfl rfl (by assumption) ?_
      | refine go_gset (b' := false) rfl rfl rfl rfl (by assumption) ?_
      | (refine go_gsplit rfl rfl rfl rfl ?_ ?_ <;> intro _)
      | (refine go_cond rfl ?_ ?_ <;> intro _)
      | exact (rfl : (_ : D) = _))
  · refine enter1 Tryz.func62 Tryz.ntmps62 rfl rfl fun w0 F0 => ?_
    repeat' (first
      | (refine go_step2 rfl ?_ ?_; (first | exact True.intro | rfl | assumption | omega | (simp only [inR]; omega) | exact tmod_ok (by omega) (by omega) | exact tdiv_ok (by omega) (by omega) | exact ⟨rfl, by decide, by decide⟩))
      | refine go_seq ?_
      | refine go_region rfl ?_
      | refine go_region_draw (by kernel_rfl) ?_
      | refine SGo.nil ?_
      | refine go_skip ?_
      | refine go_block ?_
      | refine go_blk ?_
      | refine go_exit_ rfl ?_
      | (refine go_cond_t rfl ?_ ?_; (first | rfl | assumption))
      | (refine go_cond_f rfl ?_ ?_; (first | rfl | assumption))
      | refine ret1 rfl rfl ?_
      | refine ret2 rfl rfl rfl ?_
      | refine go_gset (b' := true) rfl rfl rfl rfl (by assumption) ?_
      | refine go_gset (b' := false) rfl rfl rfl rfl (by assumption) ?_
      | (refine go_gsplit rfl rfl rfl rfl ?_ ?_ <;> intro _)
      | (refine go_cond rfl ?_ ?_ <;> intro _)
      | exact (rfl : (_ : D) = _))
theorem fromTruth_ev (t : Int) : Ev E 51 [.int t] (.d (enc (vTruth t))) := by
  cases h : kn t == 1 with
  | true =>
    refine enter1 Tryz.func51 Tryz.ntmps51 rfl rfl fun w0 F0 => ?_
    repeat' (first
      | (refine go_step2 rfl ?_ ?_; (first | exact True.intro | rfl | assumption | omega | (simp only [inR]; omega) | exact tmod_ok (by omega) (by omega) | exact tdiv_ok (by omega) (by omega) | exact ⟨rfl, by decide, by decide⟩))
      | refine go_seq ?_
      | refine go_region rfl ?_
      | refine go_region_draw (by kernel_rfl) ?_
      | refine SGo.nil ?_
      | refine go_skip ?_
      | refine go_block ?_
      | refine go_blk ?_
      | refine go_exit_ rfl ?_
      | refine go_call rfl rfl rfl rfl rfl rfl b86 (known_ev t) ?_
      | refine go_call rfl rfl rfl rfl rfl rfl b17 (null_ev) ?_
      | (refine go_cond_t rfl ?_ ?_; (first | rfl | assumption))
      | (refine go_cond_f rfl ?_ ?_; (first | rfl | assumption))
      | refine ret1 rfl rfl ?_
      | refine ret2 rfl rfl rfl ?_
      | refine go_gset (b' := true) rfl rfl rfl rfl (by assumption) ?_
      | refine go_gset (b' := false) rfl rfl rfl rfl (by assumption) ?_
      | (refine go_gsplit rfl rfl rfl rfl ?_ ?_ <;> intro _)
      | (refine go_cond rfl ?_ ?_ <;> intro _)
      | exact (rfl : (_ : D) = _))
    all_goals (rw [show vTruth t = vNull by simp [vTruth, h]]; rfl)
  | false =>
    refine enter1 Tryz.func51 Tryz.ntmps51 rfl rfl fun w0 F0 => ?_
    repeat' (first
      | (refine go_step2 rfl ?_ ?_; (first | exact True.intro | rfl | assumption | omega | (simp only [inR]; omega) | exact tmod_ok (by omega) (by omega) | exact tdiv_ok (by omega) (by omega) | exact ⟨rfl, by decide, by decide⟩))
      | refine go_seq ?_
      | refine go_region rfl ?_
      | refine go_region_draw (by kernel_rfl) ?_
      | refine SGo.nil ?_
      | refine go_skip ?_
      | refine go_block ?_
      | refine go_blk ?_
      | refine go_exit_ rfl ?_
      | refine go_call rfl rfl rfl rfl rfl rfl b86 (known_ev t) ?_
      | refine go_call rfl rfl rfl rfl rfl rfl b19 (bool_ev _) ?_
      | (refine go_cond_t rfl ?_ ?_; (first | rfl | assumption))
      | (refine go_cond_f rfl ?_ ?_; (first | rfl | assumption))
      | refine ret1 rfl rfl ?_
      | refine ret2 rfl rfl rfl ?_
      | refine go_gset (b' := true) rfl rfl rfl rfl (by assumption) ?_
      | refine go_gset (b' := false) rfl rfl rfl rfl (by assumption) ?_
      | (refine go_gsplit rfl rfl rfl rfl ?_ ?_ <;> intro _)
      | (refine go_cond rfl ?_ ?_ <;> intro _)
      | exact (rfl : (_ : D) = _))
    all_goals (rw [show vTruth t = vBool (t == 2) by simp [vTruth, h]]; rfl)
theorem rfromTruth_ev (t : Int) : Ev E 52 [.int t] (.d (enc (vTruth t))) := by
  cases h : kn t == 1 with
  | true =>
    refine enter1 Tryz.func52 Tryz.ntmps52 rfl rfl fun w0 F0 => ?_
    repeat' (first
      | (refine go_step2 rfl ?_ ?_; (first | exact True.intro | rfl | assumption | omega | (simp only [inR]; omega) | exact tmod_ok (by omega) (by omega) | exact tdiv_ok (by omega) (by omega) | exact ⟨rfl, by decide, by decide⟩))
      | refine go_seq ?_
      | refine go_region rfl ?_
      | refine go_region_draw (by kernel_rfl) ?_
      | refine SGo.nil ?_
      | refine go_skip ?_
      | refine go_block ?_
      | refine go_blk ?_
      | refine go_exit_ rfl ?_
      | refine go_call rfl rfl rfl rfl rfl rfl b87 (tri_ev t) ?_
      | refine go_call rfl rfl rfl rfl rfl rfl b18 (rnull_ev) ?_
      | (refine go_cond_t rfl ?_ ?_; (first | rfl | assumption))
      | (refine go_cond_f rfl ?_ ?_; (first | rfl | assumption))
      | refine ret1 rfl rfl ?_
      | refine ret2 rfl rfl rfl ?_
      | refine go_gset (b' := true) rfl rfl rfl rfl (by assumption) ?_
      | refine go_gset (b' := false) rfl rfl rfl rfl (by assumption) ?_
      | (refine go_gsplit rfl rfl rfl rfl ?_ ?_ <;> intro _)
      | (refine go_cond rfl ?_ ?_ <;> intro _)
      | exact (rfl : (_ : D) = _))
    all_goals (rw [show vTruth t = vNull by simp [vTruth, h]]; rfl)
  | false =>
    refine enter1 Tryz.func52 Tryz.ntmps52 rfl rfl fun w0 F0 => ?_
    repeat' (first
      | (refine go_step2 rfl ?_ ?_; (first | exact True.intro | rfl | assumption | omega | (simp only [inR]; omega) | exact tmod_ok (by omega) (by omega) | exact tdiv_ok (by omega) (by omega) | exact ⟨rfl, by decide, by decide⟩))
      | refine go_seq ?_
      | refine go_region rfl ?_
      | refine go_region_draw (by kernel_rfl) ?_
      | refine SGo.nil ?_
      | refine go_skip ?_
      | refine go_block ?_
      | refine go_blk ?_
      | refine go_exit_ rfl ?_
      | refine go_call rfl rfl rfl rfl rfl rfl b87 (tri_ev t) ?_
      | refine go_call rfl rfl rfl rfl rfl rfl b20 (rbool_ev _) ?_
      | (refine go_cond_t rfl ?_ ?_; (first | rfl | assumption))
      | (refine go_cond_f rfl ?_ ?_; (first | rfl | assumption))
      | refine ret1 rfl rfl ?_
      | refine ret2 rfl rfl rfl ?_
      | refine go_gset (b' := true) rfl rfl rfl rfl (by assumption) ?_
      | refine go_gset (b' := false) rfl rfl rfl rfl (by assumption) ?_
      | (refine go_gsplit rfl rfl rfl rfl ?_ ?_ <;> intro _)
      | (refine go_cond rfl ?_ ?_ <;> intro _)
      | exact (rfl : (_ : D) = _))
    all_goals (rw [show vTruth t = vBool (t == 2) by simp [vTruth, h]]; rfl)
end Go.Proofs.YtpjnngfjbcjikaaGreatDoor
