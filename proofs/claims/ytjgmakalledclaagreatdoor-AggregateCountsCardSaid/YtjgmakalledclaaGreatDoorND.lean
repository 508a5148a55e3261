/- Division of a double word by a word, as the library does it: two digits, each guessed and set right; The library's division of a double word by a word; Quotients and remainders of wide numbers, bounded products, and the reference's long division; The reference's long division and its narrowing of wide numbers; Sums of fractions: what both texts compute; the program's; Sums of fractions by the reference; Products of fractions, by both texts; Quotients of fractions by the program; The reference's bounded integers; Products of fractions by the reference; Sums and differences of fractions by the p. Conditions: each part's own, as it says. -/
import Derived.Test.YtjgmakalledclaaGreatDoorMA
import Derived.Test.YtjgmakalledclaaGreatDoorGB
import Derived.Test.YtjgmakalledclaaGreatDoorMB
import Derived.Test.YtjgmakalledclaaGreatDoorGC
import Derived.Test.YtjgmakalledclaaGreatDoorMC
set_option linter.unusedVariables false
set_option linter.unusedSimpArgs false
namespace Go.Proofs.YtjgmakalledclaaGreatDoor
set_option maxRecDepth 4000
open Go Go.Abs Go.Val Go.RowKit Go.Proofs.Tryz
attribute [local irreducible] go SGo HasBody Ev ExtEv EvO EvS
theorem kn_mul (q y1 y0 : Nat) : q * (y1 * 4294967296 + y0) = (q * y1) * 4294967296 + q * y0 := by rw [Nat.mul_add, Nat.mul_assoc]
theorem kn_ge {u un1 y1 y0 : Nat} (h1 : 0 < y1) (hu : un1 < 4294967296) : (u * 4294967296 + un1) / (y1 * 4294967296 + y0) ≤ u / y1 := by
 rw [Nat.le_div_iff_mul_le h1]
 have h := Nat.div_mul_le_self (u * 4294967296 + un1) (y1 * 4294967296 + y0)
 rw [kn_mul] at h
 omega
theorem kn_gt {u un1 y1 y0 q r : Nat} (h : q * y1 + r = u) (hN : u < y1 * 4294967296 + y0) (hu : un1 < 4294967296) (hc : 4294967296 ≤ q ∨ 4294967296 * r + un1 < q * y0) :
  (u * 4294967296 + un1) / (y1 * 4294967296 + y0) < q := by
 rw [Nat.div_lt_iff_lt_mul (by omega)]
 rcases hc with hc | hc
 ·have : 4294967296 * (y1 * 4294967296 + y0) ≤ q * (y1 * 4294967296 + y0) := Nat.mul_le_mul_right _ hc
  omega
 ·rw [kn_mul]
  omega
theorem kn_le {u un1 y1 y0 q r : Nat} (h1 : 0 < y1) (h : q * y1 + r = u) (hc : q * y0 ≤ 4294967296 * r + un1) : q ≤ (u * 4294967296 + un1) / (y1 * 4294967296 + y0) := by
 rw [Nat.le_div_iff_mul_le (by omega), kn_mul]
 omega
theorem kn_brk {u un1 y1 y0 q r : Nat} (h1 : 0 < y1) (h : q * y1 + r = u) (hN : u < y1 * 4294967296 + y0) (h0 : y0 < 4294967296) (hr : 4294967296 ≤ r) : q < 4294967296 ∧ q * y0 ≤ 4294967296 * r + un1 := by
 have hq : q < 4294967296 := by
  rcases Nat.lt_or_ge q 4294967296 with hq | hq
  ·exact hq
  ·have := Nat.mul_le_mul_right y1 hq
   omega
 refine ⟨hq, ?_⟩
 have : q * y0 ≤ 4294967296 * 4294967296 := Nat.mul_le_mul (by omega) (by omega)
 omega
theorem kn_top {u y1 y0 : Nat} (h1 : 2147483648 ≤ y1) (hN : u < y1 * 4294967296 + y0) (h0 : y0 < 4294967296) : u / y1 ≤ 4294967297 := by
 rw [← Nat.lt_succ_iff, Nat.div_lt_iff_lt_mul (by omega)]
 omega
theorem bl_bnd : ∀ (f x : Nat), x ≠ 0 → x < 2 ^ f → 1 ≤ Lib.bitLenAux f x ∧ Lib.bitLenAux f x ≤ f ∧ 2 ^ Lib.bitLenAux f x ≤ 2 * x ∧ x < 2 ^ Lib.bitLenAux f x
 | 0, x, h0, h => by simp at h; exact absurd h h0
 | f + 1, x, h0, h => by
  simp only [Lib.bitLenAux, if_neg h0]
  by_cases h1 : x / 2 = 0
  ·have : x = 1 := by omega
   subst this
   cases f <;> simp [Lib.bitLenAux]
  ·obtain ⟨a1, a2, a3, a4⟩ := bl_bnd f (x / 2) h1 (by rw [Nat.pow_succ] at h; omega)
   refine ⟨by omega, by omega, ?_, ?_⟩
   ·rw [Nat.add_comm, Nat.pow_succ]; omega
   ·rw [Nat.add_comm 1, Nat.pow_succ]; omega
theorem lz_ev (y : Nat) (h0 : 0 < y) (h1 : y < 18446744073709551616) : ∃ s : Nat, s ≤ 63 ∧ 9223372036854775808 ≤ y * 2 ^ s ∧ y * 2 ^ s < 18446744073709551616 ∧ Ev E 222 [.imm (.int .u64 (y : Int))] (.d (.int (s : Int))) := by
 obtain ⟨b1, b2, b3, b4⟩ := bl_bnd 64 y (by omega) (by omega)
 have e64 : (2 : Nat) ^ Lib.bitLen y * 2 ^ (64 - Lib.bitLen y) = 18446744073709551616 := by
  rw [← Nat.pow_add, show Lib.bitLen y + (64 - Lib.bitLen y) = 64 by unfold Lib.bitLen; omega]
 have hp : 0 < 2 ^ (64 - Lib.bitLen y) := Nat.pow_pos (by omega)
 have c1 := Nat.mul_le_mul_right (2 ^ (64 - Lib.bitLen y)) b3
 have c2 := Nat.mul_lt_mul_of_lt_of_le b4 (Nat.le_refl (2 ^ (64 - Lib.bitLen y))) hp
 change 2 ^ Lib.bitLen y * _ ≤ _ at c1
 change _ < 2 ^ Lib.bitLen y * _ at c2
 rw [e64] at c1 c2
 rw [Nat.mul_assoc] at c1
 refine ⟨64 - Lib.bitLen y, by unfold Lib.bitLen; omega, by omega, c2, ?_⟩
 refine of_lib1 (inR_ok (k := .i64) (by simp only [inR]; omega)) fun w F _ _ => ?_
 refine (Tryz.bits_LeadingZeros64 (y : Int) w (by omega) (by omega)).mono ?_
 rintro e w' ⟨rfl, rfl⟩
 refine ⟨?_, Below.refl _ _⟩
 rw [show (y : Int).toNat = y from Int.toNat_natCast y]
 have : (64 : Int) - (Lib.bitLen y : Int) = ((64 - Lib.bitLen y : Nat) : Int) := by
  have : Lib.bitLen y ≤ 64 := b2
  omega
 rw [this]
attribute [local irreducible] binOp
structure SKn (y1 y0 u un1 : Nat) where
 q : Nat
 r : Nat
 h : q * y1 + r = u
 hr : r < 4294967296
 hq : q ≤ 4294967297
 hge : (u * 4294967296 + un1) / (y1 * 4294967296 + y0) ≤ q
theorem split64 (hi lo s : Nat) (hs : s ≤ 63) (hlo : lo < 18446744073709551616) : (hi * 18446744073709551616 + lo) * 2 ^ s = (hi * 2 ^ s + lo / 2 ^ (64 - s)) * 18446744073709551616 + (lo * 2 ^ s) % 18446744073709551616 ∧ lo / 2 ^ (64 - s) < 2 ^ s := by
 have e : (2 : Nat) ^ (64 - s) * 2 ^ s = 18446744073709551616 := by rw [← Nat.pow_add, show 64 - s + s = 64 by omega]
 have hp : 0 < (2 : Nat) ^ (64 - s) := Nat.pow_pos (by omega)
 have hp2 : 0 < (2 : Nat) ^ s := Nat.pow_pos (by omega)
 have h1 := Nat.div_add_mod lo (2 ^ (64 - s))
 have h2 := Nat.mod_lt lo hp
 generalize lo / 2 ^ (64 - s) = a at *
 generalize lo % 2 ^ (64 - s) = b at *
 have h3 : lo * 2 ^ s = a * 18446744073709551616 + b * 2 ^ s := by rw [← h1, Nat.add_mul, ← e, Nat.mul_comm (2 ^ (64 - s)) a, Nat.mul_assoc]
 have h4 : b * 2 ^ s < 18446744073709551616 := by rw [← e]; exact Nat.mul_lt_mul_of_lt_of_le h2 (Nat.le_refl _) hp2
 refine ⟨?_, ?_⟩
 ·rw [Nat.add_mul, h3, Nat.add_mul]
  have : hi * 18446744073709551616 * 2 ^ s = hi * 2 ^ s * 18446744073709551616 := by rw [Nat.mul_assoc, Nat.mul_comm _ (2 ^ s), Nat.mul_assoc]
  omega
 ·have h5 : a * 2 ^ (64 - s) < 2 ^ s * 2 ^ (64 - s) := by
   rw [Nat.mul_comm (2 ^ s), e, Nat.mul_comm]
   omega
  exact Nat.lt_of_mul_lt_mul_right h5
theorem wrap_sub (a b c z : Nat) (h : b + z = a * 4294967296 + c) (hz : z < 18446744073709551616) : (((a * 4294967296) % 18446744073709551616 + c) % 18446744073709551616 + (18446744073709551616 - b % 18446744073709551616)) % 18446744073709551616 = z := by omega
theorem or_add (a b s : Nat) (h : b < 2 ^ s) : a * 2 ^ s ||| b = a * 2 ^ s + b := by
 rw [Nat.mul_comm, Nat.two_pow_add_eq_or_of_lt h]
set_option maxRecDepth 20000 in
set_option maxHeartbeats 4000000 in
theorem div64_ev (hi lo y : Nat) (hlt : hi < y) (hy : y < 18446744073709551616) (hlo : lo < 18446744073709551616) :
  Ev E 186 [.imm (.int .u64 (hi : Int)), .imm (.int .u64 (lo : Int)), .imm (.int .u64 (y : Int))]
   (.tup [.imm (.int .u64 (((hi * 18446744073709551616 + lo) / y : Nat) : Int)), .imm (.int .u64 (((hi * 18446744073709551616 + lo) % y : Nat) : Int))]) := by
 have g1 : ((y : Int) == 0) = false := by rw [beq_eq_false_iff_ne]; omega
 have g2 : decide ((y : Int) ≤ (hi : Int)) = false := by simp; omega
 by_cases h0 : hi = 0
 ·subst h0
  have g3 : (((0 : Nat) : Int) == 0) = true := rfl
  have e1 := fun (P : Program) (t : TypeId) (w : World) => Go.Abs.u64_quo (P := P) (t := t) lo y hlo (by omega) w
  have e2 := fun (P : Program) (t : TypeId) (w : World) => Go.Abs.u64_rem (P := P) (t := t) lo y (by omega) w
  have k1 := u64_ok (lo / y) (Nat.lt_of_le_of_lt (Nat.div_le_self lo y) hlo)
  have k2 := u64_ok (lo % y) (Nat.lt_of_le_of_lt (Nat.mod_le lo y) hlo)
  rw [show 0 * 18446744073709551616 + lo = lo by omega]
  refine ye3 func186 ntmps186 fun _ _ _=>?_
  repeat' (first | (refine go_binN _ rfl rfl rfl rfl rfl rfl (e1 _ _) k1 ?_) | (refine go_binN _ rfl rfl rfl rfl rfl rfl (e2 _ _) k2 ?_) | refine yz ?_ | exact zL)
 have g3 : ((hi : Int) == 0) = false := by rw [beq_eq_false_iff_ne]; omega
 obtain ⟨s, hs, s1, s2, hlz⟩ := lz_ev y (by omega) hy
 obtain ⟨sp1, sp2⟩ := split64 hi lo s hs hlo
 have hor := or_add hi (lo / 2 ^ (64 - s)) s sp2
 have hA : hi * 2 ^ s < 18446744073709551616 := Nat.lt_of_le_of_lt (Nat.mul_le_mul_right _ (Nat.le_of_lt hlt)) s2
 have hub : hi * 2 ^ s + lo / 2 ^ (64 - s) < y * 2 ^ s := by
  have := Nat.mul_le_mul_right (2 ^ s) hlt
  rw [Nat.succ_mul] at this
  omega
 have hfin1 : ((hi * 18446744073709551616 + lo) * 2 ^ s) / (y * 2 ^ s) = (hi * 18446744073709551616 + lo) / y := Nat.mul_div_mul_right _ _ (Nat.pow_pos (by omega))
 have hfin2 : ((hi * 18446744073709551616 + lo) * 2 ^ s) % (y * 2 ^ s) / 2 ^ s = (hi * 18446744073709551616 + lo) % y := by
  rw [Nat.mul_mod_mul_right, Nat.mul_div_cancel _ (Nat.pow_pos (by omega))]
 rw [sp1] at hfin1 hfin2
 have hlb : lo / 2 ^ (64 - s) < 18446744073709551616 := Nat.lt_of_le_of_lt (Nat.div_le_self _ _) hlo
 have c1 := fun (P : Program) (t : TypeId) (k : IntKind) (w : World) => Go.Abs.u64_shl (P := P) (t := t) (k := k) y s (by omega) w
 have c2 := fun (P : Program) (t : TypeId) (k : IntKind) (w : World) => Go.Abs.u64_shl (P := P) (t := t) (k := k) hi s (by omega) w
 have c3 := fun (P : Program) (t : TypeId) (k : IntKind) (w : World) => Go.Abs.u64_shl (P := P) (t := t) (k := k) lo s (by omega) w
 have c4 := fun (P : Program) (t : TypeId) (k : IntKind) (w : World) => Go.Abs.u64_shr (P := P) (t := t) (k := k) lo (64 - s) (by omega) w
 have c5 := fun (P : Program) (t : TypeId) (w : World) => Go.Abs.u64_or (P := P) (t := t) (hi * 2 ^ s) (lo / 2 ^ (64 - s)) hA hlb w
 have c6 := fun (P : Program) (t : TypeId) (w : World) => Go.Abs.u64_sub (P := P) (t := t) 64 s (by omega) w
 have c7 := fun (P : Program) (t : TypeId) (k : IntKind) (a : Nat) (w : World) => Go.Abs.u64_shr (P := P) (t := t) (k := k) a 32 (by omega) w
 have c8 := fun (P : Program) (t : TypeId) (a : Nat) (ha : a < 18446744073709551616) (w : World) => Go.Abs.u64_and (P := P) (t := t) a 4294967295 ha (by omega) w
 rw [hor] at c5
 simp only [Nat.mod_eq_of_lt hA] at c2
 simp only [Nat.mod_eq_of_lt s2] at c1
 simp only [show (64 + (18446744073709551616 - s)) % 18446744073709551616 = 64 - s by omega] at c6
 simp only [show ∀ a : Nat, a &&& 4294967295 = a % 4294967296 from fun a => Nat.and_two_pow_sub_one_eq_mod a 32] at c8
 simp only [show (2 : Nat) ^ 32 = 4294967296 from rfl] at c7
 have m1 : (lo * 2 ^ s) % 18446744073709551616 < 18446744073709551616 := Nat.mod_lt _ (by omega)
 generalize lo / 2 ^ (64 - s) = lb at *
 generalize (lo * 2 ^ s) % 18446744073709551616 = ul at *
 generalize hi * 2 ^ s = hs2 at *
 generalize y * 2 ^ s = Y at *
 generalize hU : hs2 + lb = u at *
 have k0 := u64_ok
 have hsI : inR .u64 (s : Int) := by simp only [inR]; omega
 refine ye3 func186 ntmps186 fun _ _ _=>?_
 repeat' (first | (refine go_binN _ rfl rfl rfl rfl rfl rfl (c1 _ _ _) (k0 _ (by omega)) ?_) | (refine go_binN _ rfl rfl rfl rfl rfl rfl (c2 _ _ _) (k0 _ (by omega)) ?_) | (refine go_binN _ rfl rfl rfl rfl rfl rfl (c3 _ _ _) (k0 _ (by omega)) ?_) | (refine go_binN _ rfl rfl rfl rfl rfl rfl (c4 _ _ _) (k0 _ (by omega)) ?_) | (refine go_binN _ rfl rfl rfl rfl rfl rfl (c5 _ _) (k0 _ (by omega)) ?_) | (refine go_binN _ rfl rfl rfl rfl rfl rfl (c6 _ _) (k0 _ (by omega)) ?_) | (refine go_binN _ rfl rfl rfl rfl rfl rfl (c7 _ _ _ _) (k0 _ (by omega)) ?_) | (refine go_binN _ rfl rfl rfl rfl rfl rfl (c8 _ _ _ (by assumption)) (k0 _ (by omega)) ?_) | refine yz ?_ | refine yp b222 hlz ?_)
 clear c1 c2 c3 c4 c5 c6 c7 c8 hlz hor
 obtain ⟨y1, hy1⟩ : ∃ y1, Y / 4294967296 = y1 := ⟨_, rfl⟩
 obtain ⟨y0, hy0⟩ : ∃ y0, Y % 4294967296 = y0 := ⟨_, rfl⟩
 obtain ⟨un1, hun1⟩ : ∃ x, ul / 4294967296 = x := ⟨_, rfl⟩
 obtain ⟨un0, hun0⟩ : ∃ x, ul % 4294967296 = x := ⟨_, rfl⟩
 rw [hy1, hy0, hun1, hun0]
 have hY : Y = y1 * 4294967296 + y0 := by omega
 have hul : ul = un1 * 4294967296 + un0 := by omega
 have b1 : 2147483648 ≤ y1 ∧ y1 < 4294967296 := by omega
 have b2 : y0 < 4294967296 := by omega
 have b3 : un1 < 4294967296 ∧ un0 < 4294967296 := by omega
 clear hy1 hy0 hun1 hun0
 obtain ⟨q, hq⟩ : ∃ q, u / y1 = q := ⟨_, rfl⟩
 obtain ⟨r, hr⟩ : ∃ r, u % y1 = r := ⟨_, rfl⟩
 have hqr : q * y1 + r = u := by rw [← hq, ← hr, Nat.mul_comm]; exact Nat.div_add_mod u y1
 have hry : r < y1 := by rw [← hr]; exact Nat.mod_lt _ (by omega)
 have hq2 : q ≤ 4294967297 := by rw [← hq]; exact kn_top b1.1 (by omega) b2
 have hge : (u * 4294967296 + un1) / (y1 * 4294967296 + y0) ≤ q := by rw [← hq]; exact kn_ge (by omega) b3.1
 have d1 := fun (P : Program) (t : TypeId) (w : World) => Go.Abs.u64_quo (P := P) (t := t) u y1 (by omega) (by omega) w
 rw [hq] at d1
 have d2 := fun (P : Program) (t : TypeId) (w : World) => Go.Abs.u64_mul (P := P) (t := t) q y1 w
 simp only [Nat.mod_eq_of_lt (show q * y1 < 18446744073709551616 by omega)] at d2
 have d3 := fun (P : Program) (t : TypeId) (w : World) => Go.Abs.u64_sub (P := P) (t := t) u (q * y1) (by omega) w
 simp only [show (u + (18446744073709551616 - q * y1)) % 18446744073709551616 = r by omega] at d3
 repeat' (first | (refine go_binN _ rfl rfl rfl rfl rfl rfl (d1 _ _) (k0 _ (by omega)) ?_) | (refine go_binN _ rfl rfl rfl rfl rfl rfl (d2 _ _) (k0 _ (by omega)) ?_) | (refine go_binN _ rfl rfl rfl rfl rfl rfl (d3 _ _) (k0 _ (by omega)) ?_) | (refine go_cutB 0 (fun b => ⟨[(2, .d (.imm (.int .u64 ((Y : Nat) : Int)))), (8, .d (.imm (.int .u64 ((s : Nat) : Int)))), (9, .d (.imm (.int .u64 ((y1 : Nat) : Int)))), (10, .d (.imm (.int .u64 ((y0 : Nat) : Int)))), (11, .d (.imm (.int .u64 ((u : Nat) : Int)))), (13, .d (.imm (.int .u64 ((un1 : Nat) : Int)))), (14, .d (.imm (.int .u64 ((un0 : Nat) : Int)))), (15, .d (.imm (.int .u64 ((b : Nat) : Int))))], []⟩) ((u * 4294967296 + un1) / (y1 * 4294967296 + y0)) ?_ ?_) | refine yz ?_)
 ·refine go_loop_ (α := SKn y1 y0 u un1) (fun p => ⟨[(2, .d (.imm (.int .u64 ((Y : Nat) : Int)))), (8, .d (.imm (.int .u64 ((s : Nat) : Int)))), (9, .d (.imm (.int .u64 ((y1 : Nat) : Int)))), (10, .d (.imm (.int .u64 ((y0 : Nat) : Int)))), (11, .d (.imm (.int .u64 ((u : Nat) : Int)))), (13, .d (.imm (.int .u64 ((un1 : Nat) : Int)))), (14, .d (.imm (.int .u64 ((un0 : Nat) : Int)))), (15, .d (.imm (.int .u64 ((p.q : Nat) : Int)))), (16, .d (.imm (.int .u64 ((p.r : Nat) : Int))))], []⟩) (fun p => p.q) ⟨q, r, hqr, by omega, hq2, hge⟩ (zle 0) ?_
  rintro ⟨q', r', h', hr', hq', hge'⟩
  dsimp only
  obtain ⟨Q1, hQ⟩ : ∃ Q1, (u * 4294967296 + un1) / (y1 * 4294967296 + y0) = Q1 := ⟨_, rfl⟩
  rw [hQ] at hge'
  cases hc1 : decide ((q' : Int) ≥ 4294967296) with
  | true =>
   have hgt := kn_gt (y0 := y0) (un1 := un1) h' (by omega) (by omega) (.inl (by have := of_decide_eq_true hc1; omega))
   rw [hQ] at hgt
   have hq1 : 1 ≤ q' := by omega
   have e1 := fun (P : Program) (t : TypeId) (w : World) => Go.Abs.u64_sub (P := P) (t := t) q' 1 (by omega) w
   simp only [show (q' + (18446744073709551616 - 1)) % 18446744073709551616 = q' - 1 by omega] at e1
   have e2 := fun (P : Program) (t : TypeId) (w : World) => Go.Abs.u64_add (P := P) (t := t) r' y1 w
   simp only [show (r' + y1) % 18446744073709551616 = r' + y1 by omega] at e2
   have h'' : (q' - 1) * y1 + (r' + y1) = u := by
    have : q' * y1 = (q' - 1) * y1 + y1 := by rw [← Nat.succ_mul, show (q' - 1).succ = q' by omega]
    omega
   cases hc3 : decide (((r' + y1 : Nat) : Int) ≥ 4294967296) with
   | true =>
    have hk := kn_brk (un1 := un1) (by omega) h'' (by omega) b2 (by have := of_decide_eq_true hc3; omega)
    have hle := kn_le (by omega) h'' hk.2
    rw [hQ] at hle
    repeat' (first | (refine go_binN _ rfl rfl rfl rfl rfl rfl (e1 _ _) (k0 _ (by omega)) ?_) | (refine go_binN _ rfl rfl rfl rfl rfl rfl (e2 _ _) (k0 _ (by omega)) ?_) | refine yz ?_ | refine yx ?_)
    exact go_stop ⟨q' - 1, by rw [hQ]; omega, (zle 0)⟩
   | false =>
    have hc3' := of_decide_eq_false hc3
    repeat' (first | (refine go_binN _ rfl rfl rfl rfl rfl rfl (e1 _ _) (k0 _ (by omega)) ?_) | (refine go_binN _ rfl rfl rfl rfl rfl rfl (e2 _ _) (k0 _ (by omega)) ?_) | refine yz ?_ | refine yx ?_)
    refine go_stop ?_
    exact ⟨⟨q' - 1, r' + y1, h'', by omega, by omega, by rw [hQ]; omega⟩, by dsimp only; omega, (zle 0)⟩
  | false =>
   have hc1' := of_decide_eq_false hc1
   have hm2 : q' * y0 < 18446744073709551616 := by
    have := Nat.mul_le_mul (show q' ≤ 4294967295 by omega) (show y0 ≤ 4294967295 by omega)
    omega
   have e3 := fun (P : Program) (t : TypeId) (w : World) => Go.Abs.u64_mul (P := P) (t := t) q' y0 w
   simp only [Nat.mod_eq_of_lt hm2] at e3
   have e4 := fun (P : Program) (t : TypeId) (w : World) => Go.Abs.u64_mul (P := P) (t := t) 4294967296 r' w
   simp only [show (4294967296 * r') % 18446744073709551616 = 4294967296 * r' by omega] at e4
   have e5 := fun (P : Program) (t : TypeId) (w : World) => Go.Abs.u64_add (P := P) (t := t) (4294967296 * r') un1 w
   simp only [show (4294967296 * r' + un1) % 18446744073709551616 = 4294967296 * r' + un1 by omega] at e5
   cases hc2 : decide (((q' * y0 : Nat) : Int) > ((4294967296 * r' + un1 : Nat) : Int)) with
   | true =>
    have hgt := kn_gt (y0 := y0) (un1 := un1) h' (by omega) (by omega) (.inr (by have := of_decide_eq_true hc2; omega))
    rw [hQ] at hgt
    have hq1 : 1 ≤ q' := by omega
    have e1 := fun (P : Program) (t : TypeId) (w : World) => Go.Abs.u64_sub (P := P) (t := t) q' 1 (by omega) w
    simp only [show (q' + (18446744073709551616 - 1)) % 18446744073709551616 = q' - 1 by omega] at e1
    have e2 := fun (P : Program) (t : TypeId) (w : World) => Go.Abs.u64_add (P := P) (t := t) r' y1 w
    simp only [show (r' + y1) % 18446744073709551616 = r' + y1 by omega] at e2
    have h'' : (q' - 1) * y1 + (r' + y1) = u := by
     have : q' * y1 = (q' - 1) * y1 + y1 := by rw [← Nat.succ_mul, show (q' - 1).succ = q' by omega]
     omega
    cases hc3 : decide (((r' + y1 : Nat) : Int) ≥ 4294967296) with
    | true =>
     have hk := kn_brk (un1 := un1) (by omega) h'' (by omega) b2 (by have := of_decide_eq_true hc3; omega)
     have hle := kn_le (by omega) h'' hk.2
     rw [hQ] at hle
     repeat' (first | (refine go_binN _ rfl rfl rfl rfl rfl rfl (e3 _ _) (k0 _ (by omega)) ?_) | (refine go_binN _ rfl rfl rfl rfl rfl rfl (e4 _ _) (k0 _ (by omega)) ?_) | (refine go_binN _ rfl rfl rfl rfl rfl rfl (e5 _ _) (k0 _ (by omega)) ?_) | (refine go_binN _ rfl rfl rfl rfl rfl rfl (e1 _ _) (k0 _ (by omega)) ?_) | (refine go_binN _ rfl rfl rfl rfl rfl rfl (e2 _ _) (k0 _ (by omega)) ?_) | refine yz ?_ | refine yx ?_)
     exact go_stop ⟨q' - 1, by rw [hQ]; omega, (zle 0)⟩
    | false =>
     have hc3' := of_decide_eq_false hc3
     repeat' (first | (refine go_binN _ rfl rfl rfl rfl rfl rfl (e3 _ _) (k0 _ (by omega)) ?_) | (refine go_binN _ rfl rfl rfl rfl rfl rfl (e4 _ _) (k0 _ (by omega)) ?_) | (refine go_binN _ rfl rfl rfl rfl rfl rfl (e5 _ _) (k0 _ (by omega)) ?_) | (refine go_binN _ rfl rfl rfl rfl rfl rfl (e1 _ _) (k0 _ (by omega)) ?_) | (refine go_binN _ rfl rfl rfl rfl rfl rfl (e2 _ _) (k0 _ (by omega)) ?_) | refine yz ?_ | refine yx ?_)
     refine go_stop ?_
     exact ⟨⟨q' - 1, r' + y1, h'', by omega, by omega, by rw [hQ]; omega⟩, by dsimp only; omega, (zle 0)⟩
   | false =>
    have hc2' := of_decide_eq_false hc2
    have hle := kn_le (un1 := un1) (y0 := y0) (by omega) h' (by omega)
    rw [hQ] at hle
    repeat' (first | (refine go_binN _ rfl rfl rfl rfl rfl rfl (e3 _ _) (k0 _ (by omega)) ?_) | (refine go_binN _ rfl rfl rfl rfl rfl rfl (e4 _ _) (k0 _ (by omega)) ?_) | (refine go_binN _ rfl rfl rfl rfl rfl rfl (e5 _ _) (k0 _ (by omega)) ?_) | refine yz ?_ | refine yx ?_)
    exact go_stop ⟨q', by rw [hQ]; omega, (zle 0)⟩
 ·obtain ⟨Q, hQ⟩ : ∃ Q, (u * 4294967296 + un1) / (y1 * 4294967296 + y0) = Q := ⟨_, rfl⟩
  obtain ⟨v, hv⟩ : ∃ v, (u * 4294967296 + un1) % (y1 * 4294967296 + y0) = v := ⟨_, rfl⟩
  rw [hQ]
  have hQv : Q * Y + v = u * 4294967296 + un1 := by rw [← hQ, ← hv, hY, Nat.mul_comm]; exact Nat.div_add_mod _ _
  have hvY : v < y1 * 4294967296 + y0 := by rw [← hv]; exact Nat.mod_lt _ (by omega)
  have hQ32 : Q < 4294967296 := by rw [← hQ]; exact Nat.div_lt_of_lt_mul (by omega)
  clear d1 d2 d3 hq2 hge hqr hq hr hry
  have d1 := fun (P : Program) (t : TypeId) (w : World) => Go.Abs.u64_mul (P := P) (t := t) u 4294967296 w
  have d2 := fun (P : Program) (t : TypeId) (w : World) => Go.Abs.u64_add (P := P) (t := t) ((u * 4294967296) % 18446744073709551616) un1 w
  have d3 := fun (P : Program) (t : TypeId) (w : World) => Go.Abs.u64_mul (P := P) (t := t) Q Y w
  have d4 := fun (P : Program) (t : TypeId) (w : World) => Go.Abs.u64_sub (P := P) (t := t) (((u * 4294967296) % 18446744073709551616 + un1) % 18446744073709551616) ((Q * Y) % 18446744073709551616) (by omega) w
  simp only [wrap_sub u (Q * Y) un1 v hQv (by omega)] at d4
  obtain ⟨q, hq⟩ : ∃ q, v / y1 = q := ⟨_, rfl⟩
  obtain ⟨r, hr⟩ : ∃ r, v % y1 = r := ⟨_, rfl⟩
  have hqr : q * y1 + r = v := by rw [← hq, ← hr, Nat.mul_comm]; exact Nat.div_add_mod v y1
  have hry : r < y1 := by rw [← hr]; exact Nat.mod_lt _ (by omega)
  have hq2 : q ≤ 4294967297 := by rw [← hq]; exact kn_top b1.1 (by omega) b2
  have hge : (v * 4294967296 + un0) / (y1 * 4294967296 + y0) ≤ q := by rw [← hq]; exact kn_ge (by omega) b3.2
  have d5 := fun (P : Program) (t : TypeId) (w : World) => Go.Abs.u64_quo (P := P) (t := t) v y1 (by omega) (by omega) w
  rw [hq] at d5
  have d6 := fun (P : Program) (t : TypeId) (w : World) => Go.Abs.u64_mul (P := P) (t := t) q y1 w
  simp only [Nat.mod_eq_of_lt (show q * y1 < 18446744073709551616 by omega)] at d6
  have d7 := fun (P : Program) (t : TypeId) (w : World) => Go.Abs.u64_sub (P := P) (t := t) v (q * y1) (by omega) w
  simp only [show (v + (18446744073709551616 - q * y1)) % 18446744073709551616 = r by omega] at d7
  repeat' (first | (refine go_binN _ rfl rfl rfl rfl rfl rfl (d1 _ _) (k0 _ (by omega)) ?_) | (refine go_binN _ rfl rfl rfl rfl rfl rfl (d2 _ _) (k0 _ (by omega)) ?_) | (refine go_binN _ rfl rfl rfl rfl rfl rfl (d3 _ _) (k0 _ (by omega)) ?_) | (refine go_binN _ rfl rfl rfl rfl rfl rfl (d4 _ _) (k0 _ (by omega)) ?_) | (refine go_binN _ rfl rfl rfl rfl rfl rfl (d5 _ _) (k0 _ (by omega)) ?_) | (refine go_binN _ rfl rfl rfl rfl rfl rfl (d6 _ _) (k0 _ (by omega)) ?_) | (refine go_binN _ rfl rfl rfl rfl rfl rfl (d7 _ _) (k0 _ (by omega)) ?_) | (refine go_cutB 2 (fun b => ⟨[(2, .d (.imm (.int .u64 ((Y : Nat) : Int)))), (8, .d (.imm (.int .u64 ((s : Nat) : Int)))), (14, .d (.imm (.int .u64 ((un0 : Nat) : Int)))), (15, .d (.imm (.int .u64 ((Q : Nat) : Int)))), (17, .d (.imm (.int .u64 ((v : Nat) : Int)))), (18, .d (.imm (.int .u64 ((b : Nat) : Int))))], []⟩) ((v * 4294967296 + un0) / (y1 * 4294967296 + y0)) ?_ ?_) | refine yz ?_)
  ·refine go_loop_ (α := SKn y1 y0 v un0) (fun p => ⟨[(2, .d (.imm (.int .u64 ((Y : Nat) : Int)))), (8, .d (.imm (.int .u64 ((s : Nat) : Int)))), (9, .d (.imm (.int .u64 ((y1 : Nat) : Int)))), (10, .d (.imm (.int .u64 ((y0 : Nat) : Int)))), (14, .d (.imm (.int .u64 ((un0 : Nat) : Int)))), (15, .d (.imm (.int .u64 ((Q : Nat) : Int)))), (17, .d (.imm (.int .u64 ((v : Nat) : Int)))), (18, .d (.imm (.int .u64 ((p.q : Nat) : Int)))), (16, .d (.imm (.int .u64 ((p.r : Nat) : Int))))], []⟩) (fun p => p.q) ⟨q, r, hqr, by omega, hq2, hge⟩ (zle 0) ?_
   rintro ⟨q', r', h', hr', hq', hge'⟩
   dsimp only
   obtain ⟨Q1, hQ⟩ : ∃ Q1, (v * 4294967296 + un0) / (y1 * 4294967296 + y0) = Q1 := ⟨_, rfl⟩
   rw [hQ] at hge'
   cases hc1 : decide ((q' : Int) ≥ 4294967296) with
   | true =>
    have hgt := kn_gt (y0 := y0) (un1 := un0) h' (by omega) (by omega) (.inl (by have := of_decide_eq_true hc1; omega))
    rw [hQ] at hgt
    have hq1 : 1 ≤ q' := by omega
    have e1 := fun (P : Program) (t : TypeId) (w : World) => Go.Abs.u64_sub (P := P) (t := t) q' 1 (by omega) w
    simp only [show (q' + (18446744073709551616 - 1)) % 18446744073709551616 = q' - 1 by omega] at e1
    have e2 := fun (P : Program) (t : TypeId) (w : World) => Go.Abs.u64_add (P := P) (t := t) r' y1 w
    simp only [show (r' + y1) % 18446744073709551616 = r' + y1 by omega] at e2
    have h'' : (q' - 1) * y1 + (r' + y1) = v := by
     have : q' * y1 = (q' - 1) * y1 + y1 := by rw [← Nat.succ_mul, show (q' - 1).succ = q' by omega]
     omega
    cases hc3 : decide (((r' + y1 : Nat) : Int) ≥ 4294967296) with
    | true =>
     have hk := kn_brk (un1 := un0) (by omega) h'' (by omega) b2 (by have := of_decide_eq_true hc3; omega)
     have hle := kn_le (by omega) h'' hk.2
     rw [hQ] at hle
     repeat' (first | (refine go_binN _ rfl rfl rfl rfl rfl rfl (e1 _ _) (k0 _ (by omega)) ?_) | (refine go_binN _ rfl rfl rfl rfl rfl rfl (e2 _ _) (k0 _ (by omega)) ?_) | refine yz ?_ | refine yx ?_)
     exact go_stop ⟨q' - 1, by rw [hQ]; omega, (zle 0)⟩
    | false =>
     have hc3' := of_decide_eq_false hc3
     repeat' (first | (refine go_binN _ rfl rfl rfl rfl rfl rfl (e1 _ _) (k0 _ (by omega)) ?_) | (refine go_binN _ rfl rfl rfl rfl rfl rfl (e2 _ _) (k0 _ (by omega)) ?_) | refine yz ?_ | refine yx ?_)
     refine go_stop ?_
     exact ⟨⟨q' - 1, r' + y1, h'', by omega, by omega, by rw [hQ]; omega⟩, by dsimp only; omega, (zle 0)⟩
   | false =>
    have hc1' := of_decide_eq_false hc1
    have hm2 : q' * y0 < 18446744073709551616 := by
     have := Nat.mul_le_mul (show q' ≤ 4294967295 by omega) (show y0 ≤ 4294967295 by omega)
     omega
    have e3 := fun (P : Program) (t : TypeId) (w : World) => Go.Abs.u64_mul (P := P) (t := t) q' y0 w
    simp only [Nat.mod_eq_of_lt hm2] at e3
    have e4 := fun (P : Program) (t : TypeId) (w : World) => Go.Abs.u64_mul (P := P) (t := t) 4294967296 r' w
    simp only [show (4294967296 * r') % 18446744073709551616 = 4294967296 * r' by omega] at e4
    have e5 := fun (P : Program) (t : TypeId) (w : World) => Go.Abs.u64_add (P := P) (t := t) (4294967296 * r') un0 w
    simp only [show (4294967296 * r' + un0) % 18446744073709551616 = 4294967296 * r' + un0 by omega] at e5
    cases hc2 : decide (((q' * y0 : Nat) : Int) > ((4294967296 * r' + un0 : Nat) : Int)) with
    | true =>
     have hgt := kn_gt (y0 := y0) (un1 := un0) h' (by omega) (by omega) (.inr (by have := of_decide_eq_true hc2; omega))
     rw [hQ] at hgt
     have hq1 : 1 ≤ q' := by omega
     have e1 := fun (P : Program) (t : TypeId) (w : World) => Go.Abs.u64_sub (P := P) (t := t) q' 1 (by omega) w
     simp only [show (q' + (18446744073709551616 - 1)) % 18446744073709551616 = q' - 1 by omega] at e1
     have e2 := fun (P : Program) (t : TypeId) (w : World) => Go.Abs.u64_add (P := P) (t := t) r' y1 w
     simp only [show (r' + y1) % 18446744073709551616 = r' + y1 by omega] at e2
     have h'' : (q' - 1) * y1 + (r' + y1) = v := by
      have : q' * y1 = (q' - 1) * y1 + y1 := by rw [← Nat.succ_mul, show (q' - 1).succ = q' by omega]
      omega
     cases hc3 : decide (((r' + y1 : Nat) : Int) ≥ 4294967296) with
     | true =>
      have hk := kn_brk (un1 := un0) (by omega) h'' (by omega) b2 (by have := of_decide_eq_true hc3; omega)
      have hle := kn_le (by omega) h'' hk.2
      rw [hQ] at hle
      repeat' (first | (refine go_binN _ rfl rfl rfl rfl rfl rfl (e3 _ _) (k0 _ (by omega)) ?_) | (refine go_binN _ rfl rfl rfl rfl rfl rfl (e4 _ _) (k0 _ (by omega)) ?_) | (refine go_binN _ rfl rfl rfl rfl rfl rfl (e5 _ _) (k0 _ (by omega)) ?_) | (refine go_binN _ rfl rfl rfl rfl rfl rfl (e1 _ _) (k0 _ (by omega)) ?_) | (refine go_binN _ rfl rfl rfl rfl rfl rfl (e2 _ _) (k0 _ (by omega)) ?_) | refine yz ?_ | refine yx ?_)
      exact go_stop ⟨q' - 1, by rw [hQ]; omega, (zle 0)⟩
     | false =>
      have hc3' := of_decide_eq_false hc3
      repeat' (first | (refine go_binN _ rfl rfl rfl rfl rfl rfl (e3 _ _) (k0 _ (by omega)) ?_) | (refine go_binN _ rfl rfl rfl rfl rfl rfl (e4 _ _) (k0 _ (by omega)) ?_) | (refine go_binN _ rfl rfl rfl rfl rfl rfl (e5 _ _) (k0 _ (by omega)) ?_) | (refine go_binN _ rfl rfl rfl rfl rfl rfl (e1 _ _) (k0 _ (by omega)) ?_) | (refine go_binN _ rfl rfl rfl rfl rfl rfl (e2 _ _) (k0 _ (by omega)) ?_) | refine yz ?_ | refine yx ?_)
      refine go_stop ?_
      exact ⟨⟨q' - 1, r' + y1, h'', by omega, by omega, by rw [hQ]; omega⟩, by dsimp only; omega, (zle 0)⟩
    | false =>
     have hc2' := of_decide_eq_false hc2
     have hle := kn_le (un1 := un0) (y0 := y0) (by omega) h' (by omega)
     rw [hQ] at hle
     repeat' (first | (refine go_binN _ rfl rfl rfl rfl rfl rfl (e3 _ _) (k0 _ (by omega)) ?_) | (refine go_binN _ rfl rfl rfl rfl rfl rfl (e4 _ _) (k0 _ (by omega)) ?_) | (refine go_binN _ rfl rfl rfl rfl rfl rfl (e5 _ _) (k0 _ (by omega)) ?_) | refine yz ?_ | refine yx ?_)
     exact go_stop ⟨q', by rw [hQ]; omega, (zle 0)⟩
  ·obtain ⟨P0, hP0⟩ : ∃ Q, (v * 4294967296 + un0) / (y1 * 4294967296 + y0) = Q := ⟨_, rfl⟩
   obtain ⟨z, hz⟩ : ∃ v', (v * 4294967296 + un0) % (y1 * 4294967296 + y0) = v' := ⟨_, rfl⟩
   rw [hP0]
   have hPz : P0 * Y + z = v * 4294967296 + un0 := by rw [← hP0, ← hz, hY, Nat.mul_comm]; exact Nat.div_add_mod _ _
   have hzY : z < y1 * 4294967296 + y0 := by rw [← hz]; exact Nat.mod_lt _ (by omega)
   have hP32 : P0 < 4294967296 := by rw [← hP0]; exact Nat.div_lt_of_lt_mul (by omega)
   clear d1 d2 d3 d4 d5 d6 d7 hP0 hz hQ hv hq hr hqr hry hq2 hge
   have d1 := fun (P : Program) (t : TypeId) (w : World) => Go.Abs.u64_mul (P := P) (t := t) Q 4294967296 w
   simp only [Nat.mod_eq_of_lt (show Q * 4294967296 < 18446744073709551616 from by clear hfin1 hfin2 sp1 sp2; omega)] at d1
   have d2 := fun (P : Program) (t : TypeId) (w : World) => Go.Abs.u64_add (P := P) (t := t) (Q * 4294967296) P0 w
   simp only [Nat.mod_eq_of_lt (show Q * 4294967296 + P0 < 18446744073709551616 from by clear hfin1 hfin2 sp1 sp2; omega)] at d2
   have d3 := fun (P : Program) (t : TypeId) (w : World) => Go.Abs.u64_mul (P := P) (t := t) v 4294967296 w
   have d4 := fun (P : Program) (t : TypeId) (w : World) => Go.Abs.u64_add (P := P) (t := t) ((v * 4294967296) % 18446744073709551616) un0 w
   have d5 := fun (P : Program) (t : TypeId) (w : World) => Go.Abs.u64_mul (P := P) (t := t) P0 Y w
   have d6 := fun (P : Program) (t : TypeId) (w : World) => Go.Abs.u64_sub (P := P) (t := t) (((v * 4294967296) % 18446744073709551616 + un0) % 18446744073709551616) ((P0 * Y) % 18446744073709551616) (by omega) w
   simp only [wrap_sub v (P0 * Y) un0 z hPz (by omega)] at d6
   have d7 := fun (P : Program) (t : TypeId) (k : IntKind) (w : World) => Go.Abs.u64_shr (P := P) (t := t) (k := k) z s (by omega) w
   have hdm : (Q * 4294967296 + P0) * Y + z = u * 18446744073709551616 + ul := by
    rw [Nat.add_mul, show Q * 4294967296 * Y = Q * Y * 4294967296 by rw [Nat.mul_assoc, Nat.mul_comm 4294967296, Nat.mul_assoc]]
    omega
   have hd1 : (u * 18446744073709551616 + ul) / Y = Q * 4294967296 + P0 := by
    rw [← hdm, Nat.mul_comm, Nat.mul_add_div (by omega), Nat.div_eq_of_lt (by omega), Nat.add_zero]
   have hd2 : (u * 18446744073709551616 + ul) % Y = z := by
    rw [← hdm, Nat.mul_comm, Nat.mul_add_mod, Nat.mod_eq_of_lt (by omega)]
   rw [hd1] at hfin1
   rw [hd2] at hfin2
   rw [← hfin1, ← hfin2]
   have kz : okV (.int .u64 ((z / 2 ^ s : Nat) : Int)) = true := k0 _ (Nat.lt_of_le_of_lt (Nat.div_le_self _ _) (by omega))
   repeat' (first | (refine go_binN _ rfl rfl rfl rfl rfl rfl (d2 _ _) (k0 _ (by omega)) ?_) | (refine go_binN _ rfl rfl rfl rfl rfl rfl (d3 _ _) (k0 _ (by omega)) ?_) | (refine go_binN _ rfl rfl rfl rfl rfl rfl (d4 _ _) (k0 _ (by omega)) ?_) | (refine go_binN _ rfl rfl rfl rfl rfl rfl (d5 _ _) (k0 _ (by omega)) ?_) | (refine go_binN _ rfl rfl rfl rfl rfl rfl (d6 _ _) (k0 _ (by omega)) ?_) | (refine go_binN _ rfl rfl rfl rfl rfl rfl (d7 _ _ _) kz ?_) | refine yz ?_ | exact zL)
theorem mod_fold (m g : Nat) : (m / 18446744073709551616 % g * 18446744073709551616 + m % 18446744073709551616) % g = m % g := by
 have h := Nat.div_add_mod m 18446744073709551616
 conv => rhs; rw [← h]
 rw [Nat.add_mod, Nat.mul_mod, Nat.mod_mod, ← Nat.mul_mod, ← Nat.add_mod, Nat.mul_comm]
theorem wmod_ev (p : Bool) (m g : Nat) (hg : 0 < g) (hg2 : g < 18446744073709551616) (hm : m < 18446744073709551616 * 18446744073709551616) : Ev E 140 [wideD p m, .imm (.int .u64 (g : Int))] (.d (.imm (.int .u64 ((m % g : Nat) : Int)))) := by
 have h1 := div64_ev (m / 18446744073709551616 % g) (m % 18446744073709551616) g (Nat.mod_lt _ hg) hg2 (Nat.mod_lt _ (by omega))
 rw [mod_fold] at h1
 have e1 := fun (P : Program) (t : TypeId) (w : World) => Go.Abs.u64_rem (P := P) (t := t) (m / 18446744073709551616) g hg w
 have k1 := u64_ok (m / 18446744073709551616 % g) (Nat.lt_trans (Nat.mod_lt _ hg) hg2)
 have k0 := hg
 generalize m / 18446744073709551616 % g = a at *
 unfold wideD
 refine ye2 func140 ntmps140 fun _ _ _=>?_
 repeat' (first | (refine go_binN _ rfl rfl rfl rfl rfl rfl (e1 _ _) k1 ?_) | refine yz ?_ | refine yp b186 h1 ?_ | exact zD)
def ovB (m h : Nat) : Bool := decide (m / h ≤ 1000000000000000)
def ovN (p : Bool) (m h : Nat) : Int := bif ovB m h then sv p (m / h) else 0
theorem over_ev (p : Bool) (m h : Nat) (hh : 0 < h) (h2 : h < 18446744073709551616) : Ev E 141 [wideD p m, .imm (.int .u64 (h : Int))] (.tup [.int (ovN p m h), .bool (ovB m h)]) := by
 cases g1 : decide (((m / 18446744073709551616 : Nat) : Int) ≥ (h : Int)) with
 | true =>
  have hb : ovB m h = false := by
   have g := of_decide_eq_true g1
   have : h ≤ m / 18446744073709551616 := by omega
   rw [Nat.le_div_iff_mul_le (by omega)] at this
   have : 18446744073709551616 ≤ m / h := by rw [Nat.le_div_iff_mul_le hh]; omega
   unfold ovB
   simp
   omega
  unfold ovN
  rw [hb]
  unfold wideD
  refine ye2 func141 ntmps141 fun _ _ _=>?_
  repeat' (first | refine yz ?_ | exact zL)
 | false =>
  have g := of_decide_eq_false g1
  have h1 := div64_ev (m / 18446744073709551616) (m % 18446744073709551616) h (by omega) h2 (Nat.mod_lt _ (by omega))
  rw [show m / 18446744073709551616 * 18446744073709551616 + m % 18446744073709551616 = m by omega] at h1
  unfold ovN
  cases hb : ovB m h with
  | false =>
   have g2 : decide (((m / h : Nat) : Int) > 1000000000000000) = true := by unfold ovB at hb; simp at hb ⊢; omega
   generalize m / h = q at *
   unfold wideD
   refine ye2 func141 ntmps141 fun _ _ _=>?_
   repeat' (first | refine yz ?_ | refine yp b186 h1 ?_ | exact zL)
  | true =>
   have hq : m / h ≤ 1000000000000000 := by unfold ovB at hb; simpa using hb
   have g2 : decide (((m / h : Nat) : Int) > 1000000000000000) = false := by simp; omega
   generalize m / h = q at *
   have r1 : inR .i64 (q : Int) := by simp only [inR]; omega
   unfold wideD
   cases p with
   | true =>
    rw [show (bif true then sv true q else 0) = 0 - (q : Int) by simp [sv]]
    refine ye2 func141 ntmps141 fun _ _ _=>?_
    repeat' (first | refine yz ?_ | refine yp b186 h1 ?_ | exact zL)
   | false =>
    refine ye2 func141 ntmps141 fun _ _ _=>?_
    repeat' (first | refine yz ?_ | refine yp b186 h1 ?_ | exact zL)
def mulB (a b : Int) : Bool := inM a && (inM b && decide (a.natAbs * b.natAbs ≤ 1000000000000000))
def mulN (a b : Int) : Int := bif mulB a b then a * b else 0
theorem natAbs_le_mul {a b : Int} (h : a.natAbs * b.natAbs ≤ 1000000000000000) : -1000000000000000 ≤ a * b ∧ a * b ≤ 1000000000000000 := by
 rw [← Int.natAbs_mul] at h
 omega
theorem nmul_ev (a b : Int) : Ev E 142 [.int a, .int b] (.tup [.int (mulN a b), .bool (mulB a b)]) := by
 have h1 := in_ev a
 have h2 := in_ev b
 unfold mulN
 cases ha : inM a with
 | false =>
  rw [ha] at h1
  rw [show mulB a b = false by unfold mulB; rw [ha]; rfl]
  refine ye2 func142 ntmps142 fun _ _ _=>?_
  repeat' (first | refine yz ?_ | refine yp b126 h1 ?_ | exact zL)
 | true =>
  cases hb : inM b with
  | false =>
   rw [ha] at h1
   rw [hb] at h2
   rw [show mulB a b = false by unfold mulB; rw [ha, hb]; rfl]
   refine ye2 func142 ntmps142 fun _ _ _=>?_
   repeat' (first | refine yz ?_ | refine yp b126 h1 ?_ | refine yp b126 h2 ?_ | exact zL)
  | true =>
   have h3 := abs_ev a ha
   have h4 := abs_ev b hb
   rw [ha] at h1
   rw [hb] at h2
   have ha' := (inM_iff a).1 ha
   have hb' := (inM_iff b).1 hb
   have hm : mulB a b = decide (a.natAbs * b.natAbs ≤ 1000000000000000) := by unfold mulB; rw [ha, hb]; rfl
   cases h0 : a != 0 with
   | false =>
    have : a = 0 := by simpa using h0
    subst this
    rw [show mulB 0 b = true by rw [hm]; simp]
    refine ye2 func142 ntmps142 fun _ _ _=>?_
    repeat' (first | refine yz ?_ | refine yp b126 h1 ?_ | refine yp b126 h2 ?_ | exact zL)
   | true =>
    have h0' : a ≠ 0 := by simpa using h0
    have hdv : Int.tdiv 1000000000000000 (a.natAbs : Int) = ((1000000000000000 / a.natAbs : Nat) : Int) := by
     rw [Int.tdiv_eq_ediv_of_nonneg (by omega)]; rfl
    have hlt := Nat.div_le_self 1000000000000000 a.natAbs
    have hiff : b.natAbs ≤ 1000000000000000 / a.natAbs ↔ a.natAbs * b.natAbs ≤ 1000000000000000 := by rw [Nat.le_div_iff_mul_le (by omega), Nat.mul_comm]
    have hna : (a.natAbs : Int) ≠ 0 := by omega
    generalize 1000000000000000 / a.natAbs = Q at hdv hlt hiff
    have hri : inR .i64 (Int.tdiv 1000000000000000 (a.natAbs : Int)) := by rw [hdv]; simp only [inR]; omega
    cases hc : decide (a.natAbs * b.natAbs ≤ 1000000000000000) with
    | true =>
     have g : decide ((b.natAbs : Int) > Int.tdiv 1000000000000000 (a.natAbs : Int)) = false := by
      have := hiff.2 (of_decide_eq_true hc)
      rw [hdv]; simp; omega
     have := natAbs_le_mul (of_decide_eq_true hc)
     rw [hm, hc]
     refine ye2 func142 ntmps142 fun _ _ _=>?_
     repeat' (first | refine yz ?_ | refine yp b126 h1 ?_ | refine yp b126 h2 ?_ | refine yp b185 h3 ?_ | refine yp b185 h4 ?_ | refine yx ?_ | exact zL)
    | false =>
     have g : decide ((b.natAbs : Int) > Int.tdiv 1000000000000000 (a.natAbs : Int)) = true := by
      have := mt hiff.1 (of_decide_eq_false hc)
      rw [hdv]; simp; omega
     rw [hm, hc]
     refine ye2 func142 ntmps142 fun _ _ _=>?_
     repeat' (first | refine yz ?_ | refine yp b126 h1 ?_ | refine yp b126 h2 ?_ | refine yp b185 h3 ?_ | refine yp b185 h4 ?_ | refine yx ?_ | exact zL)
def modB (a b : Int) : Bool := inM a && (inM b && !(b == 0))
def modN (a b : Int) : Int := bif modB a b then a.tmod b else 0
theorem nmod_ev (a b : Int) : Ev E 231 [.int a, .int b] (.tup [.int (modN a b), .bool (modB a b)]) := by
 have h1 := in_ev a
 have h2 := in_ev b
 unfold modN
 cases ha : inM a with
 | false =>
  rw [ha] at h1
  rw [show modB a b = false by unfold modB; rw [ha]; rfl]
  refine ye2 func231 ntmps231 fun _ _ _=>?_
  repeat' (first | refine yz ?_ | refine yp b126 h1 ?_ | exact zL)
 | true =>
  cases hb : inM b with
  | false =>
   rw [ha] at h1
   rw [hb] at h2
   rw [show modB a b = false by unfold modB; rw [ha, hb]; rfl]
   refine ye2 func231 ntmps231 fun _ _ _=>?_
   repeat' (first | refine yz ?_ | refine yp b126 h1 ?_ | refine yp b126 h2 ?_ | exact zL)
  | true =>
   rw [ha] at h1
   rw [hb] at h2
   have ha' := (inM_iff a).1 ha
   have hb' := (inM_iff b).1 hb
   cases h0 : b == 0 with
   | true =>
    rw [show modB a b = false by unfold modB; rw [ha, hb, h0]; rfl]
    refine ye2 func231 ntmps231 fun _ _ _=>?_
    repeat' (first | refine yz ?_ | refine yp b126 h1 ?_ | refine yp b126 h2 ?_ | exact zL)
   | false =>
    have h0' : b ≠ 0 := by simpa using h0
    have hri : inR .i64 (a.tmod b) := by
     have e := Int.natAbs_tmod a b
     have := Nat.mod_le a.natAbs b.natAbs
     generalize a.tmod b = z at *
     generalize a.natAbs % b.natAbs = y at *
     simp only [inR]; omega
    rw [show modB a b = true by unfold modB; rw [ha, hb, h0]; rfl]
    refine ye2 func231 ntmps231 fun _ _ _=>?_
    repeat' (first | refine yz ?_ | refine yp b126 h1 ?_ | refine yp b126 h2 ?_ | (refine qS rfl ⟨h0', hri⟩ ?_) | exact zL)
end Go.Proofs.YtjgmakalledclaaGreatDoor
namespace Go.Proofs.YtjgmakalledclaaGreatDoor
set_option maxRecDepth 4000
open Go Go.Abs Go.Val Go.RowKit Go.Proofs.Tryz
attribute [local irreducible] go SGo HasBody Ev ExtEv EvO EvS
attribute [local irreducible] binOp
def adG (ad bd : Int) : Nat := Int.gcd ad bd
def adT (an ad bn bd : Int) : Int := an * Int.tdiv bd (adG ad bd) + bn * Int.tdiv ad (adG ad bd)
def adH (an ad bn bd : Int) : Nat := Int.gcd (((adT an ad bn bd).natAbs % adG ad bd : Nat) : Int) (adG ad bd : Int)
def adD (an ad bn bd : Int) : Int := Int.tdiv ad (adG ad bd) * Int.tdiv bd (adH an ad bn bd)
def adN (an ad bn bd : Int) : Int := sgn (adT an ad bn bd) * (((adT an ad bn bd).natAbs / adH an ad bn bd : Nat) : Int)
def adK (an ad bn bd : Int) : Bool := ovB (adT an ad bn bd).natAbs (adH an ad bn bd) && decide (adD an ad bn bd ≤ 1000000000000000)
def addB (an ad bn bd : Int) : Bool := fval an ad && fval bn bd && (adT an ad bn bd == 0 || adK an ad bn bd)
def addN (an ad bn bd : Int) : Int := bif addB an ad bn bd then (bif adT an ad bn bd == 0 then 0 else adN an ad bn bd) else 0
def addD (an ad bn bd : Int) : Int := bif addB an ad bn bd then (bif adT an ad bn bd == 0 then 1 else adD an ad bn bd) else 0
theorem fval_inv {n d : Int} (h : fval n d = true) : (1 ≤ d ∧ d ≤ 1000000000000000) ∧ (-1000000000000000 ≤ n ∧ n ≤ 1000000000000000) ∧ Int.gcd n d = 1 := by
 unfold fval at h
 simp only [Bool.and_eq_true, decide_eq_true_eq, beq_iff_eq] at h
 have := (inM_iff n).1 h.2.2.1
 exact ⟨⟨h.1, h.2.1⟩, this, by omega⟩
theorem tdiv_rng {b : Int} {g : Nat} (hb : 1 ≤ b ∧ b ≤ 1000000000000000) (hg : (g : Int) ∣ b) (h0 : 0 < g) : 1 ≤ Int.tdiv b g ∧ Int.tdiv b g ≤ 1000000000000000 := by
 rw [Int.tdiv_eq_ediv_of_nonneg (by omega)]
 have h1 : (g : Int) ≤ b := Int.le_of_dvd (by omega) hg
 refine ⟨?_, ?_⟩
 ·rw [Int.le_ediv_iff_mul_le (by omega)]; omega
 ·exact Int.le_trans (Int.ediv_le_self _ (by omega)) hb.2
theorem sv_inv {p : Bool} {m : Nat} {T : Int} (h : sv p m = T) : m = T.natAbs ∧ (T ≠ 0 → ∀ q : Nat, sv p q = sgn T * q) := by
 cases p
 ·simp only [sv, cond_false] at h
  refine ⟨by omega, fun h0 q => ?_⟩
  rw [sgn_pos (by omega)]
  simp [sv]
 ·simp only [sv, cond_true] at h
  refine ⟨by omega, fun h0 q => ?_⟩
  rw [sgn_neg (by omega)]
  simp [sv]
theorem add_key {an ad bn bd : Int} (hva : fval an ad = true) (hvb : fval bn bd = true) : ∃ (G H : Nat) (T : Int) (p q r : Bool) (m m' : Nat),
  G = adG ad bd ∧ H = adH an ad bn bd ∧ T = adT an ad bn bd ∧ (1 ≤ G ∧ G ≤ 1000000000000000) ∧ (1 ≤ H ∧ H ≤ 1000000000000000) ∧ (1 ≤ Int.tdiv bd G ∧ Int.tdiv bd G ≤ 1000000000000000) ∧ (1 ≤ Int.tdiv ad G ∧ Int.tdiv ad G ≤ 1000000000000000) ∧
  (1 ≤ Int.tdiv bd H ∧ Int.tdiv bd H ≤ 1000000000000000) ∧ T.natAbs ≤ 2000000000000000000000000000000 ∧ Ev E 139 [.int ad, .int bd] (.d (.int (G : Int))) ∧ Ev E 116 [.int an, .int (Int.tdiv bd G)] (.d (wideD p m)) ∧ Ev E 116 [.int bn, .int (Int.tdiv ad G)] (.d (wideD q m')) ∧
  Ev E 117 [wideD p m, wideD q m'] (.d (wideD r T.natAbs)) ∧ Ev E 118 [wideD r T.natAbs] (.d (.int (sgn T))) ∧ Ev E 140 [wideD r T.natAbs, .imm (.int .u64 (G : Int))] (.d (.imm (.int .u64 ((T.natAbs % G : Nat) : Int)))) ∧
  Ev E 139 [.int ((T.natAbs % G : Nat) : Int), .int (G : Int)] (.d (.int (H : Int))) ∧ (T ≠ 0 → ovN r T.natAbs H = bif ovB T.natAbs H then sgn T * ((T.natAbs / H : Nat) : Int) else 0) ∧
  Ev E 141 [wideD r T.natAbs, .imm (.int .u64 (H : Int))] (.tup [.int (ovN r T.natAbs H), .bool (ovB T.natAbs H)]) := by
 obtain ⟨a1, a2, -⟩ := fval_inv hva
 obtain ⟨b1, b2, -⟩ := fval_inv hvb
 have hG0 : 0 < Int.gcd ad bd := Int.gcd_pos_of_ne_zero_left _ (by omega)
 have hGa : ((Int.gcd ad bd : Nat) : Int) ∣ ad := Int.gcd_dvd_left ..
 have hGb : ((Int.gcd ad bd : Nat) : Int) ∣ bd := Int.gcd_dvd_right ..
 have hG1 : ((Int.gcd ad bd : Nat) : Int) ≤ ad := Int.le_of_dvd (by omega) hGa
 have r1 := tdiv_rng b1 hGb hG0
 have r2 := tdiv_rng a1 hGa hG0
 have n1 := nat_mul_bnd (a := an) (b := Int.tdiv bd (Int.gcd ad bd : Nat)) a2 (by omega)
 have n2 := nat_mul_bnd (a := bn) (b := Int.tdiv ad (Int.gcd ad bd : Nat)) b2 (by omega)
 have hw := wplus_ev (!(decide (an < 0) == decide (Int.tdiv bd (Int.gcd ad bd : Nat) < 0))) (!(decide (bn < 0) == decide (Int.tdiv ad (Int.gcd ad bd : Nat) < 0))) _ _ n1 n2
 have hsv := wsum_sv (!(decide (an < 0) == decide (Int.tdiv bd (Int.gcd ad bd : Nat) < 0))) (!(decide (bn < 0) == decide (Int.tdiv ad (Int.gcd ad bd : Nat) < 0))) (an.natAbs * (Int.tdiv bd (Int.gcd ad bd : Nat)).natAbs) (bn.natAbs * (Int.tdiv ad (Int.gcd ad bd : Nat)).natAbs)
 have hle := wsum_le (!(decide (an < 0) == decide (Int.tdiv bd (Int.gcd ad bd : Nat) < 0))) (!(decide (bn < 0) == decide (Int.tdiv ad (Int.gcd ad bd : Nat) < 0))) (an.natAbs * (Int.tdiv bd (Int.gcd ad bd : Nat)).natAbs) (bn.natAbs * (Int.tdiv ad (Int.gcd ad bd : Nat)).natAbs)
 rw [sv_mul, sv_mul] at hsv
 have hp1 := product_ev an (Int.tdiv bd (Int.gcd ad bd : Nat))
 have hp2 := product_ev bn (Int.tdiv ad (Int.gcd ad bd : Nat))
 obtain ⟨i1, i2⟩ := sv_inv hsv
 have hbig : (an * Int.tdiv bd (Int.gcd ad bd : Nat) + bn * Int.tdiv ad (Int.gcd ad bd : Nat)).natAbs ≤ 2000000000000000000000000000000 := by omega
 rw [i1] at hw hsv
 generalize (wsum _ _ _ _).1 = r at *
 change Ev E 117 _ (.d (wideD r (adT an ad bn bd).natAbs)) at hw
 have hHG : adH an ad bn bd ∣ adG ad bd := Int.ofNat_dvd.1 (Int.gcd_dvd_right ..)
 have hH0 : 0 < adH an ad bn bd := Nat.pos_of_dvd_of_pos hHG hG0
 have hHle : adH an ad bn bd ≤ adG ad bd := Nat.le_of_dvd hG0 hHG
 have hHb : ((adH an ad bn bd : Nat) : Int) ∣ bd := Int.dvd_trans (Int.ofNat_dvd.2 hHG) hGb
 have r3 := tdiv_rng b1 hHb hH0
 have hGM : adG ad bd ≤ 1000000000000000 := by show Int.gcd ad bd ≤ _; omega
 have hgc1 := gcd_ev ad bd
 rw [show gcdF ad bd = ((Int.gcd ad bd : Nat) : Int) by unfold gcdF; rw [(inM_iff ad).2 (by omega), (inM_iff bd).2 (by omega)]; rfl] at hgc1
 have hml : (adT an ad bn bd).natAbs % adG ad bd < adG ad bd := Nat.mod_lt _ hG0
 have hgc2 := gcd_ev (((adT an ad bn bd).natAbs % adG ad bd : Nat) : Int) (adG ad bd : Int)
 rw [show gcdF (((adT an ad bn bd).natAbs % adG ad bd : Nat) : Int) (adG ad bd : Int) = (adH an ad bn bd : Int) by unfold gcdF; rw [(inM_iff _).2 (by omega), (inM_iff _).2 (by omega)]; rfl] at hgc2
 have hbig2 : (adT an ad bn bd).natAbs ≤ 2000000000000000000000000000000 := hbig
 have hsg := wsign_ev r (adT an ad bn bd).natAbs (by omega)
 rw [show sv r (adT an ad bn bd).natAbs = adT an ad bn bd from hsv] at hsg
 have hmo := wmod_ev r (adT an ad bn bd).natAbs (adG ad bd) hG0 (by omega) (by omega)
 have hov := over_ev r (adT an ad bn bd).natAbs (adH an ad bn bd) hH0 (by omega)
 refine ⟨adG ad bd, adH an ad bn bd, adT an ad bn bd, _, _, r, _, _, rfl, rfl, rfl, ⟨hG0, hGM⟩, ⟨hH0, by omega⟩, r1, r2, r3, hbig2, hgc1, hp1, hp2, hw, hsg, hmo, hgc2, fun h0 => ?_, hov⟩
 unfold ovN
 cases ovB (adT an ad bn bd).natAbs (adH an ad bn bd) with
 | false => rfl
 | true => exact i2 h0 _
def muN (an ad bn bd : Int) : Int := Int.tdiv an (Int.gcd an bd : Nat) * Int.tdiv bn (Int.gcd bn ad : Nat)
def muD (an ad bn bd : Int) : Int := Int.tdiv ad (Int.gcd bn ad : Nat) * Int.tdiv bd (Int.gcd an bd : Nat)
def mulF (an ad bn bd : Int) : Bool := fval an ad && fval bn bd && (decide ((muN an ad bn bd).natAbs ≤ 1000000000000000) && decide (muD an ad bn bd ≤ 1000000000000000))
theorem tdiv_abs {a : Int} {g : Nat} (ha : -1000000000000000 ≤ a ∧ a ≤ 1000000000000000) : (Int.tdiv a g).natAbs = a.natAbs / g ∧ -1000000000000000 ≤ Int.tdiv a g ∧ Int.tdiv a g ≤ 1000000000000000 := by
 have e : (Int.tdiv a g).natAbs = a.natAbs / g := by rw [Int.natAbs_tdiv]; rfl
 have := Nat.div_le_self a.natAbs g
 refine ⟨e, ?_, ?_⟩ <;> omega
theorem mul_ev (an ad bn bd : Int) : Ev E 100 [.agg [.int an, .int ad], .agg [.int bn, .int bd]] (.tup [.agg [.int (bif mulF an ad bn bd then muN an ad bn bd else 0), .int (bif mulF an ad bn bd then muD an ad bn bd else 0)], .bool (mulF an ad bn bd)]) := by
 have hva := fvalid_ev an ad
 have hvb := fvalid_ev bn bd
 cases ha : fval an ad with
 | false =>
  rw [ha] at hva
  rw [show mulF an ad bn bd = false by unfold mulF; rw [ha]; rfl]
  refine ye2 func100 ntmps100 fun _ _ _=>?_
  repeat' (first | refine yz ?_ | refine yp b99 hva ?_ | exact zL)
 | true =>
  cases hb : fval bn bd with
  | false =>
   rw [ha] at hva
   rw [hb] at hvb
   rw [show mulF an ad bn bd = false by unfold mulF; rw [ha, hb]; rfl]
   refine ye2 func100 ntmps100 fun _ _ _=>?_
   repeat' (first | refine yz ?_ | refine yp b99 hva ?_ | refine yp b99 hvb ?_ | exact zL)
  | true =>
   obtain ⟨a1, a2, -⟩ := fval_inv ha
   obtain ⟨b1, b2, -⟩ := fval_inv hb
   rw [ha] at hva
   rw [hb] at hvb
   have hB : mulF an ad bn bd = (decide ((muN an ad bn bd).natAbs ≤ 1000000000000000) && decide (muD an ad bn bd ≤ 1000000000000000)) := by unfold mulF; rw [ha, hb]; rfl
   have g1 := gcd_ev an bd
   rw [show gcdF an bd = ((Int.gcd an bd : Nat) : Int) by unfold gcdF; rw [(inM_iff an).2 (by omega), (inM_iff bd).2 (by omega)]; rfl] at g1
   have g2 := gcd_ev bn ad
   rw [show gcdF bn ad = ((Int.gcd bn ad : Nat) : Int) by unfold gcdF; rw [(inM_iff bn).2 (by omega), (inM_iff ad).2 (by omega)]; rfl] at g2
   have hG0 : 0 < Int.gcd an bd := Int.gcd_pos_of_ne_zero_right _ (by omega)
   have hH0 : 0 < Int.gcd bn ad := Int.gcd_pos_of_ne_zero_right _ (by omega)
   obtain ⟨-, t1⟩ := tdiv_abs (g := Int.gcd an bd) a2
   obtain ⟨-, t2⟩ := tdiv_abs (g := Int.gcd bn ad) b2
   have t3 := tdiv_rng a1 (show ((Int.gcd bn ad : Nat) : Int) ∣ ad from Int.gcd_dvd_right ..) hH0
   have t4 := tdiv_rng b1 (show ((Int.gcd an bd : Nat) : Int) ∣ bd from Int.gcd_dvd_right ..) hG0
   have n1 := nmul_ev (Int.tdiv an (Int.gcd an bd : Nat)) (Int.tdiv bn (Int.gcd bn ad : Nat))
   have n2 := nmul_ev (Int.tdiv ad (Int.gcd bn ad : Nat)) (Int.tdiv bd (Int.gcd an bd : Nat))
   unfold mulN at n1 n2
   rw [show mulB (Int.tdiv an (Int.gcd an bd : Nat)) (Int.tdiv bn (Int.gcd bn ad : Nat)) = decide ((muN an ad bn bd).natAbs ≤ 1000000000000000) by
    unfold mulB muN; rw [(inM_iff _).2 t1, (inM_iff _).2 t2, Bool.true_and, Bool.true_and, ← Int.natAbs_mul]] at n1
   rw [show mulB (Int.tdiv ad (Int.gcd bn ad : Nat)) (Int.tdiv bd (Int.gcd an bd : Nat)) = decide (muD an ad bn bd ≤ 1000000000000000) by
    unfold mulB muD
    rw [(inM_iff _).2 (by omega), (inM_iff _).2 (by omega), Bool.true_and, Bool.true_and, ← Int.natAbs_mul]
    have : 0 ≤ Int.tdiv ad (Int.gcd bn ad : Nat) * Int.tdiv bd (Int.gcd an bd : Nat) := Int.mul_nonneg (by omega) (by omega)
    rw [decide_eq_decide]
    omega] at n2
   change Ev E 142 _ (.tup [.int (bif _ then muN an ad bn bd else 0), _]) at n1
   change Ev E 142 _ (.tup [.int (bif _ then muD an ad bn bd else 0), _]) at n2
   rw [hB]
   generalize muN an ad bn bd = x at *
   generalize muD an ad bn bd = y at *
   generalize decide (x.natAbs ≤ 1000000000000000) = k1 at *
   generalize decide (y ≤ 1000000000000000) = k2 at *
   clear hB ha hb
   generalize Int.gcd an bd = G at *
   generalize Int.gcd bn ad = H at *
   have w1 : inR .i64 (Int.tdiv an G) := by simp only [inR]; omega
   have w2 : inR .i64 (Int.tdiv bn H) := by simp only [inR]; omega
   have w3 : inR .i64 (Int.tdiv ad H) := by simp only [inR]; omega
   have w4 : inR .i64 (Int.tdiv bd G) := by simp only [inR]; omega
   have wG : (G : Int) ≠ 0 := by omega
   have wH : (H : Int) ≠ 0 := by omega
   cases k1 <;> cases k2
   all_goals
    refine ye2 func100 ntmps100 fun _ _ _=>?_
    repeat' (first | refine yz ?_ | refine yp b99 hva ?_ | refine yp b99 hvb ?_ | refine qP (d := 25) rfl rfl rfl rfl rfl rfl b139 (g1) ?_ | refine qP (d := 30) rfl rfl rfl rfl rfl rfl b139 (g2) ?_ | refine qP (d := 40) rfl rfl rfl rfl rfl rfl b142 (n1) ?_ | refine qP (d := 52) rfl rfl rfl rfl rfl rfl b142 (n2) ?_ | exact zL)
def divB (an ad bn bd : Int) : Bool := (fval bn bd && !(bn == 0)) && mulF an ad (sgn bn * bd) (bn.natAbs : Int)
def divN (an ad bn bd : Int) : Int := bif divB an ad bn bd then muN an ad (sgn bn * bd) (bn.natAbs : Int) else 0
def divD (an ad bn bd : Int) : Int := bif divB an ad bn bd then muD an ad (sgn bn * bd) (bn.natAbs : Int) else 0
theorem div_ev (an ad bn bd : Int) : Ev E 53 [.agg [.int an, .int ad], .agg [.int bn, .int bd]] (.tup [.agg [.int (divN an ad bn bd), .int (divD an ad bn bd)], .bool (divB an ad bn bd)]) := by
 have hvb := fvalid_ev bn bd
 unfold divN divD
 cases hb : fval bn bd with
 | false =>
  rw [hb] at hvb
  rw [show divB an ad bn bd = false by unfold divB; rw [hb]; rfl]
  refine ye2 func53 ntmps53 fun _ _ _=>?_
  repeat' (first | refine yz ?_ | refine yp b99 hvb ?_ | exact zL)
 | true =>
  obtain ⟨b1, b2, -⟩ := fval_inv hb
  rw [hb] at hvb
  cases h0 : bn == 0 with
  | true =>
   rw [show divB an ad bn bd = false by unfold divB; rw [hb, h0]; rfl]
   refine ye2 func53 ntmps53 fun _ _ _=>?_
   repeat' (first | refine yz ?_ | refine yp b99 hvb ?_ | exact zL)
  | false =>
   have h0' : bn ≠ 0 := by simpa using h0
   rw [show divB an ad bn bd = mulF an ad (sgn bn * bd) (bn.natAbs : Int) by unfold divB; rw [hb, h0]; rfl]
   have hm := mul_ev an ad (sgn bn * bd) (bn.natAbs : Int)
   cases hneg : decide (bn < 0) with
   | true =>
    have hn := of_decide_eq_true hneg
    rw [show sgn bn * bd = 0 - bd by rw [sgn_neg hn]; omega, show (bn.natAbs : Int) = 0 - bn by omega] at hm ⊢
    refine ye2 func53 ntmps53 fun _ _ _=>?_
    repeat' (first | refine yz ?_ | refine yp b99 hvb ?_ | refine yp b100 hm ?_ | exact zL)
   | false =>
    have hn := of_decide_eq_false hneg
    rw [show sgn bn * bd = bd by rw [sgn_pos (by omega)]; omega, show (bn.natAbs : Int) = bn by omega] at hm ⊢
    refine ye2 func53 ntmps53 fun _ _ _=>?_
    repeat' (first | refine yz ?_ | refine yp b99 hvb ?_ | refine yp b100 hm ?_ | exact zL)
attribute [local irreducible] RGo
set_option maxHeartbeats 4000000 in
theorem add_ev (an ad bn bd : Int) : Ev E 98 [.agg [.int an, .int ad], .agg [.int bn, .int bd]] (.tup [.agg [.int (addN an ad bn bd), .int (addD an ad bn bd)], .bool (addB an ad bn bd)]) := by
 have hva := fvalid_ev an ad
 have hvb := fvalid_ev bn bd
 unfold addN addD
 cases ha : fval an ad with
 | false =>
  rw [ha] at hva
  rw [show addB an ad bn bd = false by unfold addB; rw [ha]; rfl]
  refine ye2 func98 ntmps98 fun _ _ _=>?_
  repeat' (first | refine yz ?_ | refine yp b99 hva ?_ | refine yp b99 hvb ?_ | refine yx ?_ | (refine yy ?_ ?_ <;> intro _) | exact zD | exact zL)
 | true =>
  cases hb : fval bn bd with
  | false =>
   rw [ha] at hva
   rw [hb] at hvb
   rw [show addB an ad bn bd = false by unfold addB; rw [ha, hb]; rfl]
   refine ye2 func98 ntmps98 fun _ _ _=>?_
   repeat' (first | refine yz ?_ | refine yp b99 hva ?_ | refine yp b99 hvb ?_ | refine yx ?_ | (refine yy ?_ ?_ <;> intro _) | exact zD | exact zL)
  | true =>
   obtain ⟨G, H, T, p, q, r, m, m', eG, eH, eT, hG, hH, r1, r2, r3, hT, h1, h2, h3, h4, h5, h6, h7, h8, h9⟩ := add_key ha hb
   obtain ⟨a1, a2, -⟩ := fval_inv ha
   obtain ⟨b1, b2, -⟩ := fval_inv hb
   rw [ha] at hva
   rw [hb] at hvb
   have hB : addB an ad bn bd = (T == 0 || (ovB T.natAbs H && decide (Int.tdiv ad G * Int.tdiv bd H ≤ 1000000000000000))) := by
    unfold addB adK adD
    rw [ha, hb, ← eG, ← eH, ← eT]
    rfl
   have hN : adN an ad bn bd = sgn T * ((T.natAbs / H : Nat) : Int) := by unfold adN; rw [← eH, ← eT]
   have hD : adD an ad bn bd = Int.tdiv ad G * Int.tdiv bd H := by unfold adD; rw [← eG, ← eH]
   rw [hN, hD, ← eT]
   have hn := nmul_ev (Int.tdiv ad G) (Int.tdiv bd H)
   have hmb : mulB (Int.tdiv ad G) (Int.tdiv bd H) = decide (Int.tdiv ad G * Int.tdiv bd H ≤ 1000000000000000) := by
    unfold mulB
    rw [(inM_iff _).2 (by omega), (inM_iff _).2 (by omega), Bool.true_and, Bool.true_and, ← Int.natAbs_mul]
    have : 0 ≤ Int.tdiv ad G * Int.tdiv bd H := Int.mul_nonneg (by omega) (by omega)
    rw [decide_eq_decide]
    omega
   unfold mulN at hn
   rw [hmb] at hn
   have w1 : inR .i64 (Int.tdiv bd G) := by simp only [inR]; omega
   have w2 : inR .i64 (Int.tdiv ad G) := by simp only [inR]; omega
   have w3 : inR .i64 (Int.tdiv bd H) := by simp only [inR]; omega
   have w4 : inR .u64 (G : Int) := by simp only [inR]; omega
   have w5 : inR .u64 (H : Int) := by simp only [inR]; omega
   have w6 : T.natAbs % G < G := Nat.mod_lt _ (by omega)
   have w7 : inR .i64 ((T.natAbs % G : Nat) : Int) := by simp only [inR]; omega
   have wG : (G : Int) ≠ 0 := by omega
   have wH : (H : Int) ≠ 0 := by omega
   clear eG eH eT ha hb hN hD hmb
   generalize T.natAbs % G = tm at *
   cases hT0 : T == 0 with
   | true =>
    have hs0 : sgn T = 0 := by rw [show T = 0 by simpa using hT0]; rfl
    rw [hs0] at h5
    rw [hB, hT0]
    refine ye2 func98 ntmps98 fun _ _ _=>?_
    repeat' (first | refine yu 4 [15,16] [] ?_ | refine yk 4 0 15 ?_ | refine yw ?_ | refine rgN ?_ | refine yv ?_ | refine yz ?_ | refine yp b99 hva ?_ | refine yp b99 hvb ?_ | refine qP (d := 26) rfl rfl rfl rfl rfl rfl b139 (h1) ?_ | refine qP (d := 33) rfl rfl rfl rfl rfl rfl b116 (h2) ?_ | refine qP (d := 40) rfl rfl rfl rfl rfl rfl b116 (h3) ?_ | refine yp b117 h4 ?_ | refine yp b118 h5 ?_ | (refine qS rfl ⟨wG, w1⟩ ?_) | (refine qS rfl ⟨wG, w2⟩ ?_) | refine yx ?_ | (refine yy ?_ ?_ <;> intro _) | exact zD | exact zL)
   | false =>
    have hT0' : T ≠ 0 := by simpa using hT0
    have hs0 : (sgn T == 0) = false := by
     rw [beq_eq_false_iff_ne]
     rcases Int.lt_or_gt_of_ne hT0' with h | h
     ·rw [sgn_neg h]; decide
     ·rw [sgn_pos h]; decide
    rw [h8 hT0'] at h9
    rw [hB, hT0]
    generalize sgn T * ((T.natAbs / H : Nat) : Int) = N at *
    generalize hK : decide (Int.tdiv ad G * Int.tdiv bd H ≤ 1000000000000000) = K at *
    cases hO : ovB T.natAbs H <;> cases K <;> rw [hO] at h9
    all_goals
     refine ye2 func98 ntmps98 fun _ _ _=>?_
     repeat' (first | refine yu 4 [15,16] [] ?_ | refine yk 4 0 15 ?_ | refine yw ?_ | refine rgN ?_ | refine yv ?_ | refine yz ?_ | refine yp b99 hva ?_ | refine yp b99 hvb ?_ | refine qP (d := 26) rfl rfl rfl rfl rfl rfl b139 (h1) ?_ | refine qP (d := 33) rfl rfl rfl rfl rfl rfl b116 (h2) ?_ | refine qP (d := 40) rfl rfl rfl rfl rfl rfl b116 (h3) ?_ | refine yp b117 h4 ?_ | refine yp b118 h5 ?_ | refine yp b140 h6 ?_ | refine qP (d := 52) rfl rfl rfl rfl rfl rfl b139 (h7) ?_ | refine yp b141 h9 ?_ | refine yp b142 hn ?_ | (refine qS rfl ⟨wG, w1⟩ ?_) | (refine qS rfl ⟨wG, w2⟩ ?_) | (refine qS rfl ⟨wH, w3⟩ ?_) | refine yx ?_ | (refine yy ?_ ?_ <;> intro _) | exact zD | exact zL)
theorem sub_ev (an ad bn bd : Int) (hb : fval bn bd = true) : Ev E 232 [.agg [.int an, .int ad], .agg [.int bn, .int bd]] (.tup [.agg [.int (addN an ad (0 - bn) bd), .int (addD an ad (0 - bn) bd)], .bool (addB an ad (0 - bn) bd)]) := by
 have h := add_ev an ad (0 - bn) bd
 obtain ⟨b1, b2, -⟩ := fval_inv hb
 refine ye2 func232 ntmps232 fun _ _ _=>?_
 repeat' (first | refine yz ?_ | refine yp b98 h ?_ | refine yx ?_ | (refine yy ?_ ?_ <;> intro _) | exact zD | exact zL)
end Go.Proofs.YtjgmakalledclaaGreatDoor
namespace Go.Proofs.YtjgmakalledclaaGreatDoor
set_option maxRecDepth 4000
open Go Go.Abs Go.Val Go.RowKit Go.Proofs.Tryz
def prP (v : V) : Bool := v.k != 0 && Val.okV v
def presF (l : List V) : List V := l.filter prP
def srtF (l : List V) : List V := stS ordF (presF l)
def pickF (b : Bool) (l : List V) : List V := bif b then uniF ordF (srtF l) else srtF l
def sumB : Int → Int → List V → Bool
 | _, _, [] => true
 | n, d, v :: r => isNum v && (addB n d (numN v) (numD v) && sumB (addN n d (numN v) (numD v)) (addD n d (numN v) (numD v)) r)
def sumN : Int → Int → List V → Int
 | n, _, [] => n
 | n, d, v :: r => sumN (addN n d (numN v) (numD v)) (addD n d (numN v) (numD v)) r
def sumD : Int → Int → List V → Int
 | _, d, [] => d
 | n, d, v :: r => sumD (addN n d (numN v) (numD v)) (addD n d (numN v) (numD v)) r
def numF (b : Bool) (n d : Int) : V := bif b then vRat n d else vNull
def nmCount : List UInt8 := [99, 111, 117, 110, 116]
def nmSum : List UInt8 := [115, 117, 109]
def nmMin : List UInt8 := [109, 105, 110]
def nmMax : List UInt8 := [109, 97, 120]
def nmAvg : List UInt8 := [97, 118, 103]
def nmCollect : List UInt8 := [99, 111, 108, 108, 101, 99, 116]
def avgF (u : List V) : V := numF (sumB 0 1 u && divB (sumN 0 1 u) (sumD 0 1 u) u.length 1) (divN (sumN 0 1 u) (sumD 0 1 u) u.length 1) (divD (sumN 0 1 u) (sumD 0 1 u) u.length 1)
def agU (name : ByteArray) (u : List V) : V :=
 bif name.toList == nmCount then vInt u.length else
 bif name.toList == nmSum then numF (sumB 0 1 u) (sumN 0 1 u) (sumD 0 1 u) else
 bif name.toList == nmCollect then (bif Val.okV (vList u) then vList u else vNull) else
 bif u.length == 0 then vNull else
 bif name.toList == nmMin then atS u 0 else
 bif name.toList == nmMax then atS u (u.length - 1) else
 bif name.toList == nmAvg then avgF u else vNull
def agF (name : ByteArray) (b : Bool) (l : List V) : V := agU name (pickF b l)
theorem srt_perm (l : List V) : (srtF l).Perm (presF l) := (stS_ok ordC (presF l)).1.per
theorem srt_pwS (l : List V) : (srtF l).Pairwise (fun x y => ordF x y ≤ 0) := by
 obtain ⟨r, s⟩ := stS_ok ordC (presF l)
 exact srt_pw (show Srt ordF (stS ordF (presF l)) 0 (stS ordF (presF l)).length by rw [r.len]; exact s)
theorem srtF_of_perm {l m : List V} (h : (presF l).Perm (presF m)) : srtF l = srtF m :=
 pw_uniq ordC ordZ _ _ ((srt_perm l).trans (h.trans (srt_perm m).symm)) (srt_pwS l) (srt_pwS m)
theorem agF_of_perm {l m : List V} (h : (presF l).Perm (presF m)) (name : ByteArray) (b : Bool) : agF name b l = agF name b m := by
 unfold agF pickF
 rw [srtF_of_perm h]
def Ext (c : V → V → Int) (x : V) (l : List V) : Prop := x ∈ l ∧ ∀ y ∈ l, c x y ≤ 0
theorem srt_len (l : List V) : (srtF l).length = (presF l).length := (srt_perm l).length_eq
end Go.Proofs.YtjgmakalledclaaGreatDoor
