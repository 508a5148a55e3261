/- The table of least products: bounds, bits, and how one row of it is found; The table of least products, by the program; The table of least products, by the specification; The bound for a query's rows and the least order that attains it, by the program; The bound for a query's rows and the least order that attains it, by the specification; The bound for walks along a sequence of types, by both texts. Conditions: each part's own, as it says. -/
import Derived.Test.YtenpjlghikohmaaGreatDoorGC
import Derived.Test.YtenpjlghikohmaaGreatDoorLB
set_option linter.unusedVariables false
set_option linter.unusedSimpArgs false
namespace Go.Proofs.YtenpjlghikohmaaGreatDoor
set_option maxRecDepth 4000
open Go Go.Abs Go.Val Go.Proofs.Tryz
theorem missN_le (n set : Nat) : missN n set ≤ n := by
 unfold missN
 refine Nat.le_trans (List.length_filter_le _ _) ?_
 simp
theorem tb_bnd {f : Nat → Nat → Nat} {M : Nat} (hM : ∀ s i, f s i ≤ M) {n : Nat} : ∀ (k set : Nat), set < 2 ^ n → missN n set = k → tb f n set ≤ M ^ k
 | 0, set, h, hk => by rw [tb_full f h (miss_zero hk)]; simp
 | k + 1, set, h, hk => by
  obtain ⟨i, hi, hb⟩ := miss_pos hk
  have h1 := tb_le f h hi hb
  have h2 := miss_add hi hb
  have h3 := tb_bnd hM k (set + 2 ^ i) (add_lt hb h hi) (by omega)
  rw [Nat.pow_succ, Nat.mul_comm]
  exact Nat.le_trans h1 (Nat.mul_le_mul (hM set i) h3)
theorem or_add {x i : Nat} (h : x.testBit i = false) : x ||| (1 * 2 ^ i) = x + 2 ^ i := by
 refine Nat.eq_of_testBit_eq fun j => ?_
 rw [bit_add h, Nat.testBit_or, Nat.one_mul, Nat.testBit_two_pow]
 congr 1
 rw [Bool.eq_iff_iff]
 simp
 exact eq_comm
theorem all_ones {n set : Nat} (h : set < 2 ^ n) (hf : ∀ i, i < n → set.testBit i = true) : set = 2 ^ n - 1 := by
 refine Nat.eq_of_testBit_eq fun j => ?_
 rw [Nat.testBit_two_pow_sub_one]
 rcases Nat.lt_or_ge j n with hlt | hge
 ·rw [hf j hlt]; simpa using hlt
 ·rw [Nat.testBit_lt_two_pow (Nat.lt_of_lt_of_le h (Nat.pow_le_pow_right (by omega) hge))]
  simp; omega
theorem tb_top (f : Nat → Nat → Nat) (n : Nat) : tb f n (2 ^ n - 1) = 1 := by
 have hp := Nat.two_pow_pos n
 refine tb_full f (by omega) fun i hi => ?_
 rw [Nat.testBit_two_pow_sub_one]
 simpa using hi
def curO (f : Nat → Nat → Nat) (n set i : Nat) : Option Nat := (List.range i).foldl (stepT (fun i => f set i * tb f n (set + 2 ^ i)) set) none
theorem curO_on {f : Nat → Nat → Nat} {n set i : Nat} (h : set.testBit i = true) : curO f n set (i + 1) = curO f n set i := by
 unfold curO
 rw [List.range_succ, List.foldl_append, List.foldl_cons, List.foldl_nil]
 simp only [stepT, h, cond_true]
theorem curO_off {f : Nat → Nat → Nat} {n set i : Nat} (h : set.testBit i = false) : curO f n set (i + 1) = some (minO (curO f n set i) (f set i * tb f n (set + 2 ^ i))) := by
 unfold curO
 rw [List.range_succ, List.foldl_append, List.foldl_cons, List.foldl_nil]
 simp only [stepT, h, cond_false]
theorem curO_all (f : Nat → Nat → Nat) {n set : Nat} (h : set < 2 ^ n) : tb f n set = (curO f n set n).getD 1 := tb_eq f h
theorem curO_none {f : Nat → Nat → Nat} {n set : Nat} : ∀ i, curO f n set i = none → ∀ j, j < i → set.testBit j = true
 | 0, _, j, hj => by omega
 | i + 1, h, j, hj => by
  cases hb : set.testBit i with
  | false => rw [curO_off hb] at h; cases h
  | true =>
   rw [curO_on hb] at h
   rcases Nat.lt_succ_iff_lt_or_eq.1 hj with h1 | rfl
   ·exact curO_none i h j h1
   ·exact hb
theorem curO_bnd {f : Nat → Nat → Nat} {n set M : Nat} (h : ∀ i, i < n → set.testBit i = false → f set i * tb f n (set + 2 ^ i) ≤ M) : ∀ i, i ≤ n → ∀ v, curO f n set i = some v → v ≤ M
 | 0, _, v, hv => by simp [curO] at hv
 | i + 1, hi, v, hv => by
  cases hb : set.testBit i with
  | true => rw [curO_on hb] at hv; exact curO_bnd h i (by omega) v hv
  | false =>
   rw [curO_off hb] at hv
   cases hv
   have h1 := h i (by omega) hb
   cases hc : curO f n set i with
   | none => exact h1
   | some y =>
    have := curO_bnd h i (by omega) y hc
    simp only [minO]
    split <;> omega
theorem cmp_lt0 (x y : Nat) : decide (cmpN x y < 0) = decide (x < y) := by
 unfold cmpN
 split
 ·rename_i h; simp [h]
 ·split <;> simp <;> omega
structure TabOK (f : Nat → Nat → Nat) (n m : Nat) (bs : List D) : Prop where
 len : bs.length = 2 ^ n
 at_ : ∀ k, m ≤ k → k < 2 ^ n → bs[k]? = some (natD (tb f n k))
 sl : ∀ (k : Nat) d, bs[k]? = some d → ∃ l, d = .sl l
theorem set_sl {bs : List D} (h : ∀ (k : Nat) d, bs[k]? = some d → ∃ l, d = .sl l) (m : Nat) (l : List D) : ∀ (k : Nat) d, (bs.set m (.sl l))[k]? = some d → ∃ l, d = .sl l := by
 intro k d hd
 rw [List.getElem?_set] at hd
 split at hd
 ·split at hd
  ·cases hd; exact ⟨l, rfl⟩
  ·cases hd
 ·exact h k d hd
theorem tab_start (f : Nat → Nat → Nat) (n : Nat) : TabOK f n (2 ^ n - 1) ((List.replicate (2 ^ n) (D.sl [])).set (2 ^ n - 1) (natD 1)) := by
 have hp := Nat.two_pow_pos n
 refine ⟨by simp, fun k h1 h2 => ?_, set_sl (fun k d hd => ?_) _ _⟩
 ·obtain rfl : k = 2 ^ n - 1 := by omega
  rw [List.getElem?_set, if_pos rfl, if_pos (by simpa using h2), tb_top]
 ·rw [List.getElem?_replicate] at hd
  split at hd
  ·cases hd; exact ⟨[], rfl⟩
  ·cases hd
def tabD (f : Nat → Nat → Nat) (n : Nat) : List D := (List.range (2 ^ n)).map fun k => natD (tb f n k)
theorem TabOK.all {f : Nat → Nat → Nat} {n : Nat} {bs : List D} (h : TabOK f n 0 bs) : bs = tabD f n := by
 refine List.ext_getElem? fun k => ?_
 rcases Nat.lt_or_ge k (2 ^ n) with hlt | hge
 ·rw [h.at_ k (by omega) hlt, tabD, List.getElem?_map, List.getElem?_range hlt]
  rfl
 ·rw [List.getElem?_eq_none (by rw [h.len]; exact hge), List.getElem?_eq_none (by rw [tabD, List.length_map, List.length_range]; exact hge)]
theorem tabD_len (f : Nat → Nat → Nat) (n : Nat) : (tabD f n).length = 2 ^ n := by simp [tabD]
theorem tabD_at (f : Nat → Nat → Nat) {n k : Nat} (h : k < 2 ^ n) : (tabD f n)[k]? = some (natD (tb f n k)) := by
 rw [tabD, List.getElem?_map, List.getElem?_range h]; rfl
theorem TabOK.set {f : Nat → Nat → Nat} {n m : Nat} {bs : List D} (h : TabOK f n (m + 1) bs) (hm : m < 2 ^ n) : TabOK f n m (bs.set m (natD (tb f n m))) := by
 refine ⟨by rw [List.length_set]; exact h.len, fun k h1 h2 => ?_, set_sl h.sl _ _⟩
 rw [List.getElem?_set]
 by_cases e : m = k
 ·subst e
  rw [if_pos rfl, if_pos (by rw [h.len]; exact hm)]
 ·rw [if_neg e]
  exact h.at_ k (by omega) h2
theorem TabOK.keep {f : Nat → Nat → Nat} {n m : Nat} {bs : List D} (h : TabOK f n (m + 1) bs) (l : List D) : TabOK f n (m + 1) (bs.set m (.sl l)) := by
 refine ⟨by rw [List.length_set]; exact h.len, fun k h1 h2 => ?_, set_sl h.sl _ _⟩
 rw [List.getElem?_set_ne (by omega)]
 exact h.at_ k h1 h2
structure CurOK (f : Nat → Nat → Nat) (n m i : Nat) (bs : List D) : Prop where
 tab : TabOK f n (m + 1) bs
 cur : ∀ v, curO f n m i = some v → bs[m]? = some (natD v)
theorem CurOK.done {f : Nat → Nat → Nat} {n m : Nat} {bs : List D} (h : CurOK f n m n bs) (hm : m + 1 < 2 ^ n) : TabOK f n m bs := by
 refine ⟨h.tab.len, fun k h1 h2 => ?_, h.tab.sl⟩
 rcases Nat.lt_or_ge m k with hlt | hge
 ·exact h.tab.at_ k hlt h2
 ·obtain rfl : k = m := by omega
  rw [curO_all f h2]
  cases hc : curO f n k n with
  | none =>
   have := all_ones h2 (curO_none n hc)
   omega
  | some v => exact h.cur v hc
theorem tb_lim {f : Nat → Nat → Nat} {n : Nat} (hn : n ≤ 7) (hM : ∀ s i, f s i ≤ 9223372036854775807) {set : Nat} (h : set < 2 ^ n) : tb f n set ≤ 9223372036854775807 ^ 7 := by
 refine Nat.le_trans (tb_bnd hM _ set h rfl) (Nat.pow_le_pow_right (by omega) (Nat.le_trans (missN_le n set) hn))
theorem lim_of_le {x : Nat} (h : x ≤ 9223372036854775807 ^ 15) : (lim x).length ≤ 64 := lim_len.2 (Nat.lt_of_le_of_lt h (by decide))
theorem fit_of {x : Nat} (h : (lim x).length ≤ 64) : fit64 x = true ∧ capN x = x := by
 have : fit64 x = true := by unfold fit64; simpa using h
 exact ⟨this, by unfold capN; rw [this]; rfl⟩
theorem atomF_rng {s : STA} (hs : Fit (encST s)) (a : AT) (b : List Int) : inR .i64 (atomF s a b) := by
 obtain ⟨f1, f2, f3, f4, -, -⟩ := fit_ST hs
 have z0 : inR .i64 0 := by simp [inR]
 have z1 : inR .i64 1 := by simp [inR]
 have hn : ∀ nm, inR .i64 (nodesF s nm) := fun nm => by
  unfold nodesF
  cases nm.toList == (⟨#[]⟩ : ByteArray).toList with
  | true => exact f1
  | false => exact cntF_rng f3
 have he : inR .i64 (edgesF s a.ty) := by
  unfold edgesF
  cases a.ty.length == 0 with
  | true => exact f2
  | false => exact fold_rng _ (fun n x _ => addW_rng _ _) _ _ z0
 have ho := maxF_rng s a.ty 1
 have hi := maxF_rng s a.ty 2
 have hb : ∀ (c : Bool) (x y : Int), inR .i64 x → inR .i64 y → inR .i64 (bif c then x else y) := fun c x y hx hy => by cases c <;> assumption
 have hm : ∀ (x y : Int), inR .i64 x → inR .i64 y → inR .i64 (min x y) := fun x y hx hy => by rcases Int.le_total x y with h | h <;> simp only [Int.min_def] <;> split <;> assumption
 unfold atomF
 exact hb _ _ _ z0 (hb _ _ _ z1 (hb _ _ _ (hn _) (hb _ _ _ (hn _) (hb _ _ _ z1 (hb _ _ _ (hm _ _ ho hi) (hb _ _ _ ho (hb _ _ _ hi he)))))))
theorem facF_le {s : STA} (hs : Fit (encST s)) (c : CJ) (set i : Nat) : facF s c set i ≤ 9223372036854775807 := by
 unfold facF
 split
 ·rename_i a ha
  have := atomF_rng hs a (boundF c set)
  simp only [inR] at this
  omega
 ·omega
attribute [local irreducible] Ev EvO EvS ExtEv HasBody PGo RGo SGo go
structure SPp (f : Nat → Nat → Nat) (n : Nat) where
 m : Nat
 bs : List D
 hm : m ≤ 2 ^ n - 1
 ok : TabOK f n m bs
structure SPq (f : Nat → Nat → Nat) (n k : Nat) where
 i : Nat
 bs : List D
 hi : i ≤ n
 ok : CurOK f n k i bs
theorem set_at {bs : List D} {k : Nat} {z : Int} (hz : z = (k : Int)) (l : List D) (e : List D) : bs.set z.toNat (subD (.sl l) 0 (.sl e)) = bs.set k (.sl e) := by
 subst hz; rw [Int.toNat_natCast]; rfl
theorem CurOK.start {f : Nat → Nat → Nat} {n k : Nat} {bs : List D} (h : TabOK f n (k + 1) bs) : CurOK f n k 0 bs := ⟨h, fun v hv => by simp [curO] at hv⟩
theorem CurOK.on {f : Nat → Nat → Nat} {n k i : Nat} {bs : List D} (h : CurOK f n k i bs) (hb : k.testBit i = true) : CurOK f n k (i + 1) bs := ⟨h.tab, fun v hv => h.cur v (by rw [← curO_on hb]; exact hv)⟩
theorem CurOK.put {f : Nat → Nat → Nat} {n k i x : Nat} {bs : List D} (h : CurOK f n k i bs) (hk : k < 2 ^ n) (hx : curO f n k (i + 1) = some x) : CurOK f n k (i + 1) (bs.set k (natD x)) := by
 refine ⟨h.tab.keep _, fun v hv => ?_⟩
 rw [hx] at hv
 cases hv
 rw [List.getElem?_set, if_pos rfl, if_pos (by rw [h.tab.len]; exact hk)]
theorem CurOK.stay {f : Nat → Nat → Nat} {n k i v : Nat} {bs : List D} (h : CurOK f n k i bs) (hc : curO f n k i = some v) (hx : curO f n k (i + 1) = some v) : CurOK f n k (i + 1) bs := by
 refine ⟨h.tab, fun w hw => ?_⟩
 rw [hx] at hw
 cases hw
 exact h.cur v hc
abbrev oCJ (c : CJ) : AObj := .var 28 (.w (.d (encCJ c)))
abbrev oSearch2 (s : STA) (c : CJ) : AObj := .var 118 (.cs [.d (.int s.nodes), .d (.int s.edges), .d (.sl (s.lb.map encCT)), .d (.sl (s.ty.map encCT)), .d (.sl (s.outs.map intsD)), .d (.sl (s.ins.map intsD)), .d (.sl (c.vs.map .str)), .d (.sl (c.aq.map encAT)), .own 2])
set_option maxHeartbeats 4000000 in
theorem prepare_ev (s : STA) (c : CJ) (hc : OkC c) (hn7 : c.aq.length ≤ 7) (hs : Fit (encST s)) : EvS E 50 [.d (encST s), .d (encCJ c)] [] (.ptr 0 0) [oSearch s c, oBest (tabD (facF s c) c.aq.length)] := by
 have hle : (c.aq.map encAT).length = c.aq.length := by simp
 have hM := facF_le hs c
 have hfac := fun (bs : List D) (set i : Nat) (hi : i < c.aq.length) (hs : set < 4096) => factor_ev s c bs set i hc hi hs
 have hts := tab_start (facF s c) c.aq.length
 have hlim := fun {set : Nat} (h : set < 2 ^ c.aq.length) => tb_lim hn7 hM h
 generalize facF s c = f at *
 generalize hn : c.aq.length = n at *
 have hp : 2 ^ n ≤ 128 := Nat.pow_le_pow_right (n := 2) (by omega) hn7
 have hp1 := Nat.two_pow_pos n
 have hrl : (List.replicate (1 * 2 ^ n) (D.sl [])).length = 1 * 2 ^ n := by simp
 have hd0 : (List.replicate (1 * 2 ^ n) (D.sl []))[((((1 * 2 ^ n : Nat)) : Int) - 1).toNat]? = some (.sl []) := by
  rw [List.getElem?_replicate, if_pos (by omega)]
 have hall : (((1 * 2 ^ n : Nat)) : Int) - 1 = ((2 ^ n - 1 : Nat) : Int) := by omega
 have h1 : Ev E 18 [.int 1] (.d (natD 1)) := nof_ev 1
 refine yn func50 ntmps50 fun _ _ _ _=>?_
 repeat' (first | refine yu 2 [4, 6] [] ?_ | refine yk 2 0 2 ?_ | refine yf 2 2 2 ?_ | refine yw ?_ | refine yf 2 5 1 ?_ | refine yf 2 7 1 ?_ | refine rgN ?_ | refine yv ?_ | refine yz ?_ | refine yx ?_ | (refine yy ?_ ?_ <;> intro _) | exact zD | exact zL)
 rw [hle]
 repeat' (first | refine yu 2 [4, 6] [] ?_ | refine yk 2 0 2 ?_ | refine yf 2 2 2 ?_ | refine yw ?_ | refine yf 2 5 1 ?_ | refine yf 2 7 1 ?_ | refine rgN ?_ | refine yv ?_ | refine yq 4 [7] ?_ | refine yf 4 0 7 ?_ | refine rgN ?_ | refine yv ?_ | refine yz ?_ | (refine go_shl 1 n rfl rfl rfl rfl rfl rfl (by omega) (by omega) ?_) | refine rgS (id := 2) (i := 4) rfl rfl rfl rfl (⟨rfl, by (show 24 * (1 * 2 ^ n) ≤ 281474976710656; omega), by omega⟩) (by repeat (first | exact trivial | refine ⟨⟨rfl, rfl⟩, ?_⟩ | refine ⟨trivial, ?_⟩)) ?_ | refine go_buildP rfl rfl rfl rfl rfl rfl rfl rfl rfl rfl ?_ | refine yp b18 h1 ?_ | refine yx ?_ | (refine yy ?_ ?_ <;> intro _) | exact zD | exact zL)
 rw [hall]
 have hb0 : (List.replicate (1 * 2 ^ n) (D.sl [])).set ((2 ^ n - 1 : Nat) : Int).toNat (subD (D.sl []) 0 (natD 1)) = (List.replicate (2 ^ n) (D.sl [])).set (2 ^ n - 1) (natD 1) := by
  rw [set_at rfl, Nat.one_mul]
 generalize (List.replicate (2 ^ n) (D.sl [])).set (2 ^ n - 1) (natD 1) = bs0 at hts hb0
 refine go_loop_ (α := SPp f n) (fun p => ⟨[(5, .d (.int n)), (6, .ptr 3 0), (8, .d (.int ((p.m : Int) - 1)))], [oST s, oCJ c, oBest p.bs, oSearch2 s c]⟩) (fun p => p.m) ⟨2 ^ n - 1, bs0, Nat.le_refl _, hts⟩ (by rw [hb0]; exact (zle 4)) ?_
 rintro ⟨m, bs, hm, ok⟩
 dsimp only
 cases m with
 | zero =>
  have g1 : decide (((0 : Nat) : Int) - 1 ≥ 0) = false := rfl
  rw [ok.all]
  repeat' (first | refine yz ?_ | refine retS1 [3, 2] rfl rfl rfl rfl rfl ?_ | refine yx ?_ | (refine yy ?_ ?_ <;> intro _) | exact zD | exact zL)
  rfl
 | succ k =>
  have ek : ((k + 1 : Nat) : Int) - 1 = (k : Int) := by omega
  rw [ek]
  have g1 : decide ((k : Int) ≥ 0) = true := by simp
  have hk : k < 2 ^ n := by omega
  repeat' (first | refine yz ?_ | refine yx ?_ | (refine yy ?_ ?_ <;> intro _) | exact zD | exact zL)
  refine go_loop_ (α := SPq f n k) (fun p => ⟨[(5, .d (.int n)), (6, .ptr 3 0), (8, .d (.int k)), (9, .d (.bool (curO f n k p.i).isNone)), (39, .d (.int n)), (40, .d (.int p.i))], [oST s, oCJ c, oBest p.bs, oSearch2 s c]⟩) (fun p => n - p.i) ⟨0, bs, by omega, CurOK.start ok⟩ (zle 4) ?_
  rintro ⟨i, bs, hi, ok⟩
  dsimp only
  have hbl := ok.tab.len
  rcases Nat.lt_or_ge i n with hlt | hge
  ·have g2 : decide ((i : Int) < (n : Int)) = true := by simpa using hlt
   have g3 := bit_and k i
   cases hb : k.testBit i with
   | true =>
    rw [hb] at g3
    repeat' (first | refine yz ?_ | (refine go_shr k i rfl rfl rfl rfl rfl rfl (by omega) (by omega) ?_) | (refine go_and (k / 2 ^ i) 1 rfl rfl rfl rfl rfl rfl (Nat.lt_of_le_of_lt (Nat.div_le_self _ _) (by omega)) (by omega) ?_) | refine yx ?_ | (refine yy ?_ ?_ <;> intro _) | exact zD | exact zL)
    refine go_stop ?_
    refine ⟨⟨i + 1, bs, hlt, ok.on hb⟩, by dsimp only; omega, ?_⟩
    dsimp only
    rw [curO_on hb]
    exact (zle 4)
   | false =>
    rw [hb] at g3
    have hk2 := add_lt hb hk hlt
    have hor := or_add hb
    have hfk := hfac bs k i hlt (by omega)
    have htk := ok.tab.at_ (k + 2 ^ i) (by have := Nat.two_pow_pos i; omega) hk2
    have hix : bs[((k ||| (1 * 2 ^ i) : Nat) : Int).toNat]? = some (natD (tb f n (k + 2 ^ i))) := by rw [Int.toNat_natCast, hor]; exact htk
    have hib : k ||| (1 * 2 ^ i) < bs.length := by rw [hor, hbl]; exact hk2
    have hi128 : 1 * 2 ^ i ≤ 128 := by
     have := Nat.pow_le_pow_right (n := 2) (by omega) (Nat.le_of_lt (Nat.lt_of_lt_of_le hlt hn7))
     omega
    have b1 := hM k i
    have b2 := hlim hk2
    have b3 : f k i * tb f n (k + 2 ^ i) ≤ 9223372036854775807 ^ 8 := by
     rw [show (8 : Nat) = 7 + 1 from rfl, Nat.pow_succ, Nat.mul_comm]
     exact Nat.mul_le_mul b2 b1
    have l1 : (lim (f k i)).length ≤ 64 := lim_of_le (Nat.le_trans b1 (by decide))
    have l2 : (lim (tb f n (k + 2 ^ i))).length ≤ 64 := lim_of_le (Nat.le_trans b2 (by decide))
    have l3 : (lim (f k i * tb f n (k + 2 ^ i))).length ≤ 64 := lim_of_le (Nat.le_trans b3 (by decide))
    have hmul := nmul_ev (f k i) (tb f n (k + 2 ^ i)) l1 l2
    rw [(fit_of l3).1, (fit_of l3).2] at hmul
    have hcx := curO_off (f := f) (n := n) hb
    have hcb := curO_bnd (f := f) (n := n) (set := k) (M := 9223372036854775807 ^ 8) (fun j hj hbj => by
     rw [show (8 : Nat) = 7 + 1 from rfl, Nat.pow_succ, Nat.mul_comm]
     exact Nat.mul_le_mul (hlim (add_lt hbj hk hj)) (hM k j)) i hi
    generalize f k i * tb f n (k + 2 ^ i) = x at *
    obtain ⟨d0, hd0⟩ : ∃ d, bs[k]? = some d := ⟨_, List.getElem?_eq_getElem (by omega)⟩
    obtain ⟨l0, rfl⟩ := ok.tab.sl k d0 hd0
    have hdk : bs[((k : Nat) : Int).toNat]? = some (D.sl l0) := by rw [Int.toNat_natCast]; exact hd0
    have hst : bs.set ((k : Nat) : Int).toNat (subD (D.sl l0) 0 (natD x)) = bs.set k (natD x) := set_at rfl _ _
    cases hcur : curO f n k i with
    | none =>
     rw [hcur] at hcx
     repeat' (first | refine qCP (id := 13) (by kernel_rfl) ?_ | refine pgF (id := 13) (i := 0) 3 rfl rfl ?_ | refine pgF (id := 13) (i := 4) 16 rfl rfl ?_ | refine pgN ?_ | refine yz ?_ | (refine go_shr k i rfl rfl rfl rfl rfl rfl (by omega) (by omega) ?_) | (refine go_and (k / 2 ^ i) 1 rfl rfl rfl rfl rfl rfl (Nat.lt_of_le_of_lt (Nat.div_le_self _ _) (by omega)) (by omega) ?_) | refine pgS (id := 13) (i := 3) [3, 2] rfl rfl rfl rfl (FnX.plain _) b130 (hfk) rfl rfl rfl rfl rfl ?_ | (refine go_shl 1 i rfl rfl rfl rfl rfl rfl (by omega) (by omega) ?_) | (refine go_or k (1 * 2 ^ i) rfl rfl rfl rfl rfl rfl (by omega) (by omega) ?_) | refine qW (natD (tb f n (k + 2 ^ i))) rfl rfl rfl rfl rfl rfl hix rfl ?_ | refine yp b128 hmul ?_ | refine qZ (D.sl l0) rfl rfl rfl rfl rfl rfl hdk rfl rfl rfl ?_ | refine yx ?_ | (refine yy ?_ ?_ <;> intro _) | exact zD | exact zL)
     refine go_stop ?_
     refine ⟨⟨i + 1, bs.set k (natD x), hlt, ok.put hk hcx⟩, by dsimp only; omega, ?_⟩
     dsimp only
     rw [hcx, ← hst]
     exact (zle 4)
    | some v =>
     rw [hcur] at hcx
     have hv0 := ok.cur v hcur
     rw [hd0] at hv0
     have hv1 : bs[((k : Nat) : Int).toNat]? = some (natD v) := by rw [Int.toNat_natCast, hd0]; exact hv0
     have l4 : (lim v).length ≤ 64 := lim_of_le (Nat.le_trans (hcb v hcur) (by decide))
     have hcmp := ncmp_ev x v l3 l4
     have g4 := cmp_lt0 x v
     cases hxv : decide (x < v) with
     | true =>
      rw [hxv] at g4
      have e : minO (some v) x = x := by simp only [minO]; rw [if_pos (of_decide_eq_true hxv)]
      rw [e] at hcx
      repeat' (first | refine qCP (id := 13) (by kernel_rfl) ?_ | refine pgF (id := 13) (i := 0) 3 rfl rfl ?_ | refine pgF (id := 13) (i := 4) 16 rfl rfl ?_ | refine pgN ?_ | refine yz ?_ | (refine go_shr k i rfl rfl rfl rfl rfl rfl (by omega) (by omega) ?_) | (refine go_and (k / 2 ^ i) 1 rfl rfl rfl rfl rfl rfl (Nat.lt_of_le_of_lt (Nat.div_le_self _ _) (by omega)) (by omega) ?_) | refine pgS (id := 13) (i := 3) [3, 2] rfl rfl rfl rfl (FnX.plain _) b130 (hfk) rfl rfl rfl rfl rfl ?_ | (refine go_shl 1 i rfl rfl rfl rfl rfl rfl (by omega) (by omega) ?_) | (refine go_or k (1 * 2 ^ i) rfl rfl rfl rfl rfl rfl (by omega) (by omega) ?_) | refine qW (natD (tb f n (k + 2 ^ i))) rfl rfl rfl rfl rfl rfl hix rfl ?_ | refine yp b128 hmul ?_ | refine qW (natD v) rfl rfl rfl rfl rfl rfl hv1 rfl ?_ | refine yp b17 hcmp ?_ | refine qZ (D.sl l0) rfl rfl rfl rfl rfl rfl hdk rfl rfl rfl ?_ | refine yx ?_ | (refine yy ?_ ?_ <;> intro _) | exact zD | exact zL)
      refine go_stop ?_
      refine ⟨⟨i + 1, bs.set k (natD x), hlt, ok.put hk hcx⟩, by dsimp only; omega, ?_⟩
      dsimp only
      rw [hcx, ← hst]
      exact (zle 4)
     | false =>
      rw [hxv] at g4
      have e : minO (some v) x = v := by simp only [minO]; rw [if_neg (of_decide_eq_false hxv)]
      rw [e] at hcx
      repeat' (first | refine qCP (id := 13) (by kernel_rfl) ?_ | refine pgF (id := 13) (i := 0) 3 rfl rfl ?_ | refine pgF (id := 13) (i := 4) 16 rfl rfl ?_ | refine pgN ?_ | refine yz ?_ | (refine go_shr k i rfl rfl rfl rfl rfl rfl (by omega) (by omega) ?_) | (refine go_and (k / 2 ^ i) 1 rfl rfl rfl rfl rfl rfl (Nat.lt_of_le_of_lt (Nat.div_le_self _ _) (by omega)) (by omega) ?_) | refine pgS (id := 13) (i := 3) [3, 2] rfl rfl rfl rfl (FnX.plain _) b130 (hfk) rfl rfl rfl rfl rfl ?_ | (refine go_shl 1 i rfl rfl rfl rfl rfl rfl (by omega) (by omega) ?_) | (refine go_or k (1 * 2 ^ i) rfl rfl rfl rfl rfl rfl (by omega) (by omega) ?_) | refine qW (natD (tb f n (k + 2 ^ i))) rfl rfl rfl rfl rfl rfl hix rfl ?_ | refine yp b128 hmul ?_ | refine qW (natD v) rfl rfl rfl rfl rfl rfl hv1 rfl ?_ | refine yp b17 hcmp ?_ | refine yx ?_ | (refine yy ?_ ?_ <;> intro _) | exact zD | exact zL)
      refine go_stop ?_
      refine ⟨⟨i + 1, bs, hlt, ok.stay hcur hcx⟩, by dsimp only; omega, ?_⟩
      dsimp only
      rw [hcx]
      exact (zle 4)
  ·have g2 : decide ((i : Int) < (n : Int)) = false := by simp; omega
   obtain rfl : i = n := by omega
   repeat' (first | refine yz ?_ | refine yx ?_ | (refine yy ?_ ?_ <;> intro _) | exact zD | exact zL)
   refine go_stop ?_
   exact ⟨⟨k, bs, by omega, ok.done (by omega)⟩, by dsimp only; omega, (zle 4)⟩
structure CurR (f : Nat → Nat → Nat) (n m i : Nat) (bs : List D) : Prop where
 tab : TabOK f n (m + 1) bs
 cur : bs[m]? = some (natD ((curO f n m i).getD 1))
theorem CurR.done {f : Nat → Nat → Nat} {n m : Nat} {bs : List D} (h : CurR f n m n bs) : TabOK f n m bs := by
 refine ⟨h.tab.len, fun k h1 h2 => ?_, h.tab.sl⟩
 rcases Nat.lt_or_ge m k with hlt | hge
 ·exact h.tab.at_ k hlt h2
 ·obtain rfl : k = m := by omega
  rw [curO_all f h2]
  exact h.cur
theorem CurR.start {f : Nat → Nat → Nat} {n k : Nat} {bs : List D} (h : TabOK f n (k + 1) bs) (hk : k < 2 ^ n) : CurR f n k 0 (bs.set k (natD 1)) :=
 ⟨h.keep _, by rw [List.getElem?_set, if_pos rfl, if_pos (by rw [h.len]; exact hk)]; rfl⟩
theorem CurR.on {f : Nat → Nat → Nat} {n k i : Nat} {bs : List D} (h : CurR f n k i bs) (hb : k.testBit i = true) : CurR f n k (i + 1) bs := ⟨h.tab, by rw [curO_on hb]; exact h.cur⟩
theorem CurR.put {f : Nat → Nat → Nat} {n k i x : Nat} {bs : List D} (h : CurR f n k i bs) (hk : k < 2 ^ n) (hx : curO f n k (i + 1) = some x) : CurR f n k (i + 1) (bs.set k (natD x)) :=
 ⟨h.tab.keep _, by rw [List.getElem?_set, if_pos rfl, if_pos (by rw [h.tab.len]; exact hk), hx]; rfl⟩
theorem CurR.stay {f : Nat → Nat → Nat} {n k i v : Nat} {bs : List D} (h : CurR f n k i bs) (hc : curO f n k i = some v) (hx : curO f n k (i + 1) = some v) : CurR f n k (i + 1) bs :=
 ⟨h.tab, by rw [hx, ← hc]; exact h.cur⟩
def rowV (s : STA) (c : CJ) (e : Int) : Nat := bif e == 0 then rowsF s c else 0
def ordV (s : STA) (c : CJ) (e : Int) : List Int := bif e == 0 then (orderF s c).map Int.ofNat else []
theorem rows_ev (s : STA) (c : CJ) (e : Int) (hk : Ev E 30 [encCJ c] (.d (.int e))) (hc : e = 0 → OkC c ∧ c.aq.length ≤ 7) : Ev E 16 [encST s, encCJ c] (.tup [natD (rowV s c e), .int e]) := Ev.fit fun hfit => by
 unfold rowV
 cases he : e == 0 with
 | false =>
  have he' : (e != 0) = true := by rw [bne, he]; rfl
  refine ye2 func16 ntmps16 fun _ _ _=>?_
  repeat' (first | refine yz ?_ | refine yp b30 hk ?_ | refine yx ?_ | (refine yy ?_ ?_ <;> intro _) | exact zD | exact zL)
 | true =>
  have he' : (e != 0) = false := by rw [bne, he]; rfl
  have h0 : e = 0 := by simpa using he
  obtain ⟨ok, h7⟩ := hc h0
  have hp := prepare_ev s c ok h7 (hfit (encST s) (by simp))
  have hx : (tabD (facF s c) c.aq.length)[(0 : Int).toNat]? = some (natD (rowsF s c)) := tabD_at _ (Nat.two_pow_pos _)
  have hl : 0 < (tabD (facF s c) c.aq.length).length := by rw [tabD_len]; exact Nat.two_pow_pos _
  rw [h0] at hk ⊢
  have hz : ((0 : Int) != 0) = false := rfl
  refine ye2 func16 ntmps16 fun _ _ _=>?_
  repeat' (first | refine yz ?_ | refine yp b30 hk ?_ | refine yc [] b50 (hp) ?_ | refine qW (natD (rowsF s c)) rfl rfl rfl rfl rfl rfl hx rfl ?_ | refine yx ?_ | (refine yy ?_ ?_ <;> intro _) | exact zD | exact zL)
def cndF (f : Nat → Nat → Nat) (n set p i : Nat) : Bool := !set.testBit i && (p * f set i * tb f n (set + 2 ^ i) == tb f n 0)
theorem next_at {f : Nat → Nat → Nat} {n set p i : Nat} (hi : i < n) (h : ∀ j, j < i → cndF f n set p j = false) (hc : cndF f n set p i = true) : nextF f n set p = some i := by
 unfold nextF
 rw [List.find?_eq_some_iff_getElem]
 refine ⟨hc, i, by simpa using hi, by simp, fun j hj => ?_⟩
 have := h j hj
 unfold cndF at this
 simp only [List.getElem_range, this, Bool.not_false]
theorem next_none {f : Nat → Nat → Nat} {n set p : Nat} (h : ∀ j, j < n → cndF f n set p j = false) : nextF f n set p = none := by
 unfold nextF
 rw [List.find?_eq_none]
 intro x hx
 have := h x (by simpa using hx)
 unfold cndF at this
 simpa using this
structure SOr2 (f : Nat → Nat → Nat) (n : Nat) where
 r : Nat
 set : Nat
 p : Nat
 out : List Nat
 hr : r ≤ n
 hs : set < 2 ^ n
 hp : p ≤ 9223372036854775807 ^ r
 ho : out.length ≤ r
 ok : ordG f n n 0 1 = out ++ ordG f n (n - r) set p
structure SOi (f : Nat → Nat → Nat) (n set p : Nat) where
 i : Nat
 hi : i ≤ n
 no : ∀ j, j < i → cndF f n set p j = false
theorem SOi.next {f : Nat → Nat → Nat} {n set p i : Nat} (h : ∀ j, j < i → cndF f n set p j = false) (hc : cndF f n set p i = false) : ∀ j, j < i + 1 → cndF f n set p j = false := by
 intro j hj
 rcases Nat.lt_succ_iff_lt_or_eq.1 hj with h1 | rfl
 ·exact h j h1
 ·exact hc
theorem ord_found {f : Nat → Nat → Nat} {n r set p i : Nat} {out : List Nat} (hr : r < n) (ok : ordG f n n 0 1 = out ++ ordG f n (n - r) set p) (h : nextF f n set p = some i) : ordG f n n 0 1 = (out ++ [i]) ++ ordG f n (n - (r + 1)) (set + 2 ^ i) (p * f set i) := by
 rw [ok]
 obtain ⟨k, hk⟩ : ∃ k, n - r = k + 1 := ⟨n - r - 1, by omega⟩
 rw [hk, show n - (r + 1) = k by omega, ordG, h]
 simp
theorem ord_lost {f : Nat → Nat → Nat} {n r set p : Nat} {out : List Nat} (hr : r < n) (ok : ordG f n n 0 1 = out ++ ordG f n (n - r) set p) (h : nextF f n set p = none) : ordG f n n 0 1 = out ++ ordG f n (n - (r + 1)) set p := by
 rw [ok]
 obtain ⟨k, hk⟩ : ∃ k, n - r = k + 1 := ⟨n - r - 1, by omega⟩
 rw [hk, show n - (r + 1) = k by omega, ordG, h]
theorem pow_step {p x r : Nat} (hp : p ≤ 9223372036854775807 ^ r) (hx : x ≤ 9223372036854775807) : p * x ≤ 9223372036854775807 ^ (r + 1) := by rw [Nat.pow_succ]; exact Nat.mul_le_mul hp hx
theorem pow_up {p r k : Nat} (hp : p ≤ 9223372036854775807 ^ r) (h : r ≤ k) : p ≤ 9223372036854775807 ^ k := Nat.le_trans hp (Nat.pow_le_pow_right (by omega) h)
theorem cmp_eq0 (x y : Nat) : (cmpN x y == 0) = (x == y) := by
 unfold cmpN
 split
 ·rename_i h
  rw [show (x == y) = false by simp; omega]; rfl
 ·split
  ·rw [show (x == y) = false by simp; omega]; rfl
  ·rw [show (x == y) = true by simp; omega]; rfl
abbrev oSearch3 (s : STA) (c : CJ) : AObj := .var 118 (.cs [.d (.int s.nodes), .d (.int s.edges), .d (.sl (s.lb.map encCT)), .d (.sl (s.ty.map encCT)), .d (.sl (s.outs.map intsD)), .d (.sl (s.ins.map intsD)), .d (.sl (c.vs.map .str)), .d (.sl (c.aq.map encAT)), .own 3])
set_option maxHeartbeats 4000000 in
theorem order_ev3 (s : STA) (c : CJ) (e : Int) (hk : Ev E 30 [encCJ c] (.d (.int e))) (hc : e = 0 → OkC c ∧ c.aq.length ≤ 7) : Ev E 48 [encST s, encCJ c] (.d (.sl (iL (ordV s c e)))) := Ev.fit fun hfit => by
 unfold ordV
 cases he : e == 0 with
 | false =>
  have he' : (e != 0) = true := by rw [bne, he]; rfl
  refine ye2 func48 ntmps48 fun _ _ _=>?_
  repeat' (first | refine yz ?_ | refine yp b30 hk ?_ | refine yx ?_ | (refine yy ?_ ?_ <;> intro _) | exact zD | exact zL)
 | true =>
  have h0 : e = 0 := by simpa using he
  obtain ⟨ok, h7⟩ := hc h0
  have hp := prepare_ev s c ok h7 (hfit (encST s) (by simp))
  rw [h0] at hk
  have hz : ((0 : Int) != 0) = false := rfl
  have h1 : Ev E 18 [.int 1] (.d (natD 1)) := nof_ev 1
  have hle : (c.aq.map encAT).length = c.aq.length := by simp
  have hM := facF_le (hfit (encST s) (by simp)) c
  have hfac := fun (bs : List D) (set i : Nat) (hi : i < c.aq.length) (hs : set < 4096) => factor_ev s c bs set i ok hi hs
  have hlim := fun {set : Nat} (h : set < 2 ^ c.aq.length) => tb_lim h7 hM h
  rw [cond_true]
  unfold orderF
  generalize facF s c = f at *
  generalize hn : c.aq.length = n at *
  have hp2 : 2 ^ n ≤ 128 := Nat.pow_le_pow_right (n := 2) (by omega) h7
  have hp1 := Nat.two_pow_pos n
  have htl := tabD_len f n
  refine ye2 func48 ntmps48 fun _ _ _=>?_
  repeat' (first | refine yz ?_ | refine yp b30 hk ?_ | refine yc [] b50 (hp) ?_ | refine yp b18 h1 ?_ | refine yx ?_ | (refine yy ?_ ?_ <;> intro _) | exact zD | exact zL)
  rw [hle]
  refine go_loop_ (α := SOr2 f n) (fun p => ⟨[(6, rowK 4 (iL (p.out.map Int.ofNat))), (3, .ptr 1 0), (5, .ptr 2 0), (7, .d (natD p.p)), (8, .d (.int p.set)), (23, .d (.int n)), (24, .d (.int p.r))], [oST s, oCJ c, oSearch3 s c, oBest (tabD f n)] ++ rowO 3 1 (iL (p.out.map Int.ofNat))⟩) (fun p => n - p.r) ⟨0, 0, 1, [], by omega, by omega, by simp, by simp, rfl⟩ (zle 4) ?_
  rintro ⟨r, set, p, out, hr, hs, hpp, ho, ok⟩
  dsimp only
  rcases Nat.lt_or_ge r n with hlt | hge
  ·have g1 : decide ((r : Int) < (n : Int)) = true := by simpa using hlt
   have hol : (iL (out.map Int.ofNat)).length ≤ 7 := by rw [iL_len, List.length_map]; omega
   have happ : ∀ i : Nat, iL ((out ++ [i]).map Int.ofNat) = iL (out.map Int.ofNat) ++ [.int (i : Int)] := fun i => by rw [List.map_append, iL_app]; rfl
   generalize ho2 : iL (out.map Int.ofNat) = o at *
   match o, hol, ho2, happ with
   | [], hol, ho2, happ =>
    dsimp only [rowK, rowO]
    repeat' (first | refine yz ?_ | refine yx ?_ | (refine yy ?_ ?_ <;> intro _) | exact zD | exact zL)
    rw [hle]
    refine go_loop_ (α := SOi f n set p) (fun q => ⟨[(6, .nilS), (3, .ptr 1 0), (5, .ptr 2 0), (7, .d (natD p)), (8, .d (.int set)), (23, .d (.int n)), (24, .d (.int r)), (28, .d (.int n)), (29, .d (.int q.i))], [oST s, oCJ c, oSearch3 s c, oBest (tabD f n)]⟩) (fun q => n - q.i) ⟨0, by omega, fun j hj => absurd hj (by omega)⟩ (zle 4) ?_
    rintro ⟨i, hi, no⟩
    dsimp only
    rcases Nat.lt_or_ge i n with hlt2 | hge2
    ·have g2 : decide ((i : Int) < (n : Int)) = true := by simpa using hlt2
     have g3 := bit_and set i
     cases hb : set.testBit i with
     | true =>
      rw [hb] at g3
      have hcd : cndF f n set p i = false := by unfold cndF; rw [hb]; rfl
      repeat' (first | refine yz ?_ | (refine go_shr set i rfl rfl rfl rfl rfl rfl (by omega) (by omega) ?_) | (refine go_and (set / 2 ^ i) 1 rfl rfl rfl rfl rfl rfl (Nat.lt_of_le_of_lt (Nat.div_le_self _ _) (by omega)) (by omega) ?_) | refine yx ?_ | (refine yy ?_ ?_ <;> intro _) | exact zD | exact zL)
      refine go_stop ?_
      exact ⟨⟨i + 1, hlt2, SOi.next no hcd⟩, by dsimp only; omega, (zle 4)⟩
     | false =>
      rw [hb] at g3
      have hk2 := add_lt hb hs hlt2
      have hor := or_add hb
      have hfk := hfac (tabD f n) set i hlt2 (by omega)
      have hix : (tabD f n)[((set ||| (1 * 2 ^ i) : Nat) : Int).toNat]? = some (natD (tb f n (set + 2 ^ i))) := by rw [Int.toNat_natCast, hor]; exact tabD_at _ hk2
      have hib : set ||| (1 * 2 ^ i) < (tabD f n).length := by rw [hor, htl]; exact hk2
      have h0x : (tabD f n)[(0 : Int).toNat]? = some (natD (tb f n 0)) := tabD_at _ hp1
      have hi128 : 1 * 2 ^ i ≤ 128 := by
       have := Nat.pow_le_pow_right (n := 2) (by omega) (Nat.le_of_lt (Nat.lt_of_lt_of_le hlt2 h7))
       omega
      have b0 := hM set i
      have b1 := pow_step hpp b0
      have b2 := hlim hk2
      have b3 : p * f set i * tb f n (set + 2 ^ i) ≤ 9223372036854775807 ^ 15 := by
       rw [show (15 : Nat) = 8 + 7 from rfl, Nat.pow_add]
       exact Nat.mul_le_mul (pow_up b1 (by omega)) b2
      have l0 : (lim p).length ≤ 64 := lim_of_le (pow_up hpp (by omega))
      have l1 : (lim (f set i)).length ≤ 64 := lim_of_le (Nat.le_trans b0 (by decide))
      have l2 : (lim (p * f set i)).length ≤ 64 := lim_of_le (pow_up b1 (by omega))
      have l3 : (lim (tb f n (set + 2 ^ i))).length ≤ 64 := lim_of_le (pow_up b2 (by omega))
      have l4 : (lim (p * f set i * tb f n (set + 2 ^ i))).length ≤ 64 := lim_of_le b3
      have l5 : (lim (tb f n 0)).length ≤ 64 := lim_of_le (pow_up (hlim hp1) (by omega))
      have m1 := nmul_ev p (f set i) l0 l1
      rw [(fit_of l2).1, (fit_of l2).2] at m1
      have m2 := nmul_ev (p * f set i) (tb f n (set + 2 ^ i)) l2 l3
      rw [(fit_of l4).1, (fit_of l4).2] at m2
      have hcmp := ncmp_ev (p * f set i * tb f n (set + 2 ^ i)) (tb f n 0) l4 l5
      have g4 := cmp_eq0 (p * f set i * tb f n (set + 2 ^ i)) (tb f n 0)
      have hcd : cndF f n set p i = (p * f set i * tb f n (set + 2 ^ i) == tb f n 0) := by unfold cndF; rw [hb]; rfl
      cases hy : p * f set i * tb f n (set + 2 ^ i) == tb f n 0 with
      | true =>
       rw [hy] at g4 hcd
       have hof := ord_found hlt ok (next_at hlt2 no hcd)
       repeat' (first | refine yz ?_ | (refine go_shr set i rfl rfl rfl rfl rfl rfl (by omega) (by omega) ?_) | (refine go_and (set / 2 ^ i) 1 rfl rfl rfl rfl rfl rfl (Nat.lt_of_le_of_lt (Nat.div_le_self _ _) (by omega)) (by omega) ?_) | refine yc [2, 3] b130 (hfk) ?_ | refine yp b128 m1 ?_ | (refine go_shl 1 i rfl rfl rfl rfl rfl rfl (by omega) (by omega) ?_) | (refine go_or set (1 * 2 ^ i) rfl rfl rfl rfl rfl rfl (by omega) (by omega) ?_) | refine qW (natD (tb f n (set + 2 ^ i))) rfl rfl rfl rfl rfl rfl hix rfl ?_ | refine yp b128 m2 ?_ | refine qW (natD (tb f n 0)) rfl rfl rfl rfl rfl rfl h0x rfl ?_ | refine yp b17 hcmp ?_ | (refine qS rfl ⟨by simp, fun d hd => by (obtain rfl := List.mem_singleton.1 hd; rfl), by (show (0 + 1) * 8 ≤ 140737488355328; omega), by (show 0 + 1 ≤ 9223372036854775807; omega)⟩ ?_) | refine yx ?_ | (refine yy ?_ ?_ <;> intro _) | exact zD | exact zL)
       refine go_stop ?_
       refine ⟨⟨r + 1, set + 2 ^ i, p * f set i, out ++ [i], hlt, hk2, b1, by simp; omega, hof⟩, by dsimp only; omega, ?_⟩
       dsimp only
       rw [happ, hor]
       exact (zren [0, 1, 2, 3, 4])
      | false =>
       rw [hy] at g4 hcd
       repeat' (first | refine yz ?_ | (refine go_shr set i rfl rfl rfl rfl rfl rfl (by omega) (by omega) ?_) | (refine go_and (set / 2 ^ i) 1 rfl rfl rfl rfl rfl rfl (Nat.lt_of_le_of_lt (Nat.div_le_self _ _) (by omega)) (by omega) ?_) | refine yc [2, 3] b130 (hfk) ?_ | refine yp b128 m1 ?_ | (refine go_shl 1 i rfl rfl rfl rfl rfl rfl (by omega) (by omega) ?_) | (refine go_or set (1 * 2 ^ i) rfl rfl rfl rfl rfl rfl (by omega) (by omega) ?_) | refine qW (natD (tb f n (set + 2 ^ i))) rfl rfl rfl rfl rfl rfl hix rfl ?_ | refine yp b128 m2 ?_ | refine qW (natD (tb f n 0)) rfl rfl rfl rfl rfl rfl h0x rfl ?_ | refine yp b17 hcmp ?_ | refine yx ?_ | (refine yy ?_ ?_ <;> intro _) | exact zD | exact zL)
       refine go_stop ?_
       exact ⟨⟨i + 1, hlt2, SOi.next no hcd⟩, by dsimp only; omega, (zle 4)⟩
    ·have g2 : decide ((i : Int) < (n : Int)) = false := by simp; omega
     have hol := ord_lost hlt ok (next_none fun j hj => no j (by omega))
     repeat' (first | refine yz ?_ | refine yx ?_ | (refine yy ?_ ?_ <;> intro _) | exact zD | exact zL)
     refine go_stop ?_
     refine ⟨⟨r + 1, set, p, out, hlt, hs, pow_up hpp (by omega), by omega, hol⟩, by dsimp only; omega, ?_⟩
     dsimp only
     rw [ho2]
     exact (zle 4)
   | a :: qq, hol, ho2, happ =>
    dsimp only [rowK, rowO]
    repeat' (first | refine yz ?_ | refine yx ?_ | (refine yy ?_ ?_ <;> intro _) | exact zD | exact zL)
    rw [hle]
    refine go_loop_ (α := SOi f n set p) (fun q => ⟨[(6, .own 4), (3, .ptr 1 0), (5, .ptr 2 0), (7, .d (natD p)), (8, .d (.int set)), (23, .d (.int n)), (24, .d (.int r)), (28, .d (.int n)), (29, .d (.int q.i))], [oST s, oCJ c, oSearch3 s c, oBest (tabD f n), .row 3 1 (a :: qq)]⟩) (fun q => n - q.i) ⟨0, by omega, fun j hj => absurd hj (by omega)⟩ (zle 5) ?_
    rintro ⟨i, hi, no⟩
    dsimp only
    rcases Nat.lt_or_ge i n with hlt2 | hge2
    ·have g2 : decide ((i : Int) < (n : Int)) = true := by simpa using hlt2
     have g3 := bit_and set i
     cases hb : set.testBit i with
     | true =>
      rw [hb] at g3
      have hcd : cndF f n set p i = false := by unfold cndF; rw [hb]; rfl
      repeat' (first | refine yz ?_ | (refine go_shr set i rfl rfl rfl rfl rfl rfl (by omega) (by omega) ?_) | (refine go_and (set / 2 ^ i) 1 rfl rfl rfl rfl rfl rfl (Nat.lt_of_le_of_lt (Nat.div_le_self _ _) (by omega)) (by omega) ?_) | refine yx ?_ | (refine yy ?_ ?_ <;> intro _) | exact zD | exact zL)
      refine go_stop ?_
      exact ⟨⟨i + 1, hlt2, SOi.next no hcd⟩, by dsimp only; omega, (zle 5)⟩
     | false =>
      rw [hb] at g3
      have hk2 := add_lt hb hs hlt2
      have hor := or_add hb
      have hfk := hfac (tabD f n) set i hlt2 (by omega)
      have hix : (tabD f n)[((set ||| (1 * 2 ^ i) : Nat) : Int).toNat]? = some (natD (tb f n (set + 2 ^ i))) := by rw [Int.toNat_natCast, hor]; exact tabD_at _ hk2
      have hib : set ||| (1 * 2 ^ i) < (tabD f n).length := by rw [hor, htl]; exact hk2
      have h0x : (tabD f n)[(0 : Int).toNat]? = some (natD (tb f n 0)) := tabD_at _ hp1
      have hi128 : 1 * 2 ^ i ≤ 128 := by
       have := Nat.pow_le_pow_right (n := 2) (by omega) (Nat.le_of_lt (Nat.lt_of_lt_of_le hlt2 h7))
       omega
      have b0 := hM set i
      have b1 := pow_step hpp b0
      have b2 := hlim hk2
      have b3 : p * f set i * tb f n (set + 2 ^ i) ≤ 9223372036854775807 ^ 15 := by
       rw [show (15 : Nat) = 8 + 7 from rfl, Nat.pow_add]
       exact Nat.mul_le_mul (pow_up b1 (by omega)) b2
      have l0 : (lim p).length ≤ 64 := lim_of_le (pow_up hpp (by omega))
      have l1 : (lim (f set i)).length ≤ 64 := lim_of_le (Nat.le_trans b0 (by decide))
      have l2 : (lim (p * f set i)).length ≤ 64 := lim_of_le (pow_up b1 (by omega))
      have l3 : (lim (tb f n (set + 2 ^ i))).length ≤ 64 := lim_of_le (pow_up b2 (by omega))
      have l4 : (lim (p * f set i * tb f n (set + 2 ^ i))).length ≤ 64 := lim_of_le b3
      have l5 : (lim (tb f n 0)).length ≤ 64 := lim_of_le (pow_up (hlim hp1) (by omega))
      have m1 := nmul_ev p (f set i) l0 l1
      rw [(fit_of l2).1, (fit_of l2).2] at m1
      have m2 := nmul_ev (p * f set i) (tb f n (set + 2 ^ i)) l2 l3
      rw [(fit_of l4).1, (fit_of l4).2] at m2
      have hcmp := ncmp_ev (p * f set i * tb f n (set + 2 ^ i)) (tb f n 0) l4 l5
      have g4 := cmp_eq0 (p * f set i * tb f n (set + 2 ^ i)) (tb f n 0)
      have hcd : cndF f n set p i = (p * f set i * tb f n (set + 2 ^ i) == tb f n 0) := by unfold cndF; rw [hb]; rfl
      cases hy : p * f set i * tb f n (set + 2 ^ i) == tb f n 0 with
      | true =>
       rw [hy] at g4 hcd
       have hof := ord_found hlt ok (next_at hlt2 no hcd)
       repeat' (first | refine yz ?_ | (refine go_shr set i rfl rfl rfl rfl rfl rfl (by omega) (by omega) ?_) | (refine go_and (set / 2 ^ i) 1 rfl rfl rfl rfl rfl rfl (Nat.lt_of_le_of_lt (Nat.div_le_self _ _) (by omega)) (by omega) ?_) | refine yc [2, 3] b130 (hfk) ?_ | refine yp b128 m1 ?_ | (refine go_shl 1 i rfl rfl rfl rfl rfl rfl (by omega) (by omega) ?_) | (refine go_or set (1 * 2 ^ i) rfl rfl rfl rfl rfl rfl (by omega) (by omega) ?_) | refine qW (natD (tb f n (set + 2 ^ i))) rfl rfl rfl rfl rfl rfl hix rfl ?_ | refine yp b128 m2 ?_ | refine qW (natD (tb f n 0)) rfl rfl rfl rfl rfl rfl h0x rfl ?_ | refine yp b17 hcmp ?_ | (refine qS rfl ⟨by simp, fun d hd => by (obtain rfl := List.mem_singleton.1 hd; rfl), by (show ((a :: qq).length + 1) * 8 ≤ 140737488355328; omega), by (show (a :: qq).length + 1 ≤ 9223372036854775807; omega)⟩ ?_) | refine yx ?_ | (refine yy ?_ ?_ <;> intro _) | exact zD | exact zL)
       refine go_stop ?_
       refine ⟨⟨r + 1, set + 2 ^ i, p * f set i, out ++ [i], hlt, hk2, b1, by simp; omega, hof⟩, by dsimp only; omega, ?_⟩
       dsimp only
       rw [happ, hor]
       exact (zren [0, 1, 2, 3, 5])
      | false =>
       rw [hy] at g4 hcd
       repeat' (first | refine yz ?_ | (refine go_shr set i rfl rfl rfl rfl rfl rfl (by omega) (by omega) ?_) | (refine go_and (set / 2 ^ i) 1 rfl rfl rfl rfl rfl rfl (Nat.lt_of_le_of_lt (Nat.div_le_self _ _) (by omega)) (by omega) ?_) | refine yc [2, 3] b130 (hfk) ?_ | refine yp b128 m1 ?_ | (refine go_shl 1 i rfl rfl rfl rfl rfl rfl (by omega) (by omega) ?_) | (refine go_or set (1 * 2 ^ i) rfl rfl rfl rfl rfl rfl (by omega) (by omega) ?_) | refine qW (natD (tb f n (set + 2 ^ i))) rfl rfl rfl rfl rfl rfl hix rfl ?_ | refine yp b128 m2 ?_ | refine qW (natD (tb f n 0)) rfl rfl rfl rfl rfl rfl h0x rfl ?_ | refine yp b17 hcmp ?_ | refine yx ?_ | (refine yy ?_ ?_ <;> intro _) | exact zD | exact zL)
       refine go_stop ?_
       exact ⟨⟨i + 1, hlt2, SOi.next no hcd⟩, by dsimp only; omega, (zle 5)⟩
    ·have g2 : decide ((i : Int) < (n : Int)) = false := by simp; omega
     have hol := ord_lost hlt ok (next_none fun j hj => no j (by omega))
     repeat' (first | refine yz ?_ | refine yx ?_ | (refine yy ?_ ?_ <;> intro _) | exact zD | exact zL)
     refine go_stop ?_
     refine ⟨⟨r + 1, set, p, out, hlt, hs, pow_up hpp (by omega), by omega, hol⟩, by dsimp only; omega, ?_⟩
     dsimp only
     rw [ho2]
     exact (zle 5)
  ·have g1 : decide ((r : Int) < (n : Int)) = false := by simp; omega
   obtain rfl : r = n := by omega
   rw [Nat.sub_self, ordG, List.append_nil] at ok
   rw [ok]
   refine qA ?_
   refine go_rowD rfl rfl (by repeat (first | exact trivial | refine ⟨rfl, ?_⟩)) (by repeat (first | exact trivial | refine ⟨rfl, ?_⟩)) ?_
   repeat' (first | refine yz ?_ | refine yx ?_ | (refine yy ?_ ?_ <;> intro _) | exact zD | exact zL)
def stpG (s : STA) : List ByteArray → Nat → Option Nat
 | [], p => some p
 | t :: r, p => bif fit64 (p * (maxF s [t] 1).toNat) then stpG s r (p * (maxF s [t] 1).toNat) else none
def stpF (s : STA) : List ByteArray → Option Nat
 | [] => none
 | t :: r => stpG s r (edgesF s [t]).toNat
def stpN (s : STA) (ty : List ByteArray) : Nat := (stpF s ty).getD 0
def stpB (s : STA) (ty : List ByteArray) : Bool := (stpF s ty).isSome
structure SSt (s : STA) (r : List ByteArray) (o : Option Nat) where
 i : Nat
 p : Nat
 hi : i ≤ r.length
 hp : (lim p).length ≤ 64
 ok : o = stpG s (r.drop i) p
theorem edgesF_rng {s : STA} (hs : Fit (encST s)) (t : ByteArray) : inR .i64 (edgesF s [t]) := addW_rng _ _
theorem stpG_fit {s : STA} {t : ByteArray} {r : List ByteArray} {p : Nat} (h : fit64 (p * (maxF s [t] 1).toNat) = true) : stpG s (t :: r) p = stpG s r (p * (maxF s [t] 1).toNat) := by rw [stpG, h]; rfl
theorem stpG_not {s : STA} {t : ByteArray} {r : List ByteArray} {p : Nat} (h : fit64 (p * (maxF s [t] 1).toNat) = false) : stpG s (t :: r) p = none := by rw [stpG, h]; rfl
theorem steps_ev (s : STA) (ty : List ByteArray) : Ev E 46 [encST s, .sl (ty.map .str)] (.tup [natD (stpN s ty), .bool (stpB s ty)]) := Ev.fit fun hfit => by
 have hmax := (fit_map (hfit (.sl (ty.map .str)) (by simp))).1
 have hs := hfit (encST s) (by simp)
 unfold stpN stpB
 cases ty with
 | nil =>
  have g0 : (((List.map D.str []).length : Int) == 0) = true := rfl
  show Ev E 46 [encST s, .sl (List.map D.str [])] (.tup [natD 0, .bool false])
  refine ye2 func46 ntmps46 fun _ _ _=>?_
  repeat' (first | refine yz ?_ | refine yx ?_ | (refine yy ?_ ?_ <;> intro _) | exact zD | exact zL)
 | cons t r =>
  have hle : (r.map D.str).length = r.length := by simp
  simp only [List.length_cons] at hmax
  have g0 : (((List.map D.str (t :: r)).length : Int) == 0) = false := by simp; omega
  have hlt : (List.map D.str (t :: r)).length = r.length + 1 := by simp
  have hd1 : (List.map D.str (t :: r)).drop (1 : Int).toNat = r.map D.str := rfl
  have ht1 : (List.map D.str (t :: r)).take (1 : Int).toNat = [t].map D.str := rfl
  have he := dedges_ev s [t]
  have ho := nof_ev (edgesF s [t])
  have hcl : ∀ d ∈ List.map D.str (t :: r), d.cells.length = 1 := fun d hd => by
   obtain ⟨u, -, rfl⟩ := List.mem_map.1 hd
   rfl
  have hpl : (lim (edgesF s [t]).toNat).length ≤ 64 := by
   have := edgesF_rng hs t
   simp only [inR] at this
   exact Nat.le_trans (lim_small (by omega)) (by decide)
  show Ev E 46 _ (.tup [natD ((stpG s r (edgesF s [t]).toNat).getD 0), .bool (stpG s r (edgesF s [t]).toNat).isSome])
  obtain ⟨o, hso⟩ : ∃ o, stpG s r (edgesF s [t]).toNat = o := ⟨_, rfl⟩
  rw [hso]
  refine ye2 func46 ntmps46 fun _ _ _=>?_
  repeat' (first | refine yz ?_ | (refine qS rfl ⟨⟨by omega, by omega⟩, ⟨_, rfl, hcl⟩⟩ ?_; first | rw [ht1] | rw [hd1]) | refine yp b127 he ?_ | refine yp b18 ho ?_ | refine yx ?_ | (refine yy ?_ ?_ <;> intro _) | exact zD | exact zL)
  rw [hle]
  refine go_loop_ (α := SSt s r o) (fun p => ⟨[(1, .d (.sl (List.map D.str (t :: r)))), (2, .ptr 0 0), (6, .d (natD p.p)), (19, .d (.int r.length)), (20, .d (.int p.i))], [oST s]⟩) (fun p => r.length - p.i) ⟨0, _, by omega, hpl, hso.symm⟩ (zle 1) ?_
  rintro ⟨i, p, hi, hp, ok⟩
  dsimp only
  rcases Nat.lt_or_ge i r.length with hlt2 | hge
  ·have g1 : decide ((i : Int) < (r.length : Int)) = true := by simpa using hlt2
   have hx0 := List.getElem?_eq_getElem hlt2
   obtain ⟨x, hx⟩ : ∃ x, r[i] = x := ⟨_, rfl⟩
   rw [hx] at hx0
   have hsl : ((List.map D.str (t :: r)).take ((i : Int) + 2).toNat).drop ((i : Int) + 1).toNat = [x].map D.str := by
    rw [show ((i : Int) + 2).toNat = (i + 1) + 1 by omega, show ((i : Int) + 1).toNat = i + 1 by omega, List.map_cons, List.take_succ_cons, List.drop_succ_cons, ← List.map_take, ← List.map_drop, List.take_add_one, hx0, Option.toList_some]
    rw [List.drop_append_of_le_length (by rw [List.length_take]; omega), List.drop_of_length_le (by rw [List.length_take]; omega)]
    rfl
   have hm := dmax_ev s [x] 1
   have hof := nof_ev (maxF s [x] 1)
   have hr := maxF_rng s [x] 1
   have l1 : (lim (maxF s [x] 1).toNat).length ≤ 64 := by
    simp only [inR] at hr
    exact Nat.le_trans (lim_small (by omega)) (by decide)
   have hmul := nmul_ev p (maxF s [x] 1).toNat hp l1
   rw [drop_at hx0] at ok
   cases hf : fit64 (p * (maxF s [x] 1).toNat) with
   | true =>
    have hl : (lim (p * (maxF s [x] 1).toNat)).length ≤ 64 := of_decide_eq_true hf
    rw [(fit_of hl).1, (fit_of hl).2] at hmul
    rw [stpG_fit hf] at ok
    repeat' (first | refine yz ?_ | (refine qS rfl ⟨⟨by omega, by omega, by omega⟩, ⟨_, rfl, hcl⟩⟩ ?_; rw [hsl]) | refine yp b129 hm ?_ | refine yp b18 hof ?_ | refine yp b128 hmul ?_ | refine yx ?_ | (refine yy ?_ ?_ <;> intro _) | exact zD | exact zL)
    refine go_stop ?_
    exact ⟨⟨i + 1, _, hlt2, hl, ok⟩, by dsimp only; omega, (zle 1)⟩
   | false =>
    rw [stpG_not hf] at ok
    rw [hf] at hmul
    rw [ok]
    show go _ _ _ (EndIs _ _ (.tup [natD 0, .bool false]))
    repeat' (first | refine yz ?_ | (refine qS rfl ⟨⟨by omega, by omega, by omega⟩, ⟨_, rfl, hcl⟩⟩ ?_; rw [hsl]) | refine yp b129 hm ?_ | refine yp b18 hof ?_ | refine yp b128 hmul ?_ | refine yx ?_ | (refine yy ?_ ?_ <;> intro _) | exact zD | exact zL)
  ·have g1 : decide ((i : Int) < (r.length : Int)) = false := by simp; omega
   rw [List.drop_eq_nil_of_le hge, stpG] at ok
   rw [ok]
   show go _ _ _ (EndIs _ _ (.tup [natD p, .bool true]))
   repeat' (first | refine yz ?_ | refine yx ?_ | (refine yy ?_ ?_ <;> intro _) | exact zD | exact zL)
end Go.Proofs.YtenpjlghikohmaaGreatDoor
