/- The variables of an expression, by the program: a closure that calls itself writes them into a map; then the map's keys, sorted; An expression over a plan's columns, by the program: which variables it uses, its error; Plans of the chapter's example: the shapes of their operators, their depth, their size; The check of the chapter's example plans, and moving their filter towards the leaves, by the program; The chapter's example plan: its filter goes below the removal of repeats. Conditions: each part's own, as it says. -/
import Derived.Test.YtibfalecohlngaaGreatDoorLA
import Derived.Test.YtibfalecohlngaaGreatDoorUA
import Derived.Test.YtibfalecohlngaaGreatDoorMD
import Derived.Test.YtibfalecohlngaaGreatDoorGC
set_option linter.unusedVariables false
set_option linter.unusedSimpArgs false
namespace Go.Proofs.YtibfalecohlngaaGreatDoor
set_option maxRecDepth 4000
open Go Go.Abs Go.Val Go.RowKit Go.Proofs.Tryz
attribute [local irreducible] go SGo an2 Ev aw0 EvO EvS RGo
abbrev ey2 (m : Nat) : aa5 := .var 231 (.w (.mp m))
abbrev ey3 (a b : Nat) : aa5 := .var 232 (.w (.clo 240 [.ptr a 0, .ptr b 0]))
abbrev ey4 (ks : List ByteArray) : aa5 := .map .string (mpU ks)
theorem ey5 (ks : List ByteArray) : EvS E 241 [.mp 0] [ey4 ks] (.clo 291 [.ptr 1 0]) [ey4 ks, ey2 0] := by
 refine yn func241 ntmps241 fun _ _ _ _=>?_
 repeat' (first | refine yz ?_ | refine bc7 rfl rfl rfl rfl rfl ?_ | refine bd2 [0, 1] rfl rfl rfl rfl rfl ?_)
 all_goals rfl
structure SVst (n : Nat) where
 i : Nat
 hi : i ≤ n
theorem ey6 {ks : List Ex} {i : Nat} {x : Ex} (h : ks[i]? = some x) (K : List ByteArray) : by1 K (bw6 (ks.take (i + 1))) = by1 (by1 K (bw6 (ks.take i))) (usX x) := by
 rw [bx0, bx0, List.take_add_one, h, List.flatMap_append, by5];simp
theorem ey7 {e : Ex} : Fit (dg0 e) → ∀ s ∈ usX e, s.size ≤ maxLen := by
 refine dg9 (P := fun e => Fit (dg0 e) → ∀ s ∈ usX e, s.size ≤ maxLen) (fun op v nm ds ks ih hf s hs => ?_) e;obtain ⟨-, -, h1, -, h2⟩ := dg7 hf;rw [usX, fj3] at hs;rcases hs with hs | hs
 ·cases h : op == 2 with
  | true =>
   rw [h, cond_true, fl4] at hs;subst hs;exact h1
  | false => rw [h] at hs; cases hs
 ·rw [bx0, fq0] at hs;obtain ⟨x, hx, hs⟩ := hs;exact ih x hx (h2 x hx) s hs
set_option maxHeartbeats 1000000 in
theorem ey8 (e : Ex) : nd e ≤ 1000000 → ∀ K : List ByteArray, EvS E 240 [.d (dg0 e), .ptr 0 0, .ptr 1 0] [ey2 2, ey3 0 1, ey4 K] (.tup []) [ey2 2, ey3 0 1, ey4 (by1 K (usX e))] := by
 refine dg9 (P := fun e => nd e ≤ 1000000 → ∀ K : List ByteArray, EvS E 240 [.d (dg0 e), .ptr 0 0, .ptr 1 0] [ey2 2, ey3 0 1, ey4 K] (.tup []) [ey2 2, ey3 0 1, ey4 (by1 K (usX e))]) (fun op v nm ds ks ih hn K => ?_) e;rw [dk6] at hn;have hn' : ndL ks + 1 ≤ 1000000 := hn;have hle : (df9 ks).length = ks.length := dg6 ks;have hkl := ew0 ks;obtain ⟨vk, vn, vd, vS, vl⟩ := v;rw [usX, by5];show EvS E 240 [.d (.agg [.int op, .int vk, .int vn, .int vd, .str vS, .sl (bo1 vl), .str nm, .bool ds, .sl (df9 ks)]), .ptr 0 0, .ptr 1 0] _ _ _;generalize bo1 vl = VL;obtain ⟨K1, hK1⟩ : ∃ K1, K1 = by1 K (bif op == 2 then [nm] else []) := ⟨_, rfl⟩;rw [← hK1]
 cases c1 : op == 2 with
 | true =>
  rw [c1, cond_true] at hK1;have hK1 : K1 = bx5 K nm := hK1;have hput : bl2 (.string nm) (.bool true) (mpU K) = mpU K1 := by rw [by9, hK1]
  refine yn func240 ntmps240 fun _ _ _ _=>?_
  repeat' (first | refine yz ?_ | refine bm3 ?_)
  rw [hput];refine ac7 (α := SVst ks.length) (fun p => ⟨[(1, .ptr 0 0), (2, .ptr 1 0), (3, .ptr 3 0), (13, .d (.sl (df9 ks))), (14, .d (.int (df9 ks).length)), (15, .d (.int p.i))], [ey2 2, ey3 0 1, ey4 (by1 K1 (bw6 (ks.take p.i))), oXU (.agg [.int op, .int vk, .int vn, .int vd, .str vS, .sl VL, .str nm, .bool ds, .sl (df9 ks)])]⟩) (fun p => ks.length - p.i) ⟨0, by omega⟩ (zle 4) ?_;rintro ⟨i, hi⟩;dsimp only;rcases fg7 i ks.length with hlt | hge
  ·have g1 : decide ((i : Int) < ((df9 ks).length : Int)) = true := by rw [hle]; simpa using hlt
   have hx0 := fg5 hlt;generalize ks[i] = x at hx0;have hx : (df9 ks)[(i : Int).toNat]? = some (dg0 x) := dg4 (by rw [fh0]; exact hx0);have hm := fg9 hx0;have hcx := ih x hm (by have := dk7 hm; omega) (by1 K1 (bw6 (ks.take i)));rw [← ey6 hx0] at hcx
   repeat' (first | refine yz ?_ | refine yi (dg0 x) hx ?_ | refine bc9 [0, 1, 2] rfl rfl rfl rfl (FnX.clo _ _) b240 (hcx) rfl rfl rfl rfl rfl ?_)
   refine ac1 ?_;exact ⟨⟨i + 1, by omega⟩, by dsimp only; omega, (zle 4)⟩
  ·have g1 : decide ((i : Int) < ((df9 ks).length : Int)) = false := by rw [hle]; simp; omega
   rw [fk9 hge]
   repeat' (first | refine yz ?_ | refine yo [0, 1, 2])
 | false =>
  rw [c1, cond_false] at hK1;have hK1 : K1 = K := hK1;subst hK1;refine yn func240 ntmps240 fun _ _ _ _=>?_
  repeat' (refine yz ?_)
  refine ac7 (α := SVst ks.length) (fun p => ⟨[(1, .ptr 0 0), (2, .ptr 1 0), (3, .ptr 3 0), (13, .d (.sl (df9 ks))), (14, .d (.int (df9 ks).length)), (15, .d (.int p.i))], [ey2 2, ey3 0 1, ey4 (by1 K1 (bw6 (ks.take p.i))), oXU (.agg [.int op, .int vk, .int vn, .int vd, .str vS, .sl VL, .str nm, .bool ds, .sl (df9 ks)])]⟩) (fun p => ks.length - p.i) ⟨0, by omega⟩ (zle 4) ?_;rintro ⟨i, hi⟩;dsimp only;rcases fg7 i ks.length with hlt | hge
  ·have g1 : decide ((i : Int) < ((df9 ks).length : Int)) = true := by rw [hle]; simpa using hlt
   have hx0 := fg5 hlt;generalize ks[i] = x at hx0;have hx : (df9 ks)[(i : Int).toNat]? = some (dg0 x) := dg4 (by rw [fh0]; exact hx0);have hm := fg9 hx0;have hcx := ih x hm (by have := dk7 hm; omega) (by1 K1 (bw6 (ks.take i)));rw [← ey6 hx0] at hcx
   repeat' (first | refine yz ?_ | refine yi (dg0 x) hx ?_ | refine bc9 [0, 1, 2] rfl rfl rfl rfl (FnX.clo _ _) b240 (hcx) rfl rfl rfl rfl rfl ?_)
   refine ac1 ?_;exact ⟨⟨i + 1, by omega⟩, by dsimp only; omega, (zle 4)⟩
  ·have g1 : decide ((i : Int) < ((df9 ks).length : Int)) = false := by rw [hle]; simp; omega
   rw [fk9 hge]
   repeat' (first | refine yz ?_ | refine yo [0, 1, 2])
theorem ey9 (e : Ex) (hn : nd e ≤ 1000000) : Ev E 190 [dg0 e] (.d (.sl ((bw7 e).map .str))) := Ev.fit fun hfit => by
 have hv := ey8 e hn [];have hl := bx1 e;have hal := by4 (usX e) []
 have hsz : ∀ s ∈ by1 [] (usX e), s.size ≤ maxLen := fun s hs => by
  rw [by2] at hs;rcases hs with h | h
  ·cases h
  ·exact ey7 (hfit (dg0 e) (by simp)) s h
 have hs := bz1 231 (by1 [] (usX e)) hsz (by3 List.nodup_nil) (by simp only [fl8] at hal; omega)
 have hr : bw3 [] (by1 [] (usX e)) = bw7 e := by
  refine bw2 (bw5 List.Pairwise.nil) (bw8 e) fun s => ?_
  rw [bw4, bw9, by2];simp
 rw [hr] at hs;have hk := ey5 (by1 [] (usX e));refine ye1 func190 ntmps190 fun _ _ _=>?_
 repeat' (first | refine yz ?_ | refine bl7 rfl rfl rfl rfl rfl rfl ?_ | refine bc7 rfl rfl rfl rfl rfl ?_ | refine bc9 [2, 3, 1] rfl rfl rfl rfl (FnX.clo _ _) b240 (hv) rfl rfl rfl rfl rfl ?_ | refine yc [1] b241 (hk) ?_ | refine yc [4, 1] b223 (hs) ?_ | exact zD)
attribute [local irreducible] PGo
def knoU (e : Ex) (cols : List ByteArray) : Bool := (bw7 e).all fun s => dd4 cols s
def exqU (e : Ex) (cols : List ByteArray) : Int := bif dq0 e != 0 then dq0 e else bif !(knoU e cols) then 6 else bif dq3 e then 9 else 0
theorem ez0 (cols : List ByteArray) (s : ByteArray) : EvS E 231 [.d (.str s), .ptr 0 0] [bu5 cols] (.d (.bool (!dd4 cols s))) [bu5 cols] := by
 have h := de3 cols s;refine yn func231 ntmps231 fun _ _ _ _=>?_
 repeat' (first | refine yz ?_ | refine yp b181 h ?_ | refine bd2 [0] rfl rfl rfl rfl rfl ?_)
 all_goals rfl
theorem ez1 (cols l : List ByteArray) (hmax : l.length ≤ 9223372036854775807) : EvS E 239 [.d (.sl (l.map D.str)), .clo 231 [.ptr 0 0]] [bu5 cols] (.d (.int (optC (l.findIdx? fun s => !dd4 cols s)))) [bu5 cols] := by
 have hle : (l.map D.str).length = l.length := by simp
 refine yn func239 ntmps239 fun _ _ _ _=>?_
 repeat' (refine yz ?_)
 refine ac7 (α := SFc l fun s => !dd4 cols s) (fun p => ⟨[(0, .d (.sl (l.map D.str))), (1, .clo 231 [.ptr 0 0]), (7, .d (.int (l.map D.str).length)), (8, .d (.int p.i))], [bu5 cols]⟩) (fun p => l.length - p.i) ⟨0, by omega, fun j hj => absurd hj (by omega)⟩ (zle 1) ?_;rintro ⟨i, hi, ok⟩;dsimp only;rcases fg7 i l.length with hlt | hge
 ·have g1 : decide ((i : Int) < ((l.map D.str).length : Int)) = true := by rw [hle]; simpa using hlt
  have hx0 := fg5 hlt;generalize l[i] = y at hx0;have hx : (l.map D.str)[((i : Nat) : Int).toNat]? = some (.str y) := dq4 (f := D.str) hx0;have h1 := ez0 cols y
  cases hc : dd4 cols y with
  | false =>
   rw [hc] at h1;rw [dq6 hx0 (show (!dd4 cols y) = true by rw [hc]; rfl) ok]
   repeat' (first | refine yz ?_ | refine yi (.str y) hx ?_ | refine bc9 [0] rfl rfl rfl rfl (FnX.clo _ _) b231 (h1) rfl rfl rfl rfl rfl ?_ | refine bd2 [0] rfl rfl rfl rfl rfl ?_)
   all_goals rfl
  | true =>
   rw [hc] at h1
   repeat' (first | refine yz ?_ | refine yi (.str y) hx ?_ | refine bc9 [0] rfl rfl rfl rfl (FnX.clo _ _) b231 (h1) rfl rfl rfl rfl rfl ?_)
   refine ac1 ?_;exact ⟨⟨i + 1, by omega, SFc.next hx0 (show (!dd4 cols y) = false by rw [hc]; rfl) ok⟩, by dsimp only; omega, (zle 1)⟩
 ·have g1 : decide ((i : Int) < ((l.map D.str).length : Int)) = false := by rw [hle]; simp; omega
  rw [dq7 fun j hj => ok j (by omega)]
  repeat' (first | refine yz ?_ | refine bd2 [0] rfl rfl rfl rfl rfl ?_)
  all_goals rfl
theorem ez2 (cols l : List ByteArray) (hmax : l.length ≤ 9223372036854775807) : EvS E 189 [.d (.sl (l.map D.str)), .clo 231 [.ptr 0 0]] [bu5 cols] (.d (.bool (l.any fun s => !dd4 cols s))) [bu5 cols] := by
 have h := ez1 cols l hmax;rw [← dq8];refine yn func189 ntmps189 fun _ _ _ _=>?_
 repeat' (first | refine yz ?_ | refine yc [0] b239 (h) ?_ | refine bd2 [0] rfl rfl rfl rfl rfl ?_)
 all_goals rfl
theorem ez3 (cols l : List ByteArray) : (!(l.any fun s => !dd4 cols s)) = l.all fun s => dd4 cols s := by
 induction l with
 | nil => rfl
 | cons x r ih => rw [List.any_cons, fk0, ← ih]; cases dd4 cols x <;> simp
theorem ez4 (e : Ex) (cols : List ByteArray) (hn : nd e ≤ 1000000) : Ev E 182 [dg0 e, .sl (cols.map .str)] (.d (.bool (knoU e cols))) := by
 have hu := ey9 e hn;have hul := bx4 e;have h := ez2 cols (bw7 e) (by omega);unfold knoU;rw [← ez3];refine ye2 func182 ntmps182 fun _ _ _=>?_
 repeat' (first | refine yz ?_ | refine yp b190 hu ?_ | refine bc7 rfl rfl rfl rfl rfl ?_ | refine yc [1] b189 (h) ?_ | exact zD)
theorem ez5 (e : Ex) (cols : List ByteArray) (hd : dp e ≤ 1000000) (hn : nd e ≤ 1000000) : Ev E 126 [dg0 e, .sl (cols.map .str)] (.d (.int (exqU e cols))) := by
 have hk := dq1 e hd hn;have h1 := ez4 e cols hn;have h2 := dr4 e;unfold exqU;generalize knoU e cols = kn at *;generalize dq3 e = ha at *
 cases hc : dq0 e != 0 with
 | true =>
  rw [cond_true];generalize dq0 e = z at *;refine ye2 func126 ntmps126 fun _ _ _=>?_
  repeat' (first | refine yz ?_ | refine yp b25 hk ?_ | exact zD)
 | false =>
  rw [cond_false];have h0 : dq0 e = 0 := by simpa using hc
  rw [h0] at hk
  cases kn with
  | false =>
   refine ye2 func126 ntmps126 fun _ _ _=>?_
   repeat' (first | refine yz ?_ | refine yp b25 hk ?_ | refine yp b182 h1 ?_ | exact zD)
  | true =>
   cases ha with
   | true =>
    refine ye2 func126 ntmps126 fun _ _ _=>?_
    repeat' (first | refine yz ?_ | refine yp b25 hk ?_ | refine yp b182 h1 ?_ | refine yp b183 h2 ?_ | exact zD)
   | false =>
    refine ye2 func126 ntmps126 fun _ _ _=>?_
    repeat' (first | refine yz ?_ | refine yp b25 hk ?_ | refine yp b182 h1 ?_ | refine yp b183 h2 ?_ | exact zD)
end Go.Proofs.YtibfalecohlngaaGreatDoor
namespace Go.Proofs.YtibfalecohlngaaGreatDoor
set_option maxRecDepth 4000
open Go Go.Abs Go.Val Go.RowKit Go.Proofs.Tryz
attribute [local irreducible] go SGo an2 Ev aw0 EvO EvS RGo
abbrev zeU : D := .agg [.int 0, .int 0, .int 0, .int 0, .str ⟨#[]⟩, .sl [], .str ⟨#[]⟩, .bool false, .sl []]
abbrev ez6 : D := .agg [.int 1, .int 1, .int 1, .int 0, .str ⟨#[]⟩, .sl [], .str ⟨#[]⟩, .bool false, .sl []]
abbrev zcU : D := .agg [.int 0, .bool false, .bool false, .sl [], .sl [], .int 0, .int 0, .int 0, .int 0, .str ⟨#[]⟩, .sl [], .str ⟨#[]⟩, .bool false, .sl [], .str ⟨#[]⟩, .sl [], .sl [], .int 0, .int 0, .sl [], .sl []]
abbrev plU (op : Int) (ks : List D) (o k n : Int) : D := .agg [.int op, .sl ks, .sl [], .sl [], .int 0, .bool false, .bool false, .sl [], .sl [], .int 0, .int 0, .int 0, .int 0, .str ⟨#[]⟩, .sl [], .str ⟨#[]⟩, .bool false, .sl [], .str ⟨#[]⟩, .sl [], .sl [], .int 0, .int 0, .sl [], .sl [],
 .int o, .int k, .int n, .int 0, .str ⟨#[]⟩, .sl [], .str ⟨#[]⟩, .bool false, .sl [], .str ⟨#[]⟩, .sl [], .sl [], .int 0, .int 0]
abbrev ez7 : D := plU 1 [] 0 0 0
abbrev ez8 (p : D) : D := plU 6 [p] 1 1 1
abbrev ez9 (p : D) : D := plU 9 [p] 0 0 0
abbrev oPU (p : D) : aa5 := .var 63 (.w (.d p))
theorem fa0 : Ev E 220 [.agg [.int 0, .int 0, .int 0, .str ⟨#[]⟩, .sl []]] (.d (.bool true)) := by
 have g0 : ((⟨#[]⟩ : ByteArray).toList == (⟨#[]⟩ : ByteArray).toList) = true := beq_self_eq_true _;refine ye1 func220 ntmps220 fun _ _ _=>?_
 repeat' (first | refine yz ?_ | refine yx ?_ | exact zD)
theorem fa1 : Ev E 177 [zeU] (.d (.bool true)) := by
 have g0 : ((⟨#[]⟩ : ByteArray).toList == (⟨#[]⟩ : ByteArray).toList) = true := beq_self_eq_true _;refine ye1 func177 ntmps177 fun _ _ _=>?_
 repeat' (first | refine yz ?_ | refine yp b220 fa0 ?_ | refine yx ?_ | exact zD)
theorem fa2 : Ev E 176 [zcU] (.d (.bool true)) := by
 have gl : (([] : List D).length) = 0 := rfl;have g0 : ((⟨#[]⟩ : ByteArray).toList == (⟨#[]⟩ : ByteArray).toList) = true := beq_self_eq_true _;refine ye1 func176 ntmps176 fun _ _ _=>?_
 repeat' (first | refine yz ?_ | refine yp b177 fa1 ?_ | refine yx ?_ | exact zD)
abbrev shU (k : Int) (e : Bool) : D := .agg [.int k, .bool false, .bool false, .bool e, .bool false, .bool false, .bool false, .bool false]
theorem fa3 : Ev E 175 [.int 1] (.tup [shU 0 false, .bool true]) := by
 refine ye1 func175 ntmps175 fun _ _ _=>?_
 repeat' (first | refine yz ?_ | exact zL)
theorem fa4 : Ev E 175 [.int 6] (.tup [shU 1 true, .bool true]) := by
 refine ye1 func175 ntmps175 fun _ _ _=>?_
 repeat' (first | refine yz ?_ | exact zL)
theorem fa5 : Ev E 175 [.int 9] (.tup [shU 1 false, .bool true]) := by
 refine ye1 func175 ntmps175 fun _ _ _=>?_
 repeat' (first | refine yz ?_ | exact zL)
set_option maxHeartbeats 8000000 in
theorem fa6 : Ev E 120 [ez7] (.d (.bool true)) := by
 have g0 : (!((⟨#[]⟩ : ByteArray).toList == (⟨#[]⟩ : ByteArray).toList)) = false := by rw [beq_self_eq_true]; rfl
 have gl : (([] : List D).length) = 0 := rfl;refine ye1 func120 ntmps120 fun _ _ _=>?_
 repeat' (first | refine yz ?_ | refine yp b175 fa3 ?_ | refine yp b177 fa1 ?_ | refine yp b176 fa2 ?_ | refine yx ?_ | exact zD)
set_option maxHeartbeats 8000000 in
theorem fa7 (p : D) : Ev E 120 [ez8 p] (.d (.bool true)) := by
 have g0 : (!((⟨#[]⟩ : ByteArray).toList == (⟨#[]⟩ : ByteArray).toList)) = false := by rw [beq_self_eq_true]; rfl
 have gl : (([] : List D).length) = 0 := rfl;refine ye1 func120 ntmps120 fun _ _ _=>?_
 repeat' (first | refine yz ?_ | refine yp b175 fa4 ?_ | refine yp b176 fa2 ?_ | refine yx ?_ | exact zD)
set_option maxHeartbeats 8000000 in
theorem fa8 (p : D) : Ev E 120 [ez9 p] (.d (.bool true)) := by
 have g0 : (!((⟨#[]⟩ : ByteArray).toList == (⟨#[]⟩ : ByteArray).toList)) = false := by rw [beq_self_eq_true]; rfl
 have gl : (([] : List D).length) = 0 := rfl;refine ye1 func120 ntmps120 fun _ _ _=>?_
 repeat' (first | refine yz ?_ | refine yp b175 fa5 ?_ | refine yp b177 fa1 ?_ | refine yp b176 fa2 ?_ | refine yx ?_ | exact zD)
theorem fa9 : Ev E 66 [ez7] (.d (.int 1)) := by
 refine ye1 func66 ntmps66 fun _ _ _=>?_
 repeat' (refine yz ?_)
 refine ac7 (α := Unit) (fun _ => ⟨[(3, .d (.int 1)), (8, .d (.int 0)), (9, .d (.int 0))], []⟩) (fun _ => 0) () (zle 0) ?_;rintro -
 repeat' (first | refine yz ?_ | exact zD)
theorem fb0 (op o k v : Int) (p : D) (n : Int) (hn : 0 ≤ n ∧ n ≤ 1000000) (h : Ev E 66 [p] (.d (.int n))) (hp : ∃ a b c d e, p = plU a b c d e) : Ev E 66 [plU op [p] o k v] (.d (.int (1 + n))) := by
 obtain ⟨a, b, c, d, e, rfl⟩ := hp;have hx : ([plU a b c d e])[((0 : Int)).toNat]? = some (plU a b c d e) := rfl;refine ye1 func66 ntmps66 fun _ _ _=>?_
 repeat' (refine yz ?_)
 refine ac7 (α := Fin 2) (fun p => ⟨[(3, .d (.int (bif p.val == 0 then 1 else 1 + n))), (7, .d (.sl [plU a b c d e])), (8, .d (.int 1)), (9, .d (.int (p.val : Nat)))], []⟩) (fun p => 1 - p.val) ⟨0, by omega⟩ (zle 0) ?_;rintro ⟨i, hi⟩
 match i, hi with
 | 0, _ =>
  show go _ _ ⟨[(3, .d (.int 1)), (7, .d (.sl [plU a b c d e])), (8, .d (.int 1)), (9, .d (.int 0))], []⟩ _
  repeat' (first | refine yz ?_ | refine yi (plU a b c d e) hx ?_ | refine yp b66 h ?_)
  refine ac1 ?_;exact ⟨⟨1, by omega⟩, by dsimp only; omega, (zle 0)⟩
 | 1, _ =>
  show go _ _ ⟨[(3, .d (.int (1 + n))), (7, .d (.sl [plU a b c d e])), (8, .d (.int 1)), (9, .d (.int 1))], []⟩ _
  repeat' (first | refine yz ?_ | exact zD)
theorem fb1 (l : Int) : EvS E 174 [.d (.sl []), .clo 119 [.ptr 0 0]] [.var 3 (.w (.d (.int l)))] (.d (.int (-1))) [.var 3 (.w (.d (.int l)))] := by
 refine yn func174 ntmps174 fun _ _ _ _=>?_
 repeat' (refine yz ?_)
 refine ac7 (α := Unit) (fun _ => ⟨[(0, .d (.sl [])), (7, .d (.int 0)), (8, .d (.int 0))], [.var 3 (.w (.d (.int l)))]⟩) (fun _ => 0) () (zle 1) ?_;rintro -
 repeat' (first | refine yz ?_ | refine bd2 [0] rfl rfl rfl rfl rfl ?_)
 all_goals rfl
theorem fb2 (l : Int) : EvS E 118 [.d (.sl []), .clo 119 [.ptr 0 0]] [.var 3 (.w (.d (.int l)))] (.d (.bool false)) [.var 3 (.w (.d (.int l)))] := by
 have h := fb1 l;refine yn func118 ntmps118 fun _ _ _ _=>?_
 repeat' (first | refine yz ?_ | refine yc [0] b174 (h) ?_ | refine bd2 [0] rfl rfl rfl rfl rfl ?_)
 all_goals rfl
theorem fb3 (l : Int) (hl : 1 ≤ l ∧ l ≤ 1000) (p : D) (hp : ∃ a b c d e, p = plU a b c d e) (h : Ev E 65 [p, .int (l - 1)] (.d (.bool false))) : EvS E 119 [.d p, .ptr 0 0] [.var 3 (.w (.d (.int l)))] (.d (.bool false)) [.var 3 (.w (.d (.int l)))] := by
 obtain ⟨a, b, c, d, e, rfl⟩ := hp;refine yn func119 ntmps119 fun _ _ _ _=>?_
 repeat' (first | refine yz ?_ | refine yp b65 h ?_ | refine bd2 [0] rfl rfl rfl rfl rfl ?_)
 all_goals rfl
theorem fb4 (l : Int) (hl : 1 ≤ l ∧ l ≤ 1000) (p : D) (hp : ∃ a b c d e, p = plU a b c d e) (h : Ev E 65 [p, .int (l - 1)] (.d (.bool false))) : EvS E 174 [.d (.sl [p]), .clo 119 [.ptr 0 0]] [.var 3 (.w (.d (.int l)))] (.d (.int (-1))) [.var 3 (.w (.d (.int l)))] := by
 have h1 := fb3 l hl p hp h;obtain ⟨a, b, c, d, e, rfl⟩ := hp;have hx : ([plU a b c d e])[((0 : Int)).toNat]? = some (plU a b c d e) := rfl;refine yn func174 ntmps174 fun _ _ _ _=>?_
 repeat' (refine yz ?_)
 refine ac7 (α := Fin 2) (fun p => ⟨[(0, .d (.sl [plU a b c d e])), (1, .clo 119 [.ptr 0 0]), (7, .d (.int 1)), (8, .d (.int (p.val : Nat)))], [.var 3 (.w (.d (.int l)))]⟩) (fun p => 1 - p.val) ⟨0, by omega⟩ (zle 1) ?_;rintro ⟨i, hi⟩
 match i, hi with
 | 0, _ =>
  repeat' (first | refine yz ?_ | refine yi (plU a b c d e) hx ?_ | refine bc9 [0] rfl rfl rfl rfl (FnX.clo _ _) b119 (h1) rfl rfl rfl rfl rfl ?_)
  refine ac1 ?_;exact ⟨⟨1, by omega⟩, by dsimp only; omega, (zle 1)⟩
 | 1, _ =>
  repeat' (first | refine yz ?_ | refine bd2 [0] rfl rfl rfl rfl rfl ?_)
  all_goals rfl
theorem fb5 (l : Int) (hl : 1 ≤ l ∧ l ≤ 1000) (p : D) (hp : ∃ a b c d e, p = plU a b c d e) (h : Ev E 65 [p, .int (l - 1)] (.d (.bool false))) : EvS E 118 [.d (.sl [p]), .clo 119 [.ptr 0 0]] [.var 3 (.w (.d (.int l)))] (.d (.bool false)) [.var 3 (.w (.d (.int l)))] := by
 have h1 := fb4 l hl p hp h;refine yn func118 ntmps118 fun _ _ _ _=>?_
 repeat' (first | refine yz ?_ | refine yc [0] b174 (h1) ?_ | refine bd2 [0] rfl rfl rfl rfl rfl ?_)
 all_goals rfl
theorem fb6 (l : Int) (hl : 1 ≤ l ∧ l ≤ 1000) : Ev E 65 [ez7, .int l] (.d (.bool false)) := by
 have h := fb2 l;have g1 : decide (l < 1) = false := by simp; omega
 refine ye2 func65 ntmps65 fun _ _ _=>?_
 repeat' (first | refine yz ?_ | refine bc7 rfl rfl rfl rfl rfl ?_ | refine yc [1] b118 (h) ?_ | refine yx ?_ | exact zD)
theorem fb7 (op o k v l : Int) (hl : 1 ≤ l ∧ l ≤ 1000) (p : D) (hp : ∃ a b c d e, p = plU a b c d e) (h : Ev E 65 [p, .int (l - 1)] (.d (.bool false))) : Ev E 65 [plU op [p] o k v, .int l] (.d (.bool false)) := by
 have h1 := fb5 l hl p hp h;have g1 : decide (l < 1) = false := by simp; omega
 refine ye2 func65 ntmps65 fun _ _ _=>?_
 repeat' (first | refine yz ?_ | refine bc7 rfl rfl rfl rfl rfl ?_ | refine yc [1] b118 (h1) ?_ | refine yx ?_ | exact zD)
attribute [local irreducible] PGo RGw
def fb8 : Ex := eo7 (bp4 true)
theorem fb9 : nd fb8 = 1 := by kernel_rfl
theorem fc0 : exqU fb8 [] = 0 := by kernel_rfl
theorem fc1 : Ev E 126 [ez6, .sl []] (.d (.int 0)) := by
 have h := ez5 fb8 [] (by decide) (by decide);rw [fc0] at h;exact h
theorem fc2 : Ev E 67 [ez7] (.tup [.sl [], .int 0]) := by
 have hf := fa6;refine ye1 func67 ntmps67 fun _ _ _=>?_
 repeat' (refine yz ?_)
 refine ac7 (α := Unit) (fun _ => ⟨[(1, .ptr 0 0), (4, .nilS), (12, .d (.sl [])), (13, .d (.int 0)), (14, .d (.int 0))], [oPU ez7]⟩) (fun _ => 0) () (zle 1) ?_;rintro -;have g1 : decide ((0 : Int) < 0) = false := rfl
 repeat' (first | refine yz ?_ | refine yp b120 hf ?_ | exact zL)
abbrev fc3 : aa5 := .row 52 1 [.sl []]
theorem fc4 (p : D) (hp : ∃ a b c d e, p = plU a b c d e) (h : Ev E 67 [p] (.tup [.sl [], .int 0])) : Ev E 67 [ez8 p] (.tup [.sl [], .int 0]) := by
 have hf := fa7 p;have hx : ([p])[((0 : Int)).toNat]? = some p := rfl;have hq := fc1;obtain ⟨a, b, c, d, e, rfl⟩ := hp;have hk0 : ([D.sl []] : List D)[((0 : Int)).toNat]? = some (.sl []) := rfl;refine ye1 func67 ntmps67 fun _ _ _=>?_
 repeat' (refine yz ?_)
 refine ac7 (α := Fin 2) (fun q => ⟨[(1, .ptr 0 0), (4, bi6 1 ([D.sl []].take q.val)), (12, .d (.sl [plU a b c d e])), (13, .d (.int 1)), (14, .d (.int (q.val : Nat)))], [oPU (ez8 (plU a b c d e))] ++ ay5 52 1 ([D.sl []].take q.val)⟩) (fun q => 1 - q.val) ⟨0, by omega⟩ (zle 1) ?_;rintro ⟨i, hi⟩
 match i, hi with
 | 0, _ =>
  show go _ _ ⟨[(1, .ptr 0 0), (4, .nilS), (12, .d (.sl [plU a b c d e])), (13, .d (.int 1)), (14, .d (.int 0))], [oPU (ez8 (plU a b c d e))]⟩ _
  repeat' (first | refine yz ?_ | refine yi (plU a b c d e) hx ?_ | refine yp b67 h ?_ | (refine qS rfl ⟨by simp, fun d hd => by (obtain rfl := fl4.1 hd; rfl), by (show (0 + 1) * 24 ≤ 140737488355328; omega), by (show 0 + 1 ≤ 9223372036854775807; omega)⟩ ?_))
  refine ac1 ?_;exact ⟨⟨1, by omega⟩, by dsimp only; omega, (bj8 [0, 2])⟩
 | 1, _ =>
  show go _ _ ⟨[(1, .ptr 0 0), (4, .own 1), (12, .d (.sl [plU a b c d e])), (13, .d (.int 1)), (14, .d (.int 1))], [oPU (ez8 (plU a b c d e)), fc3]⟩ _
  repeat' (first | refine yz ?_ | refine yp b120 hf ?_ | (refine qS rfl ?_ ?_; exact ⟨by decide, by decide⟩) | refine qW (.sl []) rfl rfl rfl rfl rfl rfl hk0 rfl ?_ | refine yp b126 hq ?_ | exact zL)
theorem fc5 (p : D) (hp : ∃ a b c d e, p = plU a b c d e) (h : Ev E 67 [p] (.tup [.sl [], .int 0])) : Ev E 67 [ez9 p] (.tup [.sl [], .int 0]) := by
 have hf := fa8 p;have hx : ([p])[((0 : Int)).toNat]? = some p := rfl;obtain ⟨a, b, c, d, e, rfl⟩ := hp;have hk0 : ([D.sl []] : List D)[((0 : Int)).toNat]? = some (.sl []) := rfl;refine ye1 func67 ntmps67 fun _ _ _=>?_
 repeat' (refine yz ?_)
 refine ac7 (α := Fin 2) (fun q => ⟨[(1, .ptr 0 0), (4, bi6 1 ([D.sl []].take q.val)), (12, .d (.sl [plU a b c d e])), (13, .d (.int 1)), (14, .d (.int (q.val : Nat)))], [oPU (ez9 (plU a b c d e))] ++ ay5 52 1 ([D.sl []].take q.val)⟩) (fun q => 1 - q.val) ⟨0, by omega⟩ (zle 1) ?_;rintro ⟨i, hi⟩
 match i, hi with
 | 0, _ =>
  show go _ _ ⟨[(1, .ptr 0 0), (4, .nilS), (12, .d (.sl [plU a b c d e])), (13, .d (.int 1)), (14, .d (.int 0))], [oPU (ez9 (plU a b c d e))]⟩ _
  repeat' (first | refine yz ?_ | refine yi (plU a b c d e) hx ?_ | refine yp b67 h ?_ | (refine qS rfl ⟨by simp, fun d hd => by (obtain rfl := fl4.1 hd; rfl), by (show (0 + 1) * 24 ≤ 140737488355328; omega), by (show 0 + 1 ≤ 9223372036854775807; omega)⟩ ?_))
  refine ac1 ?_;exact ⟨⟨1, by omega⟩, by dsimp only; omega, (bj8 [0, 2])⟩
 | 1, _ =>
  show go _ _ ⟨[(1, .ptr 0 0), (4, .own 1), (12, .d (.sl [plU a b c d e])), (13, .d (.int 1)), (14, .d (.int 1))], [oPU (ez9 (plU a b c d e)), fc3]⟩ _
  repeat' (first | refine yz ?_ | refine yp b120 hf ?_ | (refine qS rfl ?_ ?_; exact ⟨by decide, by decide⟩) | refine qW (.sl []) rfl rfl rfl rfl rfl rfl hk0 rfl ?_ | exact zL)
theorem fc6 (p : D) (n : Int) (hn : n ≤ 2000) (h1 : Ev E 65 [p, .int 200] (.d (.bool false))) (h2 : Ev E 66 [p] (.d (.int n))) (h3 : Ev E 67 [p] (.tup [.sl [], .int 0])) (hp : ∃ a b c d e, p = plU a b c d e) : Ev E 37 [p] (.tup [.sl [], .int 0]) := by
 have g1 : decide (n > 2000) = false := by simp; omega
 obtain ⟨a, b, c, d, e, rfl⟩ := hp;refine ye1 func37 ntmps37 fun _ _ _=>?_
 repeat' (first | refine yz ?_ | refine yp b65 h1 ?_ | refine yp b66 h2 ?_ | refine yp b67 h3 ?_ | exact zL)
abbrev fuU : D := ez8 (ez9 ez7)
abbrev ufU : D := ez9 (ez8 ez7)
theorem fc7 : Ev E 37 [fuU] (.tup [.sl [], .int 0]) :=
 fc6 fuU 3 (by omega) (fb7 6 1 1 1 200 (by omega) _ ⟨_, _, _, _, _, rfl⟩ (fb7 9 0 0 0 199 (by omega) _ ⟨_, _, _, _, _, rfl⟩ (fb6 198 (by omega))))
  (fb0 6 1 1 1 _ 2 (by omega) (fb0 9 0 0 0 _ 1 (by omega) fa9 ⟨_, _, _, _, _, rfl⟩) ⟨_, _, _, _, _, rfl⟩) (fc4 _ ⟨_, _, _, _, _, rfl⟩ (fc5 _ ⟨_, _, _, _, _, rfl⟩ fc2)) ⟨_, _, _, _, _, rfl⟩
theorem fc8 : Ev E 37 [ufU] (.tup [.sl [], .int 0]) :=
 fc6 ufU 3 (by omega) (fb7 9 0 0 0 200 (by omega) _ ⟨_, _, _, _, _, rfl⟩ (fb7 6 1 1 1 199 (by omega) _ ⟨_, _, _, _, _, rfl⟩ (fb6 198 (by omega))))
  (fb0 9 0 0 0 _ 2 (by omega) (fb0 6 1 1 1 _ 1 (by omega) fa9 ⟨_, _, _, _, _, rfl⟩) ⟨_, _, _, _, _, rfl⟩) (fc5 _ ⟨_, _, _, _, _, rfl⟩ (fc4 _ ⟨_, _, _, _, _, rfl⟩ fc2)) ⟨_, _, _, _, _, rfl⟩
theorem fc9 : Ev E 70 [.sl []] (.d (.sl [])) := by
 refine ye1 func70 ntmps70 fun _ _ _=>?_
 repeat' (first | refine yz ?_ | (refine ay6 rfl (fun _ => ?_) ?_) | refine az3 rfl rfl rfl rfl rfl rfl rfl rfl ?_ | exact zD)
theorem fd0 : Ev E 14 [.sl [ez6]] (.d ez6) := ew9 [fb8] fun x hx => by rw [fl4.1 hx, fb9]; decide
theorem fd1 : Ev E 12 [ez6] (.d (.sl [ez6])) := (ew6 fb8 (by rw [fb9]; decide)).ev
theorem fd2 (p : D) (hp : ∃ a b c d e, p = plU a b c d e) : Ev E 71 [p, .sl [ez6]] (.d (ez8 p)) := by
 have h := fd0;obtain ⟨a, b, c, d, e, rfl⟩ := hp;refine ye2 func71 ntmps71 fun _ _ _=>?_
 repeat' (first | refine yq 3 [5] ?_ | refine yf 3 0 5 ?_ | refine yw ?_ | refine rgN ?_ | refine yz ?_ | refine yp b14 h ?_ | exact zD)
theorem fd3 : Ev E 38 [ez7, .sl [ez6]] (.d (ez8 ez7)) := by
 have h := fd2 ez7 ⟨_, _, _, _, _, rfl⟩;have hc := fc9;have g1 : decide ((0 : Int) < 0) = false := rfl;refine ye2 func38 ntmps38 fun _ _ _=>?_
 repeat' (first | refine yz ?_ | refine yp b70 hc ?_)
 refine ac7 (α := Unit) (fun _ => ⟨[(1, .d (.sl [ez6])), (2, .ptr 0 0), (4, .ptr 1 0), (5, .d (.sl [])), (47, .d (.sl [])), (48, .d (.int 0)), (49, .d (.int 0))], [oPU ez7, .var 63 (.cs (List.map ab3 te63.zero.cells.toList))]⟩) (fun _ => 0) () (zle 2) ?_;rintro -
 repeat' (first | refine yz ?_ | refine yp b71 h ?_ | exact zD)
theorem fd4 : Ev E 38 [ez9 ez7, .sl [ez6]] (.d (ez9 (ez8 ez7))) := by
 have h := fd3;have hx : ([ez7])[((0 : Int)).toNat]? = some ez7 := rfl;refine ye2 func38 ntmps38 fun _ _ _=>?_
 repeat' (first | refine yz ?_ | refine yi ez7 hx ?_ | refine yp b38 h ?_ | exact zD)
theorem fd5 : Ev E 38 [ez8 (ez9 ez7), .sl []] (.d (ez9 (ez8 ez7))) := by
 have h := fd4;have hc := fd1;have hx : ([ez9 ez7])[((0 : Int)).toNat]? = some (ez9 ez7) := rfl;refine ye2 func38 ntmps38 fun _ _ _=>?_
 repeat' (first | refine yq 3 [10] ?_ | refine yf 3 0 10 ?_ | refine yw ?_ | refine rgN ?_ | refine yz ?_ | refine yi (ez9 ez7) hx ?_ | refine yp b12 hc ?_ | refine az3 rfl rfl rfl rfl rfl rfl rfl rfl ?_ | refine yp b38 h ?_ | exact zD)
theorem fd6 : Ev E 23 [fuU] (.d ufU) := by
 have h1 := fc7;have h2 := fc8;have h3 := fd5;refine ye1 func23 ntmps23 fun _ _ _=>?_
 repeat' (first | refine yz ?_ | refine yp b37 h1 ?_ | refine yp b37 h2 ?_ | refine yp b38 h3 ?_ | exact zD)
end Go.Proofs.YtibfalecohlngaaGreatDoor
