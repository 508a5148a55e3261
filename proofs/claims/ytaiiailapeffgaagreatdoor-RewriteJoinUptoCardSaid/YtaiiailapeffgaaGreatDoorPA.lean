/- The variables of an expression, by the program: a closure that calls itself writes them into a map; then the map's keys, sorted; An expression over a plan's columns, by the program: which variables it uses, its error; Plans of the chapter's example: the shapes of their operators, their depth, their size; The check of the chapter's example plans, and moving their filter towards the leaves, by the program; The chapter's example plan: its filter goes below the removal of repeats. Conditions: each part's own, as it says. -/
import Derived.Test.YtaiiailapeffgaaGreatDoorLA
import Derived.Test.YtaiiailapeffgaaGreatDoorUA
import Derived.Test.YtaiiailapeffgaaGreatDoorMD
import Derived.Test.YtaiiailapeffgaaGreatDoorGC
set_option linter.unusedVariables false
set_option linter.unusedSimpArgs false
namespace Go.Proofs.YtaiiailapeffgaaGreatDoor
set_option maxRecDepth 4000
open Go Go.Abs Go.Val Go.RowKit Go.Proofs.Tryz
attribute [local irreducible] go SGo an2 Ev aw0 EvO EvS RGo
abbrev el8 (m : Nat) : aa5 := .var 203 (.w (.mp m))
abbrev el9 (a b : Nat) : aa5 := .var 204 (.w (.clo 190 [.ptr a 0, .ptr b 0]))
abbrev em0 (ks : List ByteArray) : aa5 := .map .string (mpU ks)
theorem em1 (ks : List ByteArray) : EvS E 191 [.mp 0] [em0 ks] (.clo 251 [.ptr 1 0]) [em0 ks, el8 0] := by
 refine yn func191 ntmps191 fun _ _ _ _=>?_
 repeat' (first | refine yz ?_ | refine bc7 rfl rfl rfl rfl rfl ?_ | refine bd2 [0, 1] rfl rfl rfl rfl rfl ?_)
 all_goals rfl
structure SVst (n : Nat) where
 i : Nat
 hi : i ≤ n
theorem em2 {ks : List Ex} {i : Nat} {x : Ex} (h : ks[i]? = some x) (K : List ByteArray) : ek7 K (ej2 (ks.take (i + 1))) = ek7 (ek7 K (ej2 (ks.take i))) (usX x) := by
 rw [ej6, ej6, fp0, h, List.flatMap_append, el1];simp
theorem em3 {e : Ex} : Fit (cy3 e) → ∀ s ∈ usX e, s.size ≤ maxLen := by
 refine cz2 (P := fun e => Fit (cy3 e) → ∀ s ∈ usX e, s.size ≤ maxLen) (fun op v nm ds ks ih hf s hs => ?_) e;obtain ⟨-, -, h1, -, h2⟩ := cz0 hf;rw [usX, fm8] at hs;rcases hs with hs | hs
 ·cases h : op == 2 with
  | true =>
   rw [h, cond_true, fl7] at hs;subst hs;exact h1
  | false => rw [h] at hs; cases hs
 ·rw [ej6, ft2] at hs;obtain ⟨x, hx, hs⟩ := hs;exact ih x hx (h2 x hx) s hs
set_option maxHeartbeats 1000000 in
theorem em4 (e : Ex) : nd e ≤ 1000000 → ∀ K : List ByteArray, EvS E 190 [.d (cy3 e), .ptr 0 0, .ptr 1 0] [el8 2, el9 0 1, em0 K] (.tup []) [el8 2, el9 0 1, em0 (ek7 K (usX e))] := by
 refine cz2 (P := fun e => nd e ≤ 1000000 → ∀ K : List ByteArray, EvS E 190 [.d (cy3 e), .ptr 0 0, .ptr 1 0] [el8 2, el9 0 1, em0 K] (.tup []) [el8 2, el9 0 1, em0 (ek7 K (usX e))]) (fun op v nm ds ks ih hn K => ?_) e;rw [dc9] at hn;have hn' : ndL ks + 1 ≤ 1000000 := hn;have hle : (cy2 ks).length = ks.length := cy9 ks;have hkl := ef0 ks;obtain ⟨vk, vn, vd, vS, vl⟩ := v;rw [usX, el1];show EvS E 190 [.d (.agg [.int op, .int vk, .int vn, .int vd, .str vS, .sl (bp7 vl), .str nm, .bool ds, .sl (cy2 ks)]), .ptr 0 0, .ptr 1 0] _ _ _;generalize bp7 vl = VL;obtain ⟨K1, hK1⟩ : ∃ K1, K1 = ek7 K (bif op == 2 then [nm] else []) := ⟨_, rfl⟩;rw [← hK1]
 cases c1 : op == 2 with
 | true =>
  rw [c1, cond_true] at hK1;have hK1 : K1 = ek1 K nm := hK1;have hput : bl7 (.string nm) (.bool true) (mpU K) = mpU K1 := by rw [el5, hK1]
  refine yn func190 ntmps190 fun _ _ _ _=>?_
  repeat' (first | refine yz ?_ | refine bm9 ?_)
  rw [hput];refine ac7 (α := SVst ks.length) (fun p => ⟨[(1, .ptr 0 0), (2, .ptr 1 0), (3, .ptr 3 0), (13, .d (.sl (cy2 ks))), (14, .d (.int (cy2 ks).length)), (15, .d (.int p.i))], [el8 2, el9 0 1, em0 (ek7 K1 (ej2 (ks.take p.i))), oXU (.agg [.int op, .int vk, .int vn, .int vd, .str vS, .sl VL, .str nm, .bool ds, .sl (cy2 ks)])]⟩) (fun p => ks.length - p.i) ⟨0, by omega⟩ (zle 4) ?_;rintro ⟨i, hi⟩;dsimp only;rcases fk1 i ks.length with hlt | hge
  ·have g1 : decide ((i : Int) < ((cy2 ks).length : Int)) = true := by rw [hle]; simpa using hlt
   have hx0 := fk0 hlt;generalize ks[i] = x at hx0;have hx : (cy2 ks)[(i : Int).toNat]? = some (cy3 x) := cy7 (by rw [fl0]; exact hx0);have hm := fk4 hx0;have hcx := ih x hm (by have := dd0 hm; omega) (ek7 K1 (ej2 (ks.take i)));rw [← em2 hx0] at hcx
   repeat' (first | refine yz ?_ | refine yi (cy3 x) hx ?_ | refine bc9 [0, 1, 2] rfl rfl rfl rfl (FnX.clo _ _) b190 (hcx) rfl rfl rfl rfl rfl ?_)
   refine ac1 ?_;exact ⟨⟨i + 1, by omega⟩, by dsimp only; omega, (zle 4)⟩
  ·have g1 : decide ((i : Int) < ((cy2 ks).length : Int)) = false := by rw [hle]; simp; omega
   rw [fn4 hge]
   repeat' (first | refine yz ?_ | refine yo [0, 1, 2])
 | false =>
  rw [c1, cond_false] at hK1;have hK1 : K1 = K := hK1;subst hK1;refine yn func190 ntmps190 fun _ _ _ _=>?_
  repeat' (refine yz ?_)
  refine ac7 (α := SVst ks.length) (fun p => ⟨[(1, .ptr 0 0), (2, .ptr 1 0), (3, .ptr 3 0), (13, .d (.sl (cy2 ks))), (14, .d (.int (cy2 ks).length)), (15, .d (.int p.i))], [el8 2, el9 0 1, em0 (ek7 K1 (ej2 (ks.take p.i))), oXU (.agg [.int op, .int vk, .int vn, .int vd, .str vS, .sl VL, .str nm, .bool ds, .sl (cy2 ks)])]⟩) (fun p => ks.length - p.i) ⟨0, by omega⟩ (zle 4) ?_;rintro ⟨i, hi⟩;dsimp only;rcases fk1 i ks.length with hlt | hge
  ·have g1 : decide ((i : Int) < ((cy2 ks).length : Int)) = true := by rw [hle]; simpa using hlt
   have hx0 := fk0 hlt;generalize ks[i] = x at hx0;have hx : (cy2 ks)[(i : Int).toNat]? = some (cy3 x) := cy7 (by rw [fl0]; exact hx0);have hm := fk4 hx0;have hcx := ih x hm (by have := dd0 hm; omega) (ek7 K1 (ej2 (ks.take i)));rw [← em2 hx0] at hcx
   repeat' (first | refine yz ?_ | refine yi (cy3 x) hx ?_ | refine bc9 [0, 1, 2] rfl rfl rfl rfl (FnX.clo _ _) b190 (hcx) rfl rfl rfl rfl rfl ?_)
   refine ac1 ?_;exact ⟨⟨i + 1, by omega⟩, by dsimp only; omega, (zle 4)⟩
  ·have g1 : decide ((i : Int) < ((cy2 ks).length : Int)) = false := by rw [hle]; simp; omega
   rw [fn4 hge]
   repeat' (first | refine yz ?_ | refine yo [0, 1, 2])
theorem em5 (e : Ex) (hn : nd e ≤ 1000000) : Ev E 127 [cy3 e] (.d (.sl ((ej3 e).map .str))) := Ev.fit fun hfit => by
 have hv := em4 e hn [];have hl := ej7 e;have hal := el0 (usX e) []
 have hsz : ∀ s ∈ ek7 [] (usX e), s.size ≤ maxLen := fun s hs => by
  rw [ek8] at hs;rcases hs with h | h
  ·cases h
  ·exact em3 (hfit (cy3 e) (by simp)) s h
 have hs := el7 203 (ek7 [] (usX e)) hsz (ek9 List.nodup_nil) (by simp only [fm6] at hal; omega)
 have hr : ei6 [] (ek7 [] (usX e)) = ej3 e := by
  refine ei5 (ei8 List.Pairwise.nil) (ej4 e) fun s => ?_
  rw [ei7, ej5, ek8];simp
 rw [hr] at hs;have hk := em1 (ek7 [] (usX e));refine ye1 func127 ntmps127 fun _ _ _=>?_
 repeat' (first | refine yz ?_ | refine bm2 rfl rfl rfl rfl rfl rfl ?_ | refine bc7 rfl rfl rfl rfl rfl ?_ | refine bc9 [2, 3, 1] rfl rfl rfl rfl (FnX.clo _ _) b190 (hv) rfl rfl rfl rfl rfl ?_ | refine yc [1] b191 (hk) ?_ | refine yc [4, 1] b173 (hs) ?_ | exact zD)
attribute [local irreducible] PGo
def em6 (e : Ex) (cols : List ByteArray) : Bool := (ej3 e).all fun s => cv9 cols s
def em7 (e : Ex) (cols : List ByteArray) : Int := bif di3 e != 0 then di3 e else bif !(em6 e cols) then 6 else bif dj2 e then 9 else 0
theorem em8 (cols : List ByteArray) (s : ByteArray) : EvS E 181 [.d (.str s), .ptr 0 0] [eg8 cols] (.d (.bool (!cv9 cols s))) [eg8 cols] := by
 have h := cw6 cols s;refine yn func181 ntmps181 fun _ _ _ _=>?_
 repeat' (first | refine yz ?_ | refine yp bt2 h ?_ | refine bd2 [0] rfl rfl rfl rfl rfl ?_)
 all_goals rfl
theorem em9 (cols l : List ByteArray) (hmax : l.length ≤ 9223372036854775807) : EvS E 189 [.d (.sl (l.map D.str)), .clo 181 [.ptr 0 0]] [eg8 cols] (.d (.int (dk4 (l.findIdx? fun s => !cv9 cols s)))) [eg8 cols] := by
 have hle : (l.map D.str).length = l.length := by simp
 refine yn func189 ntmps189 fun _ _ _ _=>?_
 repeat' (refine yz ?_)
 refine ac7 (α := SFc l fun s => !cv9 cols s) (fun p => ⟨[(0, .d (.sl (l.map D.str))), (1, .clo 181 [.ptr 0 0]), (7, .d (.int (l.map D.str).length)), (8, .d (.int p.i))], [eg8 cols]⟩) (fun p => l.length - p.i) ⟨0, by omega, fun j hj => absurd hj (by omega)⟩ (zle 1) ?_;rintro ⟨i, hi, ok⟩;dsimp only;rcases fk1 i l.length with hlt | hge
 ·have g1 : decide ((i : Int) < ((l.map D.str).length : Int)) = true := by rw [hle]; simpa using hlt
  have hx0 := fk0 hlt;generalize l[i] = y at hx0;have hx : (l.map D.str)[((i : Nat) : Int).toNat]? = some (.str y) := dk2 (f := D.str) hx0;have h1 := em8 cols y
  cases hc : cv9 cols y with
  | false =>
   rw [hc] at h1;rw [dk5 hx0 (show (!cv9 cols y) = true by rw [hc]; rfl) ok]
   repeat' (first | refine yz ?_ | refine yi (.str y) hx ?_ | refine bc9 [0] rfl rfl rfl rfl (FnX.clo _ _) b181 (h1) rfl rfl rfl rfl rfl ?_ | refine bd2 [0] rfl rfl rfl rfl rfl ?_)
   all_goals rfl
  | true =>
   rw [hc] at h1
   repeat' (first | refine yz ?_ | refine yi (.str y) hx ?_ | refine bc9 [0] rfl rfl rfl rfl (FnX.clo _ _) b181 (h1) rfl rfl rfl rfl rfl ?_)
   refine ac1 ?_;exact ⟨⟨i + 1, by omega, SFc.next hx0 (show (!cv9 cols y) = false by rw [hc]; rfl) ok⟩, by dsimp only; omega, (zle 1)⟩
 ·have g1 : decide ((i : Int) < ((l.map D.str).length : Int)) = false := by rw [hle]; simp; omega
  rw [dk6 fun j hj => ok j (by omega)]
  repeat' (first | refine yz ?_ | refine bd2 [0] rfl rfl rfl rfl rfl ?_)
  all_goals rfl
theorem en0 (cols l : List ByteArray) (hmax : l.length ≤ 9223372036854775807) : EvS E 126 [.d (.sl (l.map D.str)), .clo 181 [.ptr 0 0]] [eg8 cols] (.d (.bool (l.any fun s => !cv9 cols s))) [eg8 cols] := by
 have h := em9 cols l hmax;rw [← dk7];refine yn func126 ntmps126 fun _ _ _ _=>?_
 repeat' (first | refine yz ?_ | refine yc [0] b189 (h) ?_ | refine bd2 [0] rfl rfl rfl rfl rfl ?_)
 all_goals rfl
theorem en1 (cols l : List ByteArray) : (!(l.any fun s => !cv9 cols s)) = l.all fun s => cv9 cols s := by
 induction l with
 | nil => rfl
 | cons x r ih => rw [List.any_cons, fn7, ← ih]; cases cv9 cols x <;> simp
theorem en2 (e : Ex) (cols : List ByteArray) (hn : nd e ≤ 1000000) : Ev E 119 [cy3 e, .sl (cols.map .str)] (.d (.bool (em6 e cols))) := by
 have hu := em5 e hn;have hul := ek0 e;have h := en0 cols (ej3 e) (by omega);unfold em6;rw [← en1];refine ye2 func119 ntmps119 fun _ _ _=>?_
 repeat' (first | refine yz ?_ | refine yp b127 hu ?_ | refine bc7 rfl rfl rfl rfl rfl ?_ | refine yc [1] b126 (h) ?_ | exact zD)
theorem en3 (e : Ex) (cols : List ByteArray) (hd : dp e ≤ 1000000) (hn : nd e ≤ 1000000) : Ev E 71 [cy3 e, .sl (cols.map .str)] (.d (.int (em7 e cols))) := by
 have hk := di4 e hd hn;have h1 := en2 e cols hn;have h2 := dl3 e;unfold em7;generalize em6 e cols = kn at *;generalize dj2 e = ha at *
 cases hc : di3 e != 0 with
 | true =>
  rw [cond_true];generalize di3 e = z at *;refine ye2 func71 ntmps71 fun _ _ _=>?_
  repeat' (first | refine yz ?_ | refine yp b26 hk ?_ | exact zD)
 | false =>
  rw [cond_false];have h0 : di3 e = 0 := by simpa using hc
  rw [h0] at hk
  cases kn with
  | false =>
   refine ye2 func71 ntmps71 fun _ _ _=>?_
   repeat' (first | refine yz ?_ | refine yp b26 hk ?_ | refine yp bt3 h1 ?_ | exact zD)
  | true =>
   cases ha with
   | true =>
    refine ye2 func71 ntmps71 fun _ _ _=>?_
    repeat' (first | refine yz ?_ | refine yp b26 hk ?_ | refine yp bt3 h1 ?_ | refine yp bt4 h2 ?_ | exact zD)
   | false =>
    refine ye2 func71 ntmps71 fun _ _ _=>?_
    repeat' (first | refine yz ?_ | refine yp b26 hk ?_ | refine yp bt3 h1 ?_ | refine yp bt4 h2 ?_ | exact zD)
end Go.Proofs.YtaiiailapeffgaaGreatDoor
namespace Go.Proofs.YtaiiailapeffgaaGreatDoor
set_option maxRecDepth 4000
open Go Go.Abs Go.Val Go.RowKit Go.Proofs.Tryz
attribute [local irreducible] go SGo an2 Ev aw0 EvO EvS RGo
abbrev zeU : D := .agg [.int 0, .int 0, .int 0, .int 0, .str ⟨#[]⟩, .sl [], .str ⟨#[]⟩, .bool false, .sl []]
abbrev en4 : D := .agg [.int 1, .int 1, .int 1, .int 0, .str ⟨#[]⟩, .sl [], .str ⟨#[]⟩, .bool false, .sl []]
abbrev zcU : D := .agg [.int 0, .bool false, .bool false, .sl [], .sl [], .int 0, .int 0, .int 0, .int 0, .str ⟨#[]⟩, .sl [], .str ⟨#[]⟩, .bool false, .sl [], .str ⟨#[]⟩, .sl [], .sl [], .int 0, .int 0, .sl [], .sl []]
abbrev plU (op : Int) (ks : List D) (o k n : Int) : D := .agg [.int op, .sl ks, .sl [], .sl [], .int 0, .bool false, .bool false, .sl [], .sl [], .int 0, .int 0, .int 0, .int 0, .str ⟨#[]⟩, .sl [], .str ⟨#[]⟩, .bool false, .sl [], .str ⟨#[]⟩, .sl [], .sl [], .int 0, .int 0, .sl [], .sl [],
 .int o, .int k, .int n, .int 0, .str ⟨#[]⟩, .sl [], .str ⟨#[]⟩, .bool false, .sl [], .str ⟨#[]⟩, .sl [], .sl [], .int 0, .int 0]
abbrev en5 : D := plU 1 [] 0 0 0
abbrev en6 (p : D) : D := plU 6 [p] 1 1 1
abbrev en7 (p : D) : D := plU 9 [p] 0 0 0
abbrev oPU (p : D) : aa5 := .var 40 (.w (.d p))
theorem en8 : Ev E 170 [.agg [.int 0, .int 0, .int 0, .str ⟨#[]⟩, .sl []]] (.d (.bool true)) := by
 have g0 : ((⟨#[]⟩ : ByteArray).toList == (⟨#[]⟩ : ByteArray).toList) = true := beq_self_eq_true _;refine ye1 func170 ntmps170 fun _ _ _=>?_
 repeat' (first | refine yz ?_ | refine yx ?_ | exact zD)
theorem en9 : Ev E 114 [zeU] (.d (.bool true)) := by
 have g0 : ((⟨#[]⟩ : ByteArray).toList == (⟨#[]⟩ : ByteArray).toList) = true := beq_self_eq_true _;refine ye1 func114 ntmps114 fun _ _ _=>?_
 repeat' (first | refine yz ?_ | refine yp b170 en8 ?_ | refine yx ?_ | exact zD)
theorem eo0 : Ev E 113 [zcU] (.d (.bool true)) := by
 have gl : (([] : List D).length) = 0 := rfl;have g0 : ((⟨#[]⟩ : ByteArray).toList == (⟨#[]⟩ : ByteArray).toList) = true := beq_self_eq_true _;refine ye1 func113 ntmps113 fun _ _ _=>?_
 repeat' (first | refine yz ?_ | refine yp bt0 en9 ?_ | refine yx ?_ | exact zD)
abbrev shU (k : Int) (e : Bool) : D := .agg [.int k, .bool false, .bool false, .bool e, .bool false, .bool false, .bool false, .bool false]
theorem eo1 : Ev E 112 [.int 1] (.tup [shU 0 false, .bool true]) := by
 refine ye1 func112 ntmps112 fun _ _ _=>?_
 repeat' (first | refine yz ?_ | exact zL)
theorem eo2 : Ev E 112 [.int 6] (.tup [shU 1 true, .bool true]) := by
 refine ye1 func112 ntmps112 fun _ _ _=>?_
 repeat' (first | refine yz ?_ | exact zL)
theorem eo3 : Ev E 112 [.int 9] (.tup [shU 1 false, .bool true]) := by
 refine ye1 func112 ntmps112 fun _ _ _=>?_
 repeat' (first | refine yz ?_ | exact zL)
set_option maxHeartbeats 8000000 in
theorem eo4 : Ev E 65 [en5] (.d (.bool true)) := by
 have g0 : (!((⟨#[]⟩ : ByteArray).toList == (⟨#[]⟩ : ByteArray).toList)) = false := by rw [beq_self_eq_true]; rfl
 have gl : (([] : List D).length) = 0 := rfl;refine ye1 func65 ntmps65 fun _ _ _=>?_
 repeat' (first | refine yz ?_ | refine yp bs8 eo1 ?_ | refine yp bt0 en9 ?_ | refine yp bs9 eo0 ?_ | refine yx ?_ | exact zD)
set_option maxHeartbeats 8000000 in
theorem eo5 (p : D) : Ev E 65 [en6 p] (.d (.bool true)) := by
 have g0 : (!((⟨#[]⟩ : ByteArray).toList == (⟨#[]⟩ : ByteArray).toList)) = false := by rw [beq_self_eq_true]; rfl
 have gl : (([] : List D).length) = 0 := rfl;refine ye1 func65 ntmps65 fun _ _ _=>?_
 repeat' (first | refine yz ?_ | refine yp bs8 eo2 ?_ | refine yp bs9 eo0 ?_ | refine yx ?_ | exact zD)
set_option maxHeartbeats 8000000 in
theorem eo6 (p : D) : Ev E 65 [en7 p] (.d (.bool true)) := by
 have g0 : (!((⟨#[]⟩ : ByteArray).toList == (⟨#[]⟩ : ByteArray).toList)) = false := by rw [beq_self_eq_true]; rfl
 have gl : (([] : List D).length) = 0 := rfl;refine ye1 func65 ntmps65 fun _ _ _=>?_
 repeat' (first | refine yz ?_ | refine yp bs8 eo3 ?_ | refine yp bt0 en9 ?_ | refine yp bs9 eo0 ?_ | refine yx ?_ | exact zD)
theorem eo7 : Ev E 32 [en5] (.d (.int 1)) := by
 refine ye1 func32 ntmps32 fun _ _ _=>?_
 repeat' (refine yz ?_)
 refine ac7 (α := Unit) (fun _ => ⟨[(3, .d (.int 1)), (8, .d (.int 0)), (9, .d (.int 0))], []⟩) (fun _ => 0) () (zle 0) ?_;rintro -
 repeat' (first | refine yz ?_ | exact zD)
theorem eo8 (op o k v : Int) (p : D) (n : Int) (hn : 0 ≤ n ∧ n ≤ 1000000) (h : Ev E 32 [p] (.d (.int n))) (hp : ∃ a b c d e, p = plU a b c d e) : Ev E 32 [plU op [p] o k v] (.d (.int (1 + n))) := by
 obtain ⟨a, b, c, d, e, rfl⟩ := hp;have hx : ([plU a b c d e])[((0 : Int)).toNat]? = some (plU a b c d e) := rfl;refine ye1 func32 ntmps32 fun _ _ _=>?_
 repeat' (refine yz ?_)
 refine ac7 (α := Fin 2) (fun p => ⟨[(3, .d (.int (bif p.val == 0 then 1 else 1 + n))), (7, .d (.sl [plU a b c d e])), (8, .d (.int 1)), (9, .d (.int (p.val : Nat)))], []⟩) (fun p => 1 - p.val) ⟨0, by omega⟩ (zle 0) ?_;rintro ⟨i, hi⟩
 match i, hi with
 | 0, _ =>
  show go _ _ ⟨[(3, .d (.int 1)), (7, .d (.sl [plU a b c d e])), (8, .d (.int 1)), (9, .d (.int 0))], []⟩ _
  repeat' (first | refine yz ?_ | refine yi (plU a b c d e) hx ?_ | refine yp b32 h ?_)
  refine ac1 ?_;exact ⟨⟨1, by omega⟩, by dsimp only; omega, (zle 0)⟩
 | 1, _ =>
  show go _ _ ⟨[(3, .d (.int (1 + n))), (7, .d (.sl [plU a b c d e])), (8, .d (.int 1)), (9, .d (.int 1))], []⟩ _
  repeat' (first | refine yz ?_ | exact zD)
theorem eo9 (l : Int) : EvS E 111 [.d (.sl []), .clo 64 [.ptr 0 0]] [.var 3 (.w (.d (.int l)))] (.d (.int (-1))) [.var 3 (.w (.d (.int l)))] := by
 refine yn func111 ntmps111 fun _ _ _ _=>?_
 repeat' (refine yz ?_)
 refine ac7 (α := Unit) (fun _ => ⟨[(0, .d (.sl [])), (7, .d (.int 0)), (8, .d (.int 0))], [.var 3 (.w (.d (.int l)))]⟩) (fun _ => 0) () (zle 1) ?_;rintro -
 repeat' (first | refine yz ?_ | refine bd2 [0] rfl rfl rfl rfl rfl ?_)
 all_goals rfl
theorem ep0 (l : Int) : EvS E 63 [.d (.sl []), .clo 64 [.ptr 0 0]] [.var 3 (.w (.d (.int l)))] (.d (.bool false)) [.var 3 (.w (.d (.int l)))] := by
 have h := eo9 l;refine yn func63 ntmps63 fun _ _ _ _=>?_
 repeat' (first | refine yz ?_ | refine yc [0] b111 (h) ?_ | refine bd2 [0] rfl rfl rfl rfl rfl ?_)
 all_goals rfl
theorem ep1 (l : Int) (hl : 1 ≤ l ∧ l ≤ 1000) (p : D) (hp : ∃ a b c d e, p = plU a b c d e) (h : Ev E 31 [p, .int (l - 1)] (.d (.bool false))) : EvS E 64 [.d p, .ptr 0 0] [.var 3 (.w (.d (.int l)))] (.d (.bool false)) [.var 3 (.w (.d (.int l)))] := by
 obtain ⟨a, b, c, d, e, rfl⟩ := hp;refine yn func64 ntmps64 fun _ _ _ _=>?_
 repeat' (first | refine yz ?_ | refine yp b31 h ?_ | refine bd2 [0] rfl rfl rfl rfl rfl ?_)
 all_goals rfl
theorem ep2 (l : Int) (hl : 1 ≤ l ∧ l ≤ 1000) (p : D) (hp : ∃ a b c d e, p = plU a b c d e) (h : Ev E 31 [p, .int (l - 1)] (.d (.bool false))) : EvS E 111 [.d (.sl [p]), .clo 64 [.ptr 0 0]] [.var 3 (.w (.d (.int l)))] (.d (.int (-1))) [.var 3 (.w (.d (.int l)))] := by
 have h1 := ep1 l hl p hp h;obtain ⟨a, b, c, d, e, rfl⟩ := hp;have hx : ([plU a b c d e])[((0 : Int)).toNat]? = some (plU a b c d e) := rfl;refine yn func111 ntmps111 fun _ _ _ _=>?_
 repeat' (refine yz ?_)
 refine ac7 (α := Fin 2) (fun p => ⟨[(0, .d (.sl [plU a b c d e])), (1, .clo 64 [.ptr 0 0]), (7, .d (.int 1)), (8, .d (.int (p.val : Nat)))], [.var 3 (.w (.d (.int l)))]⟩) (fun p => 1 - p.val) ⟨0, by omega⟩ (zle 1) ?_;rintro ⟨i, hi⟩
 match i, hi with
 | 0, _ =>
  repeat' (first | refine yz ?_ | refine yi (plU a b c d e) hx ?_ | refine bc9 [0] rfl rfl rfl rfl (FnX.clo _ _) b64 (h1) rfl rfl rfl rfl rfl ?_)
  refine ac1 ?_;exact ⟨⟨1, by omega⟩, by dsimp only; omega, (zle 1)⟩
 | 1, _ =>
  repeat' (first | refine yz ?_ | refine bd2 [0] rfl rfl rfl rfl rfl ?_)
  all_goals rfl
theorem ep3 (l : Int) (hl : 1 ≤ l ∧ l ≤ 1000) (p : D) (hp : ∃ a b c d e, p = plU a b c d e) (h : Ev E 31 [p, .int (l - 1)] (.d (.bool false))) : EvS E 63 [.d (.sl [p]), .clo 64 [.ptr 0 0]] [.var 3 (.w (.d (.int l)))] (.d (.bool false)) [.var 3 (.w (.d (.int l)))] := by
 have h1 := ep2 l hl p hp h;refine yn func63 ntmps63 fun _ _ _ _=>?_
 repeat' (first | refine yz ?_ | refine yc [0] b111 (h1) ?_ | refine bd2 [0] rfl rfl rfl rfl rfl ?_)
 all_goals rfl
theorem ep4 (l : Int) (hl : 1 ≤ l ∧ l ≤ 1000) : Ev E 31 [en5, .int l] (.d (.bool false)) := by
 have h := ep0 l;have g1 : decide (l < 1) = false := by simp; omega
 refine ye2 func31 ntmps31 fun _ _ _=>?_
 repeat' (first | refine yz ?_ | refine bc7 rfl rfl rfl rfl rfl ?_ | refine yc [1] b63 (h) ?_ | refine yx ?_ | exact zD)
theorem ep5 (op o k v l : Int) (hl : 1 ≤ l ∧ l ≤ 1000) (p : D) (hp : ∃ a b c d e, p = plU a b c d e) (h : Ev E 31 [p, .int (l - 1)] (.d (.bool false))) : Ev E 31 [plU op [p] o k v, .int l] (.d (.bool false)) := by
 have h1 := ep3 l hl p hp h;have g1 : decide (l < 1) = false := by simp; omega
 refine ye2 func31 ntmps31 fun _ _ _=>?_
 repeat' (first | refine yz ?_ | refine bc7 rfl rfl rfl rfl rfl ?_ | refine yc [1] b63 (h1) ?_ | refine yx ?_ | exact zD)
attribute [local irreducible] PGo RGw
def ep6 : Ex := eb0 (br0 true)
theorem ep7 : nd ep6 = 1 := by kernel_rfl
theorem ep8 : em7 ep6 [] = 0 := by kernel_rfl
theorem ep9 : Ev E 71 [en4, .sl []] (.d (.int 0)) := by
 have h := en3 ep6 [] (by decide) (by decide);rw [ep8] at h;exact h
theorem eq0 : Ev E 33 [en5] (.tup [.sl [], .int 0]) := by
 have hf := eo4;refine ye1 func33 ntmps33 fun _ _ _=>?_
 repeat' (refine yz ?_)
 refine ac7 (α := Unit) (fun _ => ⟨[(1, .ptr 0 0), (4, .nilS), (12, .d (.sl [])), (13, .d (.int 0)), (14, .d (.int 0))], [oPU en5]⟩) (fun _ => 0) () (zle 1) ?_;rintro -;have g1 : decide ((0 : Int) < 0) = false := rfl
 repeat' (first | refine yz ?_ | refine yp b65 hf ?_ | exact zL)
abbrev eq1 : aa5 := .row 29 1 [.sl []]
theorem eq2 (p : D) (hp : ∃ a b c d e, p = plU a b c d e) (h : Ev E 33 [p] (.tup [.sl [], .int 0])) : Ev E 33 [en6 p] (.tup [.sl [], .int 0]) := by
 have hf := eo5 p;have hx : ([p])[((0 : Int)).toNat]? = some p := rfl;have hq := ep9;obtain ⟨a, b, c, d, e, rfl⟩ := hp;have hk0 : ([D.sl []] : List D)[((0 : Int)).toNat]? = some (.sl []) := rfl;refine ye1 func33 ntmps33 fun _ _ _=>?_
 repeat' (refine yz ?_)
 refine ac7 (α := Fin 2) (fun q => ⟨[(1, .ptr 0 0), (4, bi6 1 ([D.sl []].take q.val)), (12, .d (.sl [plU a b c d e])), (13, .d (.int 1)), (14, .d (.int (q.val : Nat)))], [oPU (en6 (plU a b c d e))] ++ ay5 29 1 ([D.sl []].take q.val)⟩) (fun q => 1 - q.val) ⟨0, by omega⟩ (zle 1) ?_;rintro ⟨i, hi⟩
 match i, hi with
 | 0, _ =>
  show go _ _ ⟨[(1, .ptr 0 0), (4, .nilS), (12, .d (.sl [plU a b c d e])), (13, .d (.int 1)), (14, .d (.int 0))], [oPU (en6 (plU a b c d e))]⟩ _
  repeat' (first | refine yz ?_ | refine yi (plU a b c d e) hx ?_ | refine yp b33 h ?_ | (refine qS rfl ⟨by simp, fun d hd => by (obtain rfl := fl7.1 hd; rfl), by (show (0 + 1) * 24 ≤ 140737488355328; omega), by (show 0 + 1 ≤ 9223372036854775807; omega)⟩ ?_))
  refine ac1 ?_;exact ⟨⟨1, by omega⟩, by dsimp only; omega, (bj9 [0, 2])⟩
 | 1, _ =>
  show go _ _ ⟨[(1, .ptr 0 0), (4, .own 1), (12, .d (.sl [plU a b c d e])), (13, .d (.int 1)), (14, .d (.int 1))], [oPU (en6 (plU a b c d e)), eq1]⟩ _
  repeat' (first | refine yz ?_ | refine yp b65 hf ?_ | (refine qS rfl ?_ ?_; exact ⟨by decide, by decide⟩) | refine qW (.sl []) rfl rfl rfl rfl rfl rfl hk0 rfl ?_ | refine yp b71 hq ?_ | exact zL)
theorem eq3 (p : D) (hp : ∃ a b c d e, p = plU a b c d e) (h : Ev E 33 [p] (.tup [.sl [], .int 0])) : Ev E 33 [en7 p] (.tup [.sl [], .int 0]) := by
 have hf := eo6 p;have hx : ([p])[((0 : Int)).toNat]? = some p := rfl;obtain ⟨a, b, c, d, e, rfl⟩ := hp;have hk0 : ([D.sl []] : List D)[((0 : Int)).toNat]? = some (.sl []) := rfl;refine ye1 func33 ntmps33 fun _ _ _=>?_
 repeat' (refine yz ?_)
 refine ac7 (α := Fin 2) (fun q => ⟨[(1, .ptr 0 0), (4, bi6 1 ([D.sl []].take q.val)), (12, .d (.sl [plU a b c d e])), (13, .d (.int 1)), (14, .d (.int (q.val : Nat)))], [oPU (en7 (plU a b c d e))] ++ ay5 29 1 ([D.sl []].take q.val)⟩) (fun q => 1 - q.val) ⟨0, by omega⟩ (zle 1) ?_;rintro ⟨i, hi⟩
 match i, hi with
 | 0, _ =>
  show go _ _ ⟨[(1, .ptr 0 0), (4, .nilS), (12, .d (.sl [plU a b c d e])), (13, .d (.int 1)), (14, .d (.int 0))], [oPU (en7 (plU a b c d e))]⟩ _
  repeat' (first | refine yz ?_ | refine yi (plU a b c d e) hx ?_ | refine yp b33 h ?_ | (refine qS rfl ⟨by simp, fun d hd => by (obtain rfl := fl7.1 hd; rfl), by (show (0 + 1) * 24 ≤ 140737488355328; omega), by (show 0 + 1 ≤ 9223372036854775807; omega)⟩ ?_))
  refine ac1 ?_;exact ⟨⟨1, by omega⟩, by dsimp only; omega, (bj9 [0, 2])⟩
 | 1, _ =>
  show go _ _ ⟨[(1, .ptr 0 0), (4, .own 1), (12, .d (.sl [plU a b c d e])), (13, .d (.int 1)), (14, .d (.int 1))], [oPU (en7 (plU a b c d e)), eq1]⟩ _
  repeat' (first | refine yz ?_ | refine yp b65 hf ?_ | (refine qS rfl ?_ ?_; exact ⟨by decide, by decide⟩) | refine qW (.sl []) rfl rfl rfl rfl rfl rfl hk0 rfl ?_ | exact zL)
theorem eq4 (p : D) (n : Int) (hn : n ≤ 2000) (h1 : Ev E 31 [p, .int 200] (.d (.bool false))) (h2 : Ev E 32 [p] (.d (.int n))) (h3 : Ev E 33 [p] (.tup [.sl [], .int 0])) (hp : ∃ a b c d e, p = plU a b c d e) : Ev E 21 [p] (.tup [.sl [], .int 0]) := by
 have g1 : decide (n > 2000) = false := by simp; omega
 obtain ⟨a, b, c, d, e, rfl⟩ := hp;refine ye1 func21 ntmps21 fun _ _ _=>?_
 repeat' (first | refine yz ?_ | refine yp b31 h1 ?_ | refine yp b32 h2 ?_ | refine yp b33 h3 ?_ | exact zL)
abbrev fuU : D := en6 (en7 en5)
abbrev ufU : D := en7 (en6 en5)
theorem eq5 : Ev E 21 [fuU] (.tup [.sl [], .int 0]) :=
 eq4 fuU 3 (by omega) (ep5 6 1 1 1 200 (by omega) _ ⟨_, _, _, _, _, rfl⟩ (ep5 9 0 0 0 199 (by omega) _ ⟨_, _, _, _, _, rfl⟩ (ep4 198 (by omega))))
  (eo8 6 1 1 1 _ 2 (by omega) (eo8 9 0 0 0 _ 1 (by omega) eo7 ⟨_, _, _, _, _, rfl⟩) ⟨_, _, _, _, _, rfl⟩) (eq2 _ ⟨_, _, _, _, _, rfl⟩ (eq3 _ ⟨_, _, _, _, _, rfl⟩ eq0)) ⟨_, _, _, _, _, rfl⟩
theorem eq6 : Ev E 21 [ufU] (.tup [.sl [], .int 0]) :=
 eq4 ufU 3 (by omega) (ep5 9 0 0 0 200 (by omega) _ ⟨_, _, _, _, _, rfl⟩ (ep5 6 1 1 1 199 (by omega) _ ⟨_, _, _, _, _, rfl⟩ (ep4 198 (by omega))))
  (eo8 9 0 0 0 _ 2 (by omega) (eo8 6 1 1 1 _ 1 (by omega) eo7 ⟨_, _, _, _, _, rfl⟩) ⟨_, _, _, _, _, rfl⟩) (eq3 _ ⟨_, _, _, _, _, rfl⟩ (eq2 _ ⟨_, _, _, _, _, rfl⟩ eq0)) ⟨_, _, _, _, _, rfl⟩
theorem eq7 : Ev E 36 [.sl []] (.d (.sl [])) := by
 refine ye1 func36 ntmps36 fun _ _ _=>?_
 repeat' (first | refine yz ?_ | (refine ay6 rfl (fun _ => ?_) ?_) | refine az3 rfl rfl rfl rfl rfl rfl rfl rfl ?_ | exact zD)
theorem eq8 : Ev E 17 [.sl [en4]] (.d en4) := ef9 [ep6] fun x hx => by rw [fl7.1 hx, ep7]; decide
theorem eq9 : Ev E 16 [en4] (.d (.sl [en4])) := (ef6 ep6 (by rw [ep7]; decide)).ev
theorem er0 (p : D) (hp : ∃ a b c d e, p = plU a b c d e) : Ev E 37 [p, .sl [en4]] (.d (en6 p)) := by
 have h := eq8;obtain ⟨a, b, c, d, e, rfl⟩ := hp;refine ye2 func37 ntmps37 fun _ _ _=>?_
 repeat' (first | refine yq 3 [5] ?_ | refine yf 3 0 5 ?_ | refine yw ?_ | refine rgN ?_ | refine yz ?_ | refine yp b17 h ?_ | exact zD)
theorem er1 : Ev E 22 [en5, .sl [en4]] (.d (en6 en5)) := by
 have h := er0 en5 ⟨_, _, _, _, _, rfl⟩;have hc := eq7;have g1 : decide ((0 : Int) < 0) = false := rfl;refine ye2 func22 ntmps22 fun _ _ _=>?_
 repeat' (first | refine yz ?_ | refine yp b36 hc ?_)
 refine ac7 (α := Unit) (fun _ => ⟨[(1, .d (.sl [en4])), (2, .ptr 0 0), (4, .ptr 1 0), (5, .d (.sl [])), (47, .d (.sl [])), (48, .d (.int 0)), (49, .d (.int 0))], [oPU en5, .var 40 (.cs (List.map ab3 te40.zero.cells.toList))]⟩) (fun _ => 0) () (zle 2) ?_;rintro -
 repeat' (first | refine yz ?_ | refine yp b37 h ?_ | exact zD)
theorem er2 : Ev E 22 [en7 en5, .sl [en4]] (.d (en7 (en6 en5))) := by
 have h := er1;have hx : ([en5])[((0 : Int)).toNat]? = some en5 := rfl;refine ye2 func22 ntmps22 fun _ _ _=>?_
 repeat' (first | refine yz ?_ | refine yi en5 hx ?_ | refine yp b22 h ?_ | exact zD)
theorem er3 : Ev E 22 [en6 (en7 en5), .sl []] (.d (en7 (en6 en5))) := by
 have h := er2;have hc := eq9;have hx : ([en7 en5])[((0 : Int)).toNat]? = some (en7 en5) := rfl;refine ye2 func22 ntmps22 fun _ _ _=>?_
 repeat' (first | refine yq 3 [10] ?_ | refine yf 3 0 10 ?_ | refine yw ?_ | refine rgN ?_ | refine yz ?_ | refine yi (en7 en5) hx ?_ | refine yp b16 hc ?_ | refine az3 rfl rfl rfl rfl rfl rfl rfl rfl ?_ | refine yp b22 h ?_ | exact zD)
theorem er4 : Ev E 11 [fuU] (.d ufU) := by
 have h1 := eq5;have h2 := eq6;have h3 := er3;refine ye1 func11 ntmps11 fun _ _ _=>?_
 repeat' (first | refine yz ?_ | refine yp b21 h1 ?_ | refine yp b21 h2 ?_ | refine yp b22 h3 ?_ | exact zD)
end Go.Proofs.YtaiiailapeffgaaGreatDoor
