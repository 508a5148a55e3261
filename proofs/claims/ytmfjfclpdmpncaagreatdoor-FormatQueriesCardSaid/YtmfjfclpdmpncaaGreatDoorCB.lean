/- The check of a path pattern's parts, by the specification; The specification's size of a path pattern, and its expressions; The specification's check of a path pattern; The specification's check of a path pattern, whole. Conditions: each part's own, as it says. -/
import Derived.Test.YtmfjfclpdmpncaaGreatDoorGC
import Derived.Test.YtmfjfclpdmpncaaGreatDoorCA
set_option linter.unusedVariables false
set_option linter.unusedSimpArgs false
/- The check of a path pattern's parts, by the specification. Conditions: lists of at most a million elements where a list is built. -/
namespace Go.Proofs.YtmfjfclpdmpncaaGreatDoor
set_option maxRecDepth 4000
open Go Go.Abs Go.Val Go.RowKit
attribute [local irreducible] go SGo HasBody Ev ExtEv EvO EvS RGo

theorem rrising_ev (l : List ByteArray) : Ev E 239 [.sl (l.map .str)] (.d (.bool (risF l))) := Ev.fit fun hfit => by
  have hmax := (fitc_map (hfit (.sl (l.map .str)) (by simp))).1
  have hle : (l.map D.str).length = l.length := by simp
  by_cases h0 : l = []
  · subst h0
    refine enter1 Tryz.func239 Tryz.ntmps239 rfl rfl fun w0 F0 O => ?_
    repeat' (first | refine zS rfl ?_ | refine qA ?_ | refine qB rfl ?_ | refine qD ?_ | refine qF ?_)
    refine go_loop_ (α := Unit) (fun p => ⟨[(0, .d (.sl [])), (3, .d (.int 1))], []⟩) (fun p => 0) () ((zle 0)) ?_
    rintro -
    have g1 : decide ((1 : Int) < (([] : List D).length : Int)) = false := rfl
    repeat' (first | refine zS rfl ?_ | refine qA ?_ | refine qB rfl ?_ | refine qD ?_ | refine qH rfl ?_ | refine zU rfl ?_ | refine qL rfl rfl ?_ | exact zD)
  have hp := List.length_pos_iff.2 h0
  refine enter1 Tryz.func239 Tryz.ntmps239 rfl rfl fun w0 F0 O => ?_
  repeat' (first | refine zS rfl ?_ | refine qA ?_ | refine qB rfl ?_ | refine qD ?_ | refine qF ?_)
  refine go_loop_ (α := SRc l) (fun p => ⟨[(0, .d (.sl (l.map .str))), (3, .d (.int ((p.i + 1 : Nat) : Int)))], []⟩) (fun p => l.length - p.i) ⟨0, by omega, rfl⟩ ((zle 0)) ?_
  rintro ⟨i, hi, ok⟩
  dsimp only
  rcases Nat.lt_or_ge (i + 1) l.length with hlt | hge
  · have g1 : decide (((i + 1 : Nat) : Int) < ((l.map D.str).length : Int)) = true := by rw [hle]; simp; omega
    have ha0 := List.getElem?_eq_getElem (show i < l.length by omega)
    have hb0 := List.getElem?_eq_getElem hlt
    generalize l[i] = a at ha0
    generalize l[i + 1] = b at hb0
    have hb := map_c (f := D.str) hb0
    have ha : (l.map D.str)[(((i + 1 : Nat) : Int) - 1).toNat]? = some (.str a) := by
      rw [show (((i + 1 : Nat) : Int) - 1) = (i : Int) by omega]; exact map_c (f := D.str) ha0
    have g2 := leqc_not a b
    rw [ok, risc_at ha0 hb0]
    cases hc : Op.bytesLess a.toList b.toList with
    | true =>
      have hcn : (!Op.bytesLess a.toList b.toList) = false := by rw [hc]; rfl
      rw [hc] at g2
      repeat' (first | refine zS rfl ?_ | refine qA ?_ | refine qB rfl ?_ | refine qC (by kernel_rfl) ?_ | refine qD ?_ | refine qE ?_ | refine qF ?_ | refine qG ?_ | refine qI (.str b) rfl (guardX_ok rfl) rfl rfl rfl rfl rfl rfl (by first | omega | decide) hb ?_ | refine qI (.str a) rfl (guardX_ok rfl) rfl rfl rfl rfl rfl rfl (by first | omega | decide) ha ?_ | refine zT rfl ?_ | refine zU rfl ?_)
      refine go_stop ?_
      exact ⟨⟨i + 1, hlt, by rw [ok, risc_at ha0 hb0, hc]; rfl⟩, by dsimp only; omega, (zle 0)⟩
    | false =>
      have hcn : (!Op.bytesLess a.toList b.toList) = true := by rw [hc]; rfl
      rw [hc] at g2
      repeat' (first | refine zS rfl ?_ | refine qA ?_ | refine qB rfl ?_ | refine qC (by kernel_rfl) ?_ | refine qD ?_ | refine qE ?_ | refine qF ?_ | refine qI (.str b) rfl (guardX_ok rfl) rfl rfl rfl rfl rfl rfl (by first | omega | decide) hb ?_ | refine qI (.str a) rfl (guardX_ok rfl) rfl rfl rfl rfl rfl rfl (by first | omega | decide) ha ?_ | refine zT rfl ?_ | refine qL rfl rfl ?_ | exact zD)
  · have g1 : decide (((i + 1 : Nat) : Int) < ((l.map D.str).length : Int)) = false := by rw [hle]; simp; omega
    rw [ok, risc_end (by omega)]
    repeat' (first | refine zS rfl ?_ | refine qA ?_ | refine qB rfl ?_ | refine qD ?_ | refine qH rfl ?_ | refine zU rfl ?_ | refine qL rfl rfl ?_ | exact zD)
theorem rfree_ev (s : ByteArray) : Ev E 236 [.str s] (.d (.bool (freeF s))) := by
  have h := rword_ev s
  have hs : s0B s = (s.toList == (⟨#[]⟩ : ByteArray).toList) := rfl
  unfold freeF
  rw [hs]
  cases c1 : s.toList == (⟨#[]⟩ : ByteArray).toList with
  | true =>
    refine enter1 Tryz.func236 Tryz.ntmps236 rfl rfl fun w0 F0 O => ?_
    repeat' (first | refine zS rfl ?_ | refine qA ?_ | refine qB rfl ?_ | refine qD ?_ | refine qL rfl rfl ?_ | refine zX rfl rfl rfl rfl ?_ | exact zD)
  | false =>
    refine enter1 Tryz.func236 Tryz.ntmps236 rfl rfl fun w0 F0 O => ?_
    repeat' (first | refine zS rfl ?_ | refine qA ?_ | refine qB rfl ?_ | refine qD ?_ | refine qP rfl rfl rfl rfl rfl rfl b214 (h) ?_ | refine qL rfl rfl ?_ | refine zW rfl rfl rfl rfl ?_ | exact zD)
structure SAc {α : Type} (l : List α) (f : α → Bool) where
  i : Nat
  hi : i ≤ l.length
  ok : l.all f = (l.drop i).all f
theorem allc_at {α : Type} {l : List α} {f : α → Bool} {i : Nat} {x : α} (h : l[i]? = some x) : (l.drop i).all f = (f x && (l.drop (i + 1)).all f) := by rw [drop_c h, List.all_cons]
theorem rwordsC_ev (l : List ByteArray) : Ev E 216 [.sl (l.map .str)] (.d (.bool (l.all wordF))) := Ev.fit fun hfit => by
  have hmax := (fitc_map (hfit (.sl (l.map .str)) (by simp))).1
  have hle : (l.map D.str).length = l.length := by simp
  refine enter1 Tryz.func216 Tryz.ntmps216 rfl rfl fun w0 F0 O => ?_
  repeat' (first | refine zS rfl ?_ | refine qA ?_ | refine qB rfl ?_ | refine qD ?_ | refine qF ?_)
  refine go_loop_ (α := SAc l wordF) (fun p => ⟨[(0, .d (.sl (l.map .str))), (3, .d (.int p.i))], []⟩) (fun p => l.length - p.i) ⟨0, by omega, rfl⟩ ((zle 0)) ?_
  rintro ⟨i, hi, ok⟩
  dsimp only at ok ⊢
  rcases Nat.lt_or_ge i l.length with hlt | hge
  · have g1 : decide ((i : Int) < ((l.map D.str).length : Int)) = true := by rw [hle]; simpa using hlt
    have hx0 := List.getElem?_eq_getElem hlt
    generalize l[i] = x at hx0
    have hx := map_c (f := D.str) hx0
    have h := rword_ev x
    rw [allc_at hx0] at ok
    cases hc : wordF x with
    | true =>
      rw [hc] at h ok
      repeat' (first | refine zS rfl ?_ | refine qA ?_ | refine qB rfl ?_ | refine qD ?_ | refine qE ?_ | refine qF ?_ | refine qG ?_ | refine qI (.str x) rfl (guardX_ok rfl) rfl rfl rfl rfl rfl rfl (by first | omega | decide) hx ?_ | refine qP rfl rfl rfl rfl rfl rfl b214 (h) ?_ | refine zT rfl ?_ | refine zU rfl ?_)
      refine go_stop ?_
      exact ⟨⟨i + 1, by omega, by rw [ok]; rfl⟩, by dsimp only; omega, (zle 0)⟩
    | false =>
      rw [hc] at h ok
      rw [ok]
      repeat' (first | refine zS rfl ?_ | refine qA ?_ | refine qB rfl ?_ | refine qD ?_ | refine qE ?_ | refine qF ?_ | refine qI (.str x) rfl (guardX_ok rfl) rfl rfl rfl rfl rfl rfl (by first | omega | decide) hx ?_ | refine qP rfl rfl rfl rfl rfl rfl b214 (h) ?_ | refine zT rfl ?_ | refine qL rfl rfl ?_ | exact zD)
  · have g1 : decide ((i : Int) < ((l.map D.str).length : Int)) = false := by rw [hle]; simp; omega
    rw [ok, List.drop_eq_nil_of_le hge]
    repeat' (first | refine zS rfl ?_ | refine qA ?_ | refine qB rfl ?_ | refine qD ?_ | refine qH rfl ?_ | refine zU rfl ?_ | refine qL rfl rfl ?_ | exact zD)
theorem rhasagg_ev (e : Ex) : Ev E 154 [encE e] (.d (.bool (hagF e))) := by
  refine xind (P := fun e => Ev E 154 [encE e] (.d (.bool (hagF e)))) (fun op v nm ds ks ih => Ev.fit fun hfit => ?_) e
  have hk := kidsE_map (.mk op v nm ds ks)
  simp only [Ex.ks] at hk
  have hle : (kidsE (.mk op v nm ds ks)).length = ks.length := by rw [hk]; simp
  obtain ⟨-, -, -, hmax, -⟩ := fit_encE (hfit (encE (.mk op v nm ds ks)) (by simp))
  simp only [Ex.ks] at hmax
  rw [hagF_eq]
  cases c1 : op == 24 with
  | true =>
    refine enter1 Tryz.func154 Tryz.ntmps154 rfl rfl fun w0 F0 O => ?_
    repeat' (first | refine zS rfl ?_ | refine qA ?_ | refine qB rfl ?_ | refine qD ?_ | refine zT rfl ?_ | refine qL rfl rfl ?_ | exact zD)
  | false =>
    rw [Bool.false_or]
    refine enter1 Tryz.func154 Tryz.ntmps154 rfl rfl fun w0 F0 O => ?_
    repeat' (first | refine zS rfl ?_ | refine qA ?_ | refine qB rfl ?_ | refine qD ?_ | refine qE ?_ | refine qF ?_ | refine zU rfl ?_)
    refine go_loop_ (α := SNc ks hagF) (fun p => ⟨[(1, .ptr 0 0), (3, .d (.int p.i))], [.var 40 (.w (.d (encE (.mk op v nm ds ks))))]⟩) (fun p => ks.length - p.i) ⟨0, by omega, rfl⟩ ((zle 1)) ?_
    rintro ⟨i, hi, ok⟩
    dsimp only at ok ⊢
    rcases Nat.lt_or_ge i ks.length with hlt | hge
    · have g1 : decide ((i : Int) < ((kidsE (.mk op v nm ds ks)).length : Int)) = true := by rw [hle]; simpa using hlt
      have hx0 := List.getElem?_eq_getElem hlt
      generalize ks[i] = x at hx0
      have hx : (kidsE (.mk op v nm ds ks))[((i : Nat) : Int).toNat]? = some (encE x) := by rw [hk]; exact map_c (f := encE) hx0
      have h := ih x (List.mem_of_getElem? hx0)
      rw [anyc_at hx0] at ok
      cases hc : hagF x with
      | true =>
        rw [hc] at h ok
        rw [ok]
        repeat' (first | refine zS rfl ?_ | refine qA ?_ | refine qB rfl ?_ | refine qD ?_ | refine qE ?_ | refine qF ?_ | refine qI (encE x) rfl (guardX_ok rfl) rfl rfl rfl rfl rfl rfl (by first | omega | decide) hx ?_ | refine qP rfl rfl rfl rfl rfl rfl b154 (h) ?_ | refine zT rfl ?_ | refine qL rfl rfl ?_ | exact zD)
      | false =>
        rw [hc] at h ok
        repeat' (first | refine zS rfl ?_ | refine qA ?_ | refine qB rfl ?_ | refine qD ?_ | refine qE ?_ | refine qF ?_ | refine qG ?_ | refine qI (encE x) rfl (guardX_ok rfl) rfl rfl rfl rfl rfl rfl (by first | omega | decide) hx ?_ | refine qP rfl rfl rfl rfl rfl rfl b154 (h) ?_ | refine zT rfl ?_ | refine zU rfl ?_)
        refine go_stop ?_
        exact ⟨⟨i + 1, by omega, by rw [ok]; rfl⟩, by dsimp only; omega, (zle 1)⟩
    · have g1 : decide ((i : Int) < ((kidsE (.mk op v nm ds ks)).length : Int)) = false := by rw [hle]; simp; omega
      rw [ok, List.drop_eq_nil_of_le hge]
      repeat' (first | refine zS rfl ?_ | refine qA ?_ | refine qB rfl ?_ | refine qD ?_ | refine qH rfl ?_ | refine zU rfl ?_ | refine qL rfl rfl ?_ | exact zD)
theorem rbounds_ev (e : EP) : Ev E 237 [encEP e] (.d (.bool (hopF e))) := by
  obtain ⟨vr, ty, dir, mode, mn, mx, ps⟩ := e
  refine enter1 Tryz.func237 Tryz.ntmps237 rfl rfl fun w0 F0 O => ?_
  repeat' (first | refine zS rfl ?_ | refine qA ?_ | refine qB rfl ?_ | refine qD ?_ | refine qE ?_ | refine zT rfl ?_ | refine qL rfl rfl ?_ | (refine qY rfl rfl rfl rfl ?_ ?_ <;> intro _) | (refine qV rfl ?_ ?_ <;> intro _))
  all_goals (refine congrArg D.bool ?_; simp_all [hopF, Bool.cond_eq_ite])
  all_goals first | omega | (rw [Bool.eq_iff_iff]; simp; omega)
theorem rkeys_ev (l : List PP) (hl : l.length ≤ 1000000) : Ev E 238 [.sl (l.map encPP)] (.d (.sl ((keysF l).map .str))) := by
  have hle : (l.map encPP).length = l.length := by simp
  refine enter1 Tryz.func238 Tryz.ntmps238 rfl rfl fun w0 F0 O => ?_
  repeat' (first | refine zS rfl ?_ | refine qA ?_ | refine qB rfl ?_ | refine qD ?_ | refine qF ?_)
  refine go_loop_ (α := SKy l) (fun p => ⟨[(3, rowK 0 ((keysF (l.take p.i)).map .str)), (0, .d (.sl (l.map encPP))), (4, .d (.int p.i))], rowO 9 1 ((keysF (l.take p.i)).map .str)⟩) (fun p => l.length - p.i) ⟨0, by omega⟩ ((zle 0)) ?_
  rintro ⟨i, hi⟩
  dsimp only
  have hol : ((keysF (l.take i)).map D.str).length ≤ 1000000 := by simp [keysF]; omega
  rcases Nat.lt_or_ge i l.length with hlt | hge
  · have g1 : decide ((i : Int) < ((l.map encPP).length : Int)) = true := by rw [hle]; simpa using hlt
    have hx0 := List.getElem?_eq_getElem hlt
    generalize l[i] = x at hx0
    have hx := map_c (f := encPP) hx0
    have hnx := keysF_next hx0
    generalize (keysF (l.take i)).map D.str = o at *
    match o, hol with
    | [], hol =>
      dsimp only [rowK, rowO]
      repeat' (first | refine zS rfl ?_ | refine qA ?_ | refine qB rfl ?_ | refine qD ?_ | refine qE ?_ | refine qF ?_ | refine qG ?_ | refine qI (encPP x) rfl (guardX_ok rfl) rfl rfl rfl rfl rfl rfl (by first | omega | decide) hx ?_ | (refine qS rfl ⟨by simp, fun d hd => by (obtain rfl := List.mem_singleton.1 hd; rfl), by (show (0 + 1) * 16 ≤ 140737488355328; omega), by (show 0 + 1 ≤ 9223372036854775807; omega)⟩ ?_) | refine zT rfl ?_)
      refine go_stop ?_
      refine ⟨⟨i + 1, by omega⟩, by dsimp only; omega, ?_⟩
      dsimp only
      rw [hnx]
      exact (zren [0])
    | a :: q, hol =>
      dsimp only [rowK, rowO]
      repeat' (first | refine zS rfl ?_ | refine qA ?_ | refine qB rfl ?_ | refine qD ?_ | refine qE ?_ | refine qF ?_ | refine qG ?_ | refine qI (encPP x) rfl (guardX_ok rfl) rfl rfl rfl rfl rfl rfl (by first | omega | decide) hx ?_ | (refine qS rfl ⟨by simp, fun d hd => by (obtain rfl := List.mem_singleton.1 hd; rfl), by (show ((a :: q).length + 1) * 16 ≤ 140737488355328; omega), by (show (a :: q).length + 1 ≤ 9223372036854775807; omega)⟩ ?_) | refine zT rfl ?_)
      refine go_stop ?_
      refine ⟨⟨i + 1, by omega⟩, by dsimp only; omega, ?_⟩
      dsimp only
      rw [hnx]
      exact (zren [1])
  · have g1 : decide ((i : Int) < ((l.map encPP).length : Int)) = false := by rw [hle]; simp; omega
    rw [List.take_of_length_le hge]
    generalize (keysF l).map D.str = o at *
    match o with
    | [] =>
      dsimp only [rowK, rowO]
      repeat' (first | refine zS rfl ?_ | refine qA ?_ | refine qB rfl ?_ | refine qD ?_ | refine qH rfl ?_ | refine zU rfl ?_ | refine qL rfl rfl ?_ | exact zD)
    | a :: q =>
      dsimp only [rowK, rowO]
      refine qA ?_
      refine go_frz 0 rfl ?_
      repeat' (first | refine zS rfl ?_ | refine qA ?_ | refine qB rfl ?_ | refine qD ?_ | refine qH rfl ?_ | refine zU rfl ?_ | refine qL rfl rfl ?_ | exact zD)
end Go.Proofs.YtmfjfclpdmpncaaGreatDoor

/- The specification's size of a path pattern, and its expressions. Conditions: at most a million expressions. -/
namespace Go.Proofs.YtmfjfclpdmpncaaGreatDoor
set_option maxRecDepth 4000
open Go Go.Abs Go.Val Go.RowKit
attribute [local irreducible] go SGo HasBody Ev ExtEv EvO EvS RGo

theorem hop_ge : ∀ (l : List EP) (n : Int), n ≤ l.foldl (fun n e => n + hopN e) n
  | [], n => Int.le_refl _
  | e :: r, n => by
    have h1 := hop_ge r (n + hopN e)
    have h2 := (hopN_rng e).1
    rw [List.foldl_cons]
    omega
theorem rhops_ev (p : PA) : Ev E 235 [encPA p] (.d (.bool (!longF p))) := Ev.fit fun hfit => by
  obtain ⟨vr, ns, es⟩ := p
  have hft := hfit (encPA ⟨vr, ns, es⟩) (by simp)
  have hmn := (fitc_map (hft.aggs (.sl (ns.map encNP)) (by simp))).1
  have hme := (fitc_map (hft.aggs (.sl (es.map encEP)) (by simp))).1
  have hln : (ns.map encNP).length = ns.length := by simp
  have hle : (es.map encEP).length = es.length := by simp
  unfold longF
  dsimp only
  cases c1 : ns.length == 0 with
  | true =>
    have g1 : (((ns.map encNP).length : Int) == 0) = true := by rw [hln]; simp at c1 ⊢; omega
    refine enter1 Tryz.func235 Tryz.ntmps235 rfl rfl fun w0 F0 O => ?_
    repeat' (first | refine zS rfl ?_ | refine qA ?_ | refine qB rfl ?_ | refine qD ?_ | refine zT rfl ?_ | refine qL rfl rfl ?_ | refine zX rfl rfl rfl rfl ?_ | exact zD)
  | false =>
    have g1 : (((ns.map encNP).length : Int) == 0) = false := by rw [hln]; simp at c1 ⊢; omega
    cases c2 : decide (es.length > 6) with
    | true =>
      have g2 : decide (((es.map encEP).length : Int) > 6) = true := by rw [hle]; simp at c2 ⊢; omega
      refine enter1 Tryz.func235 Tryz.ntmps235 rfl rfl fun w0 F0 O => ?_
      repeat' (first | refine zS rfl ?_ | refine qA ?_ | refine qB rfl ?_ | refine qD ?_ | refine zT rfl ?_ | refine qL rfl rfl ?_ | refine zW rfl rfl rfl rfl ?_ | exact zD)
    | false =>
      have g2 : decide (((es.map encEP).length : Int) > 6) = false := by rw [hle]; simp at c2 ⊢; omega
      have h6 : es.length ≤ 6 := by simp at c2; omega
      rw [Bool.false_or, Bool.false_or]
      refine enter1 Tryz.func235 Tryz.ntmps235 rfl rfl fun w0 F0 O => ?_
      repeat' (first | refine zS rfl ?_ | refine qA ?_ | refine qB rfl ?_ | refine qD ?_ | refine qE ?_ | refine qF ?_ | refine zU rfl ?_ | refine zW rfl rfl rfl rfl ?_)
      refine go_loop_ (α := SLo es) (fun p => ⟨[(1, .ptr 0 0), (3, .d (.int p.n)), (4, .d (.int p.i))], [oPA ⟨vr, ns, es⟩]⟩) (fun p => es.length - p.i) ⟨0, 0, by omega, by omega, by omega, rfl⟩ ((zle 1)) ?_
      rintro ⟨i, n, hi, h0, h1, ok⟩
      dsimp only at ok ⊢
      rcases Nat.lt_or_ge i es.length with hlt | hge
      · have g3 : decide ((i : Int) < ((es.map encEP).length : Int)) = true := by rw [hle]; simpa using hlt
        have hx0 := List.getElem?_eq_getElem hlt
        generalize es[i] = e at hx0
        have hx := map_c (f := encEP) hx0
        have hr := hopN_rng e
        rw [drop_c hx0, List.foldl_cons] at ok
        cases c3 : e.mode == 0 with
        | true =>
          have hn : hopN e = 1 := by unfold hopN; rw [c3]; rfl
          rw [hn] at ok
          repeat' (first | refine zS rfl ?_ | refine qA ?_ | refine qB rfl ?_ | refine qD ?_ | refine qE ?_ | refine qF ?_ | refine qG ?_ | refine qI (encEP e) rfl (guardX_ok rfl) rfl rfl rfl rfl rfl rfl (by first | omega | decide) hx ?_ | refine zT rfl ?_)
          refine go_stop ?_
          exact ⟨⟨i + 1, n + 1, by omega, by omega, by omega, ok⟩, by dsimp only; omega, (zle 1)⟩
        | false =>
          have hn : hopN e = min (max e.mx 0) 13 := by unfold hopN; rw [c3]; rfl
          rw [hn] at ok hr
          cases c4 : decide (e.mx > 12) with
          | true =>
            have h13 : min (max e.mx 0) 13 = 13 := by simp at c4; omega
            have hgt : decide (hopS es > 12) = true := by
              have := hop_ge (es.drop (i + 1)) (n + min (max e.mx 0) 13)
              simp
              omega
            rw [hgt]
            repeat' (first | refine zS rfl ?_ | refine qA ?_ | refine qB rfl ?_ | refine qD ?_ | refine qE ?_ | refine qF ?_ | refine qI (encEP e) rfl (guardX_ok rfl) rfl rfl rfl rfl rfl rfl (by first | omega | decide) hx ?_ | refine zT rfl ?_ | refine zU rfl ?_ | refine qL rfl rfl ?_ | exact zD)
          | false =>
            cases c5 : decide (e.mx > 0) with
            | true =>
              have hmx : min (max e.mx 0) 13 = e.mx := by simp at c4 c5; omega
              rw [hmx] at ok hr
              repeat' (first | refine zS rfl ?_ | refine qA ?_ | refine qB rfl ?_ | refine qD ?_ | refine qE ?_ | refine qF ?_ | refine qG ?_ | refine qI (encEP e) rfl (guardX_ok rfl) rfl rfl rfl rfl rfl rfl (by first | omega | decide) hx ?_ | refine zT rfl ?_ | refine zU rfl ?_)
              refine go_stop ?_
              exact ⟨⟨i + 1, n + e.mx, by omega, by omega, by omega, ok⟩, by dsimp only; omega, (zle 1)⟩
            | false =>
              have hmx : min (max e.mx 0) 13 = 0 := by simp at c4 c5; omega
              rw [hmx, Int.add_zero] at ok
              repeat' (first | refine zS rfl ?_ | refine qA ?_ | refine qB rfl ?_ | refine qD ?_ | refine qE ?_ | refine qF ?_ | refine qG ?_ | refine qI (encEP e) rfl (guardX_ok rfl) rfl rfl rfl rfl rfl rfl (by first | omega | decide) hx ?_ | refine zT rfl ?_ | refine zU rfl ?_)
              refine go_stop ?_
              exact ⟨⟨i + 1, n, by omega, by omega, by omega, ok⟩, by dsimp only; omega, (zle 1)⟩
      · have g3 : decide ((i : Int) < ((es.map encEP).length : Int)) = false := by rw [hle]; simp; omega
        have hn : hopS es = n := by rw [ok, List.drop_eq_nil_of_le hge]; rfl
        have e : (!decide (n > 12)) = decide (n ≤ 12) := by by_cases h : n > 12 <;> simp [h] <;> omega
        rw [hn, e]
        repeat' (first | refine zS rfl ?_ | refine qA ?_ | refine qB rfl ?_ | refine qD ?_ | refine qH rfl ?_ | refine zU rfl ?_ | refine qL rfl rfl ?_ | exact zD)
/-- Weakening that keeps the objects as they are. -/
theorem Le.same {C : Cx} {tm tm' : List (Nat × X)} {ob : List AObj} (h : ∀ p ∈ tm', lk tm p.1 = p.2) : Le C ⟨tm, ob⟩ ⟨tm', ob⟩ := by
  rintro a w ⟨F, σ, h1, h2, h3, hi, h4, h5, hs⟩
  refine ⟨F, σ, h1, h2, h3, hi, h4, h5, fun t => ?_⟩
  have key : ∀ l : List (Nat × X), (∀ p ∈ l, lk tm p.1 = p.2) → lk l t = lk tm t ∨ lk l t = .top := by
    intro l
    induction l with
    | nil => exact fun _ => .inr rfl
    | cons p r ih =>
      intro hp
      obtain ⟨k, x⟩ := p
      simp only [lk]
      cases hb : Nat.beq k t with
      | true =>
        obtain rfl := Nat.eq_of_beq_eq_true hb
        exact .inl (hp (k, x) (by simp)).symm
      | false => exact ih fun q hq => hp q (by simp [hq])
  rcases key tm' h with e | e
  · show RdX w F σ (lk tm' t) _
    rw [e]; exact hs t
  · show RdX w F σ (lk tm' t) _
    rw [e]; trivial
/-- The expressions so far. -/
structure SPr (T : List Ex) (ns : List NP) (es : List EP) where
  i : Nat
  o : List Ex
  hi : i ≤ ns.length
  ok : T = o ++ exsF (partG (ns.drop i) (es.drop i))
structure SPk (T : List Ex) (l : List PP) (rest : List Ex) where
  k : Nat
  o : List Ex
  hk : k ≤ l.length
  ok : T = o ++ ((l.drop k).map (fun p => p.e) ++ rest)
theorem exs_step {ns : List NP} {es : List EP} {i : Nat} {x : NP} (hx : ns[i]? = some x) : exsF (partG (ns.drop i) (es.drop i)) = x.ps.map (fun p => p.e) ++ ((match es[i]? with | some y => y.ps.map (fun p => p.e) | none => []) ++ exsF (partG (ns.drop (i + 1)) (es.drop (i + 1)))) := by
  rw [drop_c hx]
  cases hy : es[i]? with
  | none =>
    have hge : es.length ≤ i := List.getElem?_eq_none_iff.1 hy
    have he0 : es.drop i = [] := List.drop_eq_nil_of_le hge
    have he1 : es.drop (i + 1) = [] := List.drop_eq_nil_of_le (by omega)
    rw [he0, he1, partG, exsF_cons]
    rfl
  | some y =>
    rw [drop_c hy, partG, exsF_cons, exsF_cons]
    rfl
set_option maxHeartbeats 4000000 in
theorem rprops_ev (p : PA) (hT : (exsF (partG p.ns p.es)).length ≤ 1000000) (hn : p.ns.length ≤ 1000000) : Ev E 152 [encPA p] (.d (.sl ((exsF (partG p.ns p.es)).map encE))) := Ev.fit fun hfit => by
  obtain ⟨vr, ns, es⟩ := p
  dsimp only at hn hT ⊢
  have hft := hfit (encPA ⟨vr, ns, es⟩) (by simp)
  have hme := (fitc_map (hft.aggs (.sl (es.map encEP)) (by simp))).1
  have hln : (ns.map encNP).length = ns.length := by simp
  have hle : (es.map encEP).length = es.length := by simp
  obtain ⟨T, hTT⟩ : ∃ T, exsF (partG ns es) = T := ⟨_, rfl⟩
  rw [hTT] at hT ⊢
  refine enter1 Tryz.func152 Tryz.ntmps152 rfl rfl fun w0 F0 O => ?_
  repeat' (first | refine zS rfl ?_ | refine qA ?_ | refine qB rfl ?_ | refine qD ?_ | refine qF ?_)
  refine go_loop_ (α := SPr T ns es) (fun p => ⟨[(3, rowK 1 (p.o.map encE)), (1, .ptr 0 0), (4, .d (.int p.i))], [oPA ⟨vr, ns, es⟩] ++ rowO 40 9 (p.o.map encE)⟩) (fun p => ns.length - p.i) ⟨0, [], by omega, by rw [← hTT]; simp⟩ ((zle 1)) ?_
  rintro ⟨i, o, hi, ok⟩
  dsimp only at ok ⊢
  have hol : (o.map encE).length ≤ 1000000 := by have := congrArg List.length ok; rw [List.length_append] at this; rw [List.length_map]; omega
  rcases Nat.lt_or_ge i ns.length with hlt | hge
  · have g1 : decide ((i : Int) < ((ns.map encNP).length : Int)) = true := by rw [hln]; simpa using hlt
    have hx0 := List.getElem?_eq_getElem hlt
    generalize ns[i] = x at hx0
    have hx := map_c (f := encNP) hx0
    rw [exs_step hx0] at ok
    have hxl : (x.ps.map encPP).length = x.ps.length := by simp
    have hmx : x.ps.length ≤ 1000000 := by
      have := congrArg List.length ok
      simp only [List.length_append, List.length_map] at this
      omega
    repeat' (first | refine zS rfl ?_ | refine qA ?_ | refine qB rfl ?_ | refine qD ?_ | refine qE ?_ | refine qF ?_ | refine zT rfl ?_)
    refine go_loop_ (α := SPk T x.ps ((match es[i]? with | some y => y.ps.map (fun p => p.e) | none => []) ++ exsF (partG (ns.drop (i + 1)) (es.drop (i + 1))))) (fun p => ⟨[(3, rowK 1 (p.o.map encE)), (1, .ptr 0 0), (4, .d (.int i)), (5, .d (.int p.k))], [oPA ⟨vr, ns, es⟩] ++ rowO 40 9 (p.o.map encE)⟩) (fun p => x.ps.length - p.k) ⟨0, o, by omega, ok⟩ ((Le.same (by intro p hp; simp only [List.mem_cons, List.not_mem_nil, or_false] at hp; rcases hp with rfl | rfl | rfl | rfl <;> rfl))) ?_
    clear ok
    clear hol
    clear o
    rintro ⟨k, o, hk, ok⟩
    dsimp only at ok ⊢
    have hol : (o.map encE).length ≤ 1000000 := by have := congrArg List.length ok; rw [List.length_append] at this; rw [List.length_map]; omega
    rcases Nat.lt_or_ge k x.ps.length with hlt3 | hge3
    · have g7 : decide ((k : Int) < ((x.ps.map encPP).length : Int)) = true := by rw [List.length_map]; simpa using hlt3
      have hq0 := List.getElem?_eq_getElem hlt3
      generalize x.ps[k] = q at hq0
      have hq := map_c (f := encPP) hq0
      rw [drop_c hq0, List.map_cons, List.cons_append] at ok
      have hnx : (o ++ [q.e]).map encE = o.map encE ++ [encE q.e] := by simp
      have hok : T = (o ++ [q.e]) ++ ((x.ps.drop (k + 1)).map (fun p => p.e) ++ ((match es[i]? with | some y => y.ps.map (fun p => p.e) | none => []) ++ exsF (partG (ns.drop (i + 1)) (es.drop (i + 1))))) := by rw [ok]; simp
      obtain ⟨key, qe⟩ := q
      dsimp only at hnx hok
      generalize o.map encE = oo at *
      match oo, hol with
      | [], hol =>
        dsimp only [rowK, rowO]
        repeat' (first | refine zS rfl ?_ | refine qA ?_ | refine qB rfl ?_ | refine qD ?_ | refine qE ?_ | refine qF ?_ | refine qG ?_ | refine qI (encNP x) rfl (guardX_ok rfl) rfl rfl rfl rfl rfl rfl (by first | omega | decide) hx ?_ | refine qI (encPP ⟨key, qe⟩) rfl (guardX_ok rfl) rfl rfl rfl rfl rfl rfl (by first | omega | decide) hq ?_ | (refine qS rfl ⟨by simp, fun d hd => by (obtain rfl := List.mem_singleton.1 hd; rfl), by (show (0 + 1) * 120 ≤ 140737488355328; omega), by (show 0 + 1 ≤ 9223372036854775807; omega)⟩ ?_) | refine zT rfl ?_)
        refine go_stop ?_
        refine ⟨⟨k + 1, o ++ [qe], by omega, hok⟩, by dsimp only; omega, ?_⟩
        dsimp only
        rw [hnx]
        exact (zren [0, 1])
      | a :: r2, hol =>
        dsimp only [rowK, rowO]
        have hq2 : (a :: r2).length ≤ 1000000 := hol
        repeat' (first | refine zS rfl ?_ | refine qA ?_ | refine qB rfl ?_ | refine qD ?_ | refine qE ?_ | refine qF ?_ | refine qG ?_ | refine qI (encNP x) rfl (guardX_ok rfl) rfl rfl rfl rfl rfl rfl (by first | omega | decide) hx ?_ | refine qI (encPP ⟨key, qe⟩) rfl (guardX_ok rfl) rfl rfl rfl rfl rfl rfl (by first | omega | decide) hq ?_ | (refine qS rfl ⟨by simp, fun d hd => by (obtain rfl := List.mem_singleton.1 hd; rfl), by (show ((a :: r2).length + 1) * 120 ≤ 140737488355328; omega), by (show (a :: r2).length + 1 ≤ 9223372036854775807; omega)⟩ ?_) | refine zT rfl ?_)
        refine go_stop ?_
        refine ⟨⟨k + 1, o ++ [qe], by omega, hok⟩, by dsimp only; omega, ?_⟩
        dsimp only
        rw [hnx]
        exact (zren [0, 2])
    · have g7 : decide ((k : Int) < ((x.ps.map encPP).length : Int)) = false := by rw [List.length_map]; simp; omega
      rw [List.drop_eq_nil_of_le hge3, List.map_nil, List.nil_append] at ok
      clear hge3 hk
      rcases Nat.lt_or_ge i es.length with hlt2 | hge2
      · have g2 : decide ((i : Int) < ((es.map encEP).length : Int)) = true := by rw [hle]; simpa using hlt2
        have hy0 := List.getElem?_eq_getElem hlt2
        generalize es[i] = y at hy0
        have hy := map_c (f := encEP) hy0
        rw [hy0] at ok
        have hyl : (y.ps.map encPP).length = y.ps.length := by simp
        have hmy : y.ps.length ≤ 1000000 := by
          have := congrArg List.length ok
          simp only [List.length_append, List.length_map] at this
          omega
        repeat' (first | refine zS rfl ?_ | refine qA ?_ | refine qB rfl ?_ | refine qD ?_ | refine qF ?_ | refine qH rfl ?_ | refine qI (encNP x) rfl (guardX_ok rfl) rfl rfl rfl rfl rfl rfl (by first | omega | decide) hx ?_ | refine zT rfl ?_ | refine zU rfl ?_)
        refine go_loop_ (α := SPk T y.ps (exsF (partG (ns.drop (i + 1)) (es.drop (i + 1))))) (fun p => ⟨[(3, rowK 1 (p.o.map encE)), (1, .ptr 0 0), (4, .d (.int i)), (6, .d (.int p.k))], [oPA ⟨vr, ns, es⟩] ++ rowO 40 9 (p.o.map encE)⟩) (fun p => y.ps.length - p.k) ⟨0, o, by omega, ok⟩ ((Le.same (by intro p hp; simp only [List.mem_cons, List.not_mem_nil, or_false] at hp; rcases hp with rfl | rfl | rfl | rfl <;> rfl))) ?_
        clear ok
        clear hol
        clear o
        rintro ⟨k, o, hk, ok⟩
        dsimp only at ok ⊢
        have hol : (o.map encE).length ≤ 1000000 := by have := congrArg List.length ok; rw [List.length_append] at this; rw [List.length_map]; omega
        rcases Nat.lt_or_ge k y.ps.length with hlt3 | hge3
        · have g7 : decide ((k : Int) < ((y.ps.map encPP).length : Int)) = true := by rw [List.length_map]; simpa using hlt3
          have hq0 := List.getElem?_eq_getElem hlt3
          generalize y.ps[k] = q at hq0
          have hq := map_c (f := encPP) hq0
          rw [drop_c hq0, List.map_cons, List.cons_append] at ok
          have hnx : (o ++ [q.e]).map encE = o.map encE ++ [encE q.e] := by simp
          have hok : T = (o ++ [q.e]) ++ ((y.ps.drop (k + 1)).map (fun p => p.e) ++ (exsF (partG (ns.drop (i + 1)) (es.drop (i + 1))))) := by rw [ok]; simp
          obtain ⟨key, qe⟩ := q
          dsimp only at hnx hok
          generalize o.map encE = oo at *
          match oo, hol with
          | [], hol =>
            dsimp only [rowK, rowO]
            repeat' (first | refine zS rfl ?_ | refine qA ?_ | refine qB rfl ?_ | refine qD ?_ | refine qE ?_ | refine qF ?_ | refine qG ?_ | refine qI (encEP y) rfl (guardX_ok rfl) rfl rfl rfl rfl rfl rfl (by first | omega | decide) hy ?_ | refine qI (encPP ⟨key, qe⟩) rfl (guardX_ok rfl) rfl rfl rfl rfl rfl rfl (by first | omega | decide) hq ?_ | (refine qS rfl ⟨by simp, fun d hd => by (obtain rfl := List.mem_singleton.1 hd; rfl), by (show (0 + 1) * 120 ≤ 140737488355328; omega), by (show 0 + 1 ≤ 9223372036854775807; omega)⟩ ?_) | refine zT rfl ?_)
            refine go_stop ?_
            refine ⟨⟨k + 1, o ++ [qe], by omega, hok⟩, by dsimp only; omega, ?_⟩
            dsimp only
            rw [hnx]
            exact (zren [0, 1])
          | a :: r2, hol =>
            dsimp only [rowK, rowO]
            have hq2 : (a :: r2).length ≤ 1000000 := hol
            repeat' (first | refine zS rfl ?_ | refine qA ?_ | refine qB rfl ?_ | refine qD ?_ | refine qE ?_ | refine qF ?_ | refine qG ?_ | refine qI (encEP y) rfl (guardX_ok rfl) rfl rfl rfl rfl rfl rfl (by first | omega | decide) hy ?_ | refine qI (encPP ⟨key, qe⟩) rfl (guardX_ok rfl) rfl rfl rfl rfl rfl rfl (by first | omega | decide) hq ?_ | (refine qS rfl ⟨by simp, fun d hd => by (obtain rfl := List.mem_singleton.1 hd; rfl), by (show ((a :: r2).length + 1) * 120 ≤ 140737488355328; omega), by (show (a :: r2).length + 1 ≤ 9223372036854775807; omega)⟩ ?_) | refine zT rfl ?_)
            refine go_stop ?_
            refine ⟨⟨k + 1, o ++ [qe], by omega, hok⟩, by dsimp only; omega, ?_⟩
            dsimp only
            rw [hnx]
            exact (zren [0, 2])
        · have g7 : decide ((k : Int) < ((y.ps.map encPP).length : Int)) = false := by rw [List.length_map]; simp; omega
          rw [List.drop_eq_nil_of_le hge3, List.map_nil, List.nil_append] at ok
          clear hge3 hk
          repeat' (first | refine zS rfl ?_ | refine qA ?_ | refine qB rfl ?_ | refine qD ?_ | refine qG ?_ | refine qH rfl ?_ | refine qI (encEP y) rfl (guardX_ok rfl) rfl rfl rfl rfl rfl rfl (by first | omega | decide) hy ?_ | refine zU rfl ?_)
          refine go_stop ?_
          exact ⟨⟨i + 1, o, by omega, ok⟩, by dsimp only; omega, (Le.same (by intro p hp; simp only [List.mem_cons, List.not_mem_nil, or_false] at hp; rcases hp with rfl | rfl | rfl <;> rfl))⟩
      · have g2 : decide ((i : Int) < ((es.map encEP).length : Int)) = false := by rw [hle]; simp; omega
        rw [List.getElem?_eq_none hge2, List.nil_append] at ok
        repeat' (first | refine zS rfl ?_ | refine qA ?_ | refine qB rfl ?_ | refine qD ?_ | refine qE ?_ | refine qG ?_ | refine qH rfl ?_ | refine qI (encNP x) rfl (guardX_ok rfl) rfl rfl rfl rfl rfl rfl (by first | omega | decide) hx ?_ | refine zU rfl ?_)
        refine go_stop ?_
        exact ⟨⟨i + 1, o, by omega, ok⟩, by dsimp only; omega, (Le.same (by intro p hp; simp only [List.mem_cons, List.not_mem_nil, or_false] at hp; rcases hp with rfl | rfl | rfl <;> rfl))⟩
  · have g1 : decide ((i : Int) < ((ns.map encNP).length : Int)) = false := by rw [hln]; simp; omega
    rw [List.drop_eq_nil_of_le hge, partG, show exsF [] = [] from rfl, List.append_nil] at ok
    rw [ok]
    generalize o.map encE = oo at *
    match oo with
    | [] =>
      dsimp only [rowK, rowO]
      repeat' (first | refine zS rfl ?_ | refine qA ?_ | refine qB rfl ?_ | refine qD ?_ | refine qH rfl ?_ | refine zU rfl ?_ | refine qL rfl rfl ?_ | exact zD)
    | a :: q =>
      dsimp only [rowK, rowO]
      refine qA ?_
      refine go_frz 1 rfl ?_
      repeat' (first | refine zS rfl ?_ | refine qA ?_ | refine qB rfl ?_ | refine qD ?_ | refine qH rfl ?_ | refine zU rfl ?_ | refine qL rfl rfl ?_ | exact zD)
end Go.Proofs.YtmfjfclpdmpncaaGreatDoor

/- The specification's check of a path pattern. Conditions: as the program's. -/
namespace Go.Proofs.YtmfjfclpdmpncaaGreatDoor
set_option maxRecDepth 4000
open Go Go.Abs Go.Val Go.RowKit
attribute [local irreducible] go SGo HasBody Ev ExtEv EvO EvS RGo

theorem partG_any (f : PT → Bool) : ∀ (ns : List NP) (es : List EP), ns.length = es.length + 1 → (partG ns es).any f = ((es.any fun e => f (ptE e)) || (ns.any fun n => f (ptN n)))
  | [], es, h => by simp at h
  | [n], [], _ => by simp [partG]
  | n :: m :: r, [], h => by simp at h
  | n :: r, e :: q, h => by
    have ih := partG_any f r q (by simpa using h)
    simp only [partG, List.any_cons, ih]
    cases f (ptN n) <;> cases f (ptE e) <;> cases (q.any fun e => f (ptE e)) <;> rfl
theorem partG_memE : ∀ {ns : List NP} {es : List EP}, ns.length = es.length + 1 → ∀ e ∈ es, ptE e ∈ partG ns es
  | [], es, h => by simp at h
  | n :: r, [], _ => by simp
  | n :: r, e :: q, h => fun x hx => by
    simp only [partG]
    rcases List.mem_cons.1 hx with rfl | hx
    · simp
    · have := partG_memE (ns := r) (es := q) (by simpa using h) x hx
      simp [this]
theorem partG_memN : ∀ {ns : List NP} {es : List EP}, ∀ n ∈ ns, ptN n ∈ partG ns es
  | n :: r, [], x, hx => by
    simp only [partG]
    rcases List.mem_cons.1 hx with rfl | hx
    · simp
    · have := partG_memN (ns := r) (es := []) x hx
      simp [this]
  | n :: r, e :: q, x, hx => by
    simp only [partG]
    rcases List.mem_cons.1 hx with rfl | hx
    · simp
    · have := partG_memN (ns := r) (es := q) x hx
      simp [this]
theorem bool5 (a a0 a1 a2 z : Bool) : (a && !((!a0 || (!a1 || !a2)) || z)) = ((a && !(!a0 || (!a1 || !a2))) && !z) := by cases a <;> cases a0 <;> cases a1 <;> cases a2 <;> cases z <;> rfl
theorem bool4 (b b1 b2 z : Bool) : (b && !((!b1 || !b2) || z)) = ((b && !(!b1 || !b2)) && !z) := by cases b <;> cases b1 <;> cases b2 <;> cases z <;> rfl
/-- The error of a path pattern that does not come from its expressions. -/
def shaF (p : PA) : Int :=
  bif longF p then 4 else
  bif p.ns.length != p.es.length + 1 || p.es.any fun e => !hopF e then 1 else
  bif !(freeF p.vr) || (partG p.ns p.es).any badN then 6 else
  bif (partG p.ns p.es).any badRs then 26 else 0
abbrev oEP (e : EP) : AObj := .var 106 (.w (.d (encEP e)))
abbrev oNP (e : NP) : AObj := .var 103 (.w (.d (encNP e)))
structure SSh {α : Type} (l : List α) (f g : α → Bool) (K S : Bool) where
  i : Nat
  a : Bool
  b : Bool
  hi : i ≤ l.length
  ha : (K && !(l.any f)) = (a && !((l.drop i).any f))
  hb : (S && !(l.any g)) = (b && !((l.drop i).any g))
structure SSi (l : List EP) (K : Bool) extends SSh l (fun e => badN (ptE e)) (fun e => badRs (ptE e)) K true where
  hc : (l.any fun e => !hopF e) = (l.drop i).any fun e => !hopF e
set_option maxHeartbeats 4000000 in
theorem rshape_ev (p : PA) (hok : OkPA p) : Ev E 151 [encPA p] (.d (.int (shaF p))) := Ev.fit fun hfit => by
  have hho := rhops_ev p
  have hfv := rfree_ev p.vr
  have hopn := hok.x
  have hnn := hok.n
  unfold shaF
  obtain ⟨vr, ns, es⟩ := p
  dsimp only at hfv hopn hnn ⊢
  have hft := hfit (encPA ⟨vr, ns, es⟩) (by simp)
  have hme := (fitc_map (hft.aggs (.sl (es.map encEP)) (by simp))).1
  have hln : (ns.map encNP).length = ns.length := by simp
  have hle : (es.map encEP).length = es.length := by simp
  cases c1 : longF ⟨vr, ns, es⟩ with
  | true =>
    rw [c1] at hho
    refine enter1 Tryz.func151 Tryz.ntmps151 rfl rfl fun w0 F0 O => ?_
    repeat' (first | refine zS rfl ?_ | refine qA ?_ | refine qB rfl ?_ | refine qD ?_ | refine qP rfl rfl rfl rfl rfl rfl b235 (hho) ?_ | refine zT rfl ?_ | refine qL rfl rfl ?_ | exact zD)
  | false =>
    have h6 : es.length ≤ 6 := by
      unfold longF at c1
      dsimp only at c1
      rw [Bool.or_eq_false_iff, Bool.or_eq_false_iff] at c1
      have := c1.1.2
      simp at this
      omega
    rw [c1] at hho
    simp only [cond_false]
    cases c2 : ns.length != es.length + 1 with
    | true =>
      have g2 : (((ns.map encNP).length : Int) != ((es.map encEP).length : Int) + 1) = true := by rw [hln, hle]; simp at c2 ⊢; omega
      refine enter1 Tryz.func151 Tryz.ntmps151 rfl rfl fun w0 F0 O => ?_
      repeat' (first | refine zS rfl ?_ | refine qA ?_ | refine qB rfl ?_ | refine qD ?_ | refine qE ?_ | refine qP rfl rfl rfl rfl rfl rfl b235 (hho) ?_ | refine zT rfl ?_ | refine zU rfl ?_ | refine qL rfl rfl ?_ | exact zD)
    | false =>
      have g2 : (((ns.map encNP).length : Int) != ((es.map encEP).length : Int) + 1) = false := by rw [hln, hle]; simp at c2 ⊢; omega
      have hlen : ns.length = es.length + 1 := by simpa using c2
      rw [Bool.false_or, partG_any badN ns es hlen, partG_any badRs ns es hlen]
      have hme2 : ∀ e ∈ es, e.ps.length ≤ 1000000 := fun e he => Nat.le_trans (exs_len (x := ptE e) (partG_memE hlen e he)) hopn
      have hmn2 : ∀ e ∈ ns, e.ps.length ≤ 1000000 := fun e he => Nat.le_trans (exs_len (x := ptN e) (partG_memN e he)) hopn
      obtain ⟨K, hK⟩ : ∃ K, freeF vr = K := ⟨_, rfl⟩
      rw [hK] at hfv ⊢
      refine enter1 Tryz.func151 Tryz.ntmps151 rfl rfl fun w0 F0 O => ?_
      repeat' (first | refine zS rfl ?_ | refine qA ?_ | refine qB rfl ?_ | refine qD ?_ | refine qE ?_ | refine qF ?_ | refine qP rfl rfl rfl rfl rfl rfl b235 (hho) ?_ | refine qP (d := 22) rfl rfl rfl rfl rfl rfl b236 (hfv) ?_ | refine zU rfl ?_)
      refine go_loop_ (α := SSi es K) (fun p => ⟨[(1, .ptr 0 0), (3, .d (.bool p.a)), (4, .d (.bool p.b)), (5, .d (.int p.i))], [oPA ⟨vr, ns, es⟩]⟩) (fun p => es.length - p.i) ⟨⟨0, K, true, by omega, rfl, rfl⟩, rfl⟩ ((zle 1)) ?_
      rintro ⟨⟨i, a, b, hi, ha, hb⟩, hc⟩
      dsimp only at ha hb hc ⊢
      rcases Nat.lt_or_ge i es.length with hlt | hge
      · have g5 : decide ((i : Int) < ((es.map encEP).length : Int)) = true := by rw [hle]; simpa using hlt
        have hx0 := List.getElem?_eq_getElem hlt
        generalize es[i] = x at hx0
        have hx := map_c (f := encEP) hx0
        have hbo := rbounds_ev x
        have hk := rkeys_ev x.ps (hme2 x (List.mem_of_getElem? hx0))
        have hw0 := rfree_ev x.vr
        have hw1 := rwordsC_ev x.ty
        have hw2 := rwordsC_ev (keysF x.ps)
        have hr1 := rrising_ev x.ty
        have hr2 := rrising_ev (keysF x.ps)
        rw [anyc_at hx0] at ha hb hc
        cases hh : hopF x with
        | false =>
          rw [hh] at hbo hc
          rw [hc]
          repeat' (first | refine zS rfl ?_ | refine qA ?_ | refine qB rfl ?_ | refine qD ?_ | refine qE ?_ | refine qF ?_ | refine qI (encEP x) rfl (guardX_ok rfl) rfl rfl rfl rfl rfl rfl (by first | omega | decide) hx ?_ | refine qP rfl rfl rfl rfl rfl rfl b237 (hbo) ?_ | refine zT rfl ?_ | refine qL rfl rfl ?_ | exact zD)
        | true =>
          rw [hh] at hbo hc
          obtain ⟨a0, h0⟩ : ∃ b, freeF x.vr = b := ⟨_, rfl⟩
          obtain ⟨a1, h1⟩ : ∃ b, x.ty.all wordF = b := ⟨_, rfl⟩
          obtain ⟨a2, h2⟩ : ∃ b, (keysF x.ps).all wordF = b := ⟨_, rfl⟩
          obtain ⟨b1, h3⟩ : ∃ b, risF x.ty = b := ⟨_, rfl⟩
          obtain ⟨b2, h4⟩ : ∃ b, risF (keysF x.ps) = b := ⟨_, rfl⟩
          have hbad : badN (ptE x) = (!a0 || (!a1 || !a2)) := by rw [← h0, ← h1, ← h2]; rfl
          have hbae : badRs (ptE x) = (!b1 || !b2) := by rw [← h3, ← h4]; rfl
          rw [h0] at hw0
          rw [h1] at hw1
          rw [h2] at hw2
          rw [h3] at hr1
          rw [h4] at hr2
          rw [hbad] at ha
          rw [hbae] at hb
          have na : (K && !(es.any fun e => badN (ptE e))) = ((a && !(!a0 || (!a1 || !a2))) && !((es.drop (i + 1)).any fun e => badN (ptE e))) := by
            rw [ha]
            exact bool5 _ _ _ _ _
          have nb : (true && !(es.any fun e => badRs (ptE e))) = ((b && !(!b1 || !b2)) && !((es.drop (i + 1)).any fun e => badRs (ptE e))) := by
            rw [hb]
            exact bool4 _ _ _ _
          repeat' (first | refine go_cutR 12 (fun v => ⟨[(3, .d (.bool v)), (1, .ptr 0 0), (4, .d (.bool b)), (5, .d (.int i)), (6, .ptr 1 0)], [oPA ⟨vr, ns, es⟩, oEP x]⟩) ((a && !(!a0 || (!a1 || !a2)))) ?_ ?_ | refine zS rfl ?_ | refine qA ?_ | refine qB rfl ?_ | refine qD ?_ | refine qE ?_ | refine qF ?_ | refine qG ?_ | refine qI (encEP x) rfl (guardX_ok rfl) rfl rfl rfl rfl rfl rfl (by first | omega | decide) hx ?_ | refine qP rfl rfl rfl rfl rfl rfl b237 (hbo) ?_ | refine qP rfl rfl rfl rfl rfl rfl b236 (hw0) ?_ | refine qP (d := 47) rfl rfl rfl rfl rfl rfl b216 (hw1) ?_ | refine qP rfl rfl rfl rfl rfl rfl b238 (hk) ?_ | refine qP (d := 53) rfl rfl rfl rfl rfl rfl b216 (hw2) ?_ | refine qP (d := 59) rfl rfl rfl rfl rfl rfl b239 (hr1) ?_ | refine qP (d := 65) rfl rfl rfl rfl rfl rfl b239 (hr2) ?_ | refine go_stop ⟨_, ?_, (zle 2)⟩ | refine zT rfl ?_ | refine zU rfl ?_ | (refine qY rfl rfl rfl rfl ?_ ?_ <;> intro _))
          all_goals clear hho hfv hbo hk hw0 hw1 hw2 hr1 hr2 ha hb hbad hbae h0 h1 h2 h3 h4 hfit hft hme2 hmn2 hopn hok c1 c2 hh
          all_goals first | (refine go_stop ?_; refine ⟨⟨⟨i + 1, a && !(!a0 || (!a1 || !a2)), _, by omega, na, ?nb⟩, hc⟩, ?ms, (zle 1)⟩; (case ms => (dsimp only; omega)); (case nb => (rw [nb]; clear na nb hc; simp_all; done))) | (clear hc na nb; simp_all; done) | skip
      · have g5 : decide ((i : Int) < ((es.map encEP).length : Int)) = false := by rw [hle]; simp; omega
        rw [List.drop_eq_nil_of_le hge, List.any_nil, Bool.not_false, Bool.and_true] at ha hb
        rw [List.drop_eq_nil_of_le hge, List.any_nil] at hc
        rw [hc]
        simp only [cond_false]
        repeat' (first | refine zS rfl ?_ | refine qA ?_ | refine qB rfl ?_ | refine qD ?_ | refine qF ?_ | refine qH rfl ?_ | refine zU rfl ?_)
        clear hge hi g5 hc
        refine go_loop_ (α := SSh ns (fun n => badN (ptN n)) (fun n => badRs (ptN n)) a b) (fun p => ⟨[(1, .ptr 0 0), (3, .d (.bool p.a)), (4, .d (.bool p.b)), (7, .d (.int p.i))], [oPA ⟨vr, ns, es⟩]⟩) (fun p => ns.length - p.i) ⟨0, a, b, by omega, rfl, rfl⟩ ((zle 1)) ?_
        rintro ⟨j, a', b', hj, ha', hb'⟩
        dsimp only at ha' hb' ⊢
        rcases Nat.lt_or_ge j ns.length with hlt | hge
        · have g5 : decide ((j : Int) < ((ns.map encNP).length : Int)) = true := by rw [hln]; simpa using hlt
          have hx0 := List.getElem?_eq_getElem hlt
          generalize ns[j] = x at hx0
          have hx := map_c (f := encNP) hx0
          have hk := rkeys_ev x.ps (hmn2 x (List.mem_of_getElem? hx0))
          have hw0 := rfree_ev x.vr
          have hw1 := rwordsC_ev x.lb
          have hw2 := rwordsC_ev (keysF x.ps)
          have hr1 := rrising_ev x.lb
          have hr2 := rrising_ev (keysF x.ps)
          rw [anyc_at hx0] at ha' hb'
          obtain ⟨a0, h0⟩ : ∃ b, freeF x.vr = b := ⟨_, rfl⟩
          obtain ⟨a1, h1⟩ : ∃ b, x.lb.all wordF = b := ⟨_, rfl⟩
          obtain ⟨a2, h2⟩ : ∃ b, (keysF x.ps).all wordF = b := ⟨_, rfl⟩
          obtain ⟨b1, h3⟩ : ∃ b, risF x.lb = b := ⟨_, rfl⟩
          obtain ⟨b2, h4⟩ : ∃ b, risF (keysF x.ps) = b := ⟨_, rfl⟩
          have hbad : badN (ptN x) = (!a0 || (!a1 || !a2)) := by rw [← h0, ← h1, ← h2]; rfl
          have hbae : badRs (ptN x) = (!b1 || !b2) := by rw [← h3, ← h4]; rfl
          rw [h0] at hw0
          rw [h1] at hw1
          rw [h2] at hw2
          rw [h3] at hr1
          rw [h4] at hr2
          rw [hbad] at ha'
          rw [hbae] at hb'
          have na : (a && !(ns.any fun e => badN (ptN e))) = ((a' && !(!a0 || (!a1 || !a2))) && !((ns.drop (j + 1)).any fun e => badN (ptN e))) := by
            rw [ha']
            exact bool5 _ _ _ _ _
          have nb : (b && !(ns.any fun e => badRs (ptN e))) = ((b' && !(!b1 || !b2)) && !((ns.drop (j + 1)).any fun e => badRs (ptN e))) := by
            rw [hb']
            exact bool4 _ _ _ _
          repeat' (first | refine go_cutR 18 (fun v => ⟨[(3, .d (.bool v)), (1, .ptr 0 0), (4, .d (.bool b')), (7, .d (.int j)), (8, .ptr 1 0)], [oPA ⟨vr, ns, es⟩, oNP x]⟩) ((a' && !(!a0 || (!a1 || !a2)))) ?_ ?_ | refine zS rfl ?_ | refine qA ?_ | refine qB rfl ?_ | refine qD ?_ | refine qE ?_ | refine qF ?_ | refine qG ?_ | refine qI (encNP x) rfl (guardX_ok rfl) rfl rfl rfl rfl rfl rfl (by first | omega | decide) hx ?_ | refine qP (d := 83) rfl rfl rfl rfl rfl rfl b236 (hw0) ?_ | refine qP (d := 88) rfl rfl rfl rfl rfl rfl b216 (hw1) ?_ | refine qP rfl rfl rfl rfl rfl rfl b238 (hk) ?_ | refine qP (d := 94) rfl rfl rfl rfl rfl rfl b216 (hw2) ?_ | refine qP (d := 100) rfl rfl rfl rfl rfl rfl b239 (hr1) ?_ | refine qP (d := 106) rfl rfl rfl rfl rfl rfl b239 (hr2) ?_ | refine go_stop ⟨_, ?_, (zle 2)⟩ | refine zT rfl ?_ | (refine qY rfl rfl rfl rfl ?_ ?_ <;> intro _))
          all_goals clear hho hfv hk hw0 hw1 hw2 hr1 hr2 ha hb ha' hb' hbad hbae h0 h1 h2 h3 h4 hfit hft hme2 hmn2 hopn hok c1 c2
          all_goals first | (refine go_stop ?_; refine ⟨⟨j + 1, a' && !(!a0 || (!a1 || !a2)), _, by omega, na, ?nb⟩, ?ms, (zle 1)⟩; (case ms => (dsimp only; omega)); (case nb => (rw [nb]; clear na nb; simp_all; done))) | (clear na nb; simp_all; done) | skip
        · have g5 : decide ((j : Int) < ((ns.map encNP).length : Int)) = false := by rw [hln]; simp; omega
          rw [List.drop_eq_nil_of_le hge, List.any_nil, Bool.not_false, Bool.and_true] at ha' hb'
          have e1 : (!K || ((es.any fun e => badN (ptE e)) || ns.any fun n => badN (ptN n))) = !a' := by
            rw [← ha', ← ha]
            cases K <;> cases (es.any fun e => badN (ptE e)) <;> cases (ns.any fun n => badN (ptN n)) <;> rfl
          have e2 : ((es.any fun e => badRs (ptE e)) || ns.any fun n => badRs (ptN n)) = !b' := by
            rw [← hb', ← hb]
            cases (es.any fun e => badRs (ptE e)) <;> cases (ns.any fun n => badRs (ptN n)) <;> rfl
          rw [e1, e2]
          clear ha hb ha' hb' e1 e2
          cases a' with
          | false =>
            repeat' (first | refine zS rfl ?_ | refine qA ?_ | refine qB rfl ?_ | refine qD ?_ | refine qH rfl ?_ | refine zT rfl ?_ | refine zU rfl ?_ | refine qL rfl rfl ?_ | exact zD)
          | true =>
            cases b' with
            | false =>
            repeat' (first | refine zS rfl ?_ | refine qA ?_ | refine qB rfl ?_ | refine qD ?_ | refine qE ?_ | refine qH rfl ?_ | refine zT rfl ?_ | refine zU rfl ?_ | refine qL rfl rfl ?_ | exact zD)
            | true =>
              repeat' (first | refine zS rfl ?_ | refine qA ?_ | refine qB rfl ?_ | refine qD ?_ | refine qE ?_ | refine qH rfl ?_ | refine zU rfl ?_ | refine qL rfl rfl ?_ | exact zD)
end Go.Proofs.YtmfjfclpdmpncaaGreatDoor

/- The specification's check of a path pattern, whole. Conditions: as the program's. -/
namespace Go.Proofs.YtmfjfclpdmpncaaGreatDoor
set_option maxRecDepth 4000
open Go Go.Abs Go.Val Go.RowKit
attribute [local irreducible] go SGo HasBody Ev ExtEv EvO EvS RGo

def tailF (p : PA) (cr : Bool) : Int :=
  bif firE (exsF (partG p.ns p.es)) != 0 then firE (exsF (partG p.ns p.es)) else
  bif (exsF (partG p.ns p.es)).any hagF then 9 else
  bif cr && p.es.any fun e => !creF e then 1 else 0
theorem path_sha (p : PA) (cr : Bool) : pathF p cr = bif shaF p != 0 then shaF p else tailF p cr := by
  unfold pathF shaF tailF
  cases longF p
  · cases (p.ns.length != p.es.length + 1 || p.es.any fun e => !hopF e)
    · cases (!(freeF p.vr) || (partG p.ns p.es).any badN)
      · cases (partG p.ns p.es).any badRs <;> rfl
      · rfl
    · rfl
  · rfl
structure SFi8 (T : List Ex) where
  i : Nat
  hi : i ≤ T.length
  ok : firE T = firE (T.drop i)
structure SCr8 (cr : Bool) (es : List EP) where
  i : Nat
  hi : i ≤ es.length
  ok : (cr && es.any fun e => !creF e) = (cr && (es.drop i).any fun e => !creF e)
theorem bool3 (a b c : Bool) : (a && (b || c)) = ((a && b) || (a && c)) := by cases a <;> cases b <;> cases c <;> rfl
set_option maxHeartbeats 2000000 in
theorem rcheckpath_ev (p : PA) (cr : Bool) (hok : OkPA p) : Ev E 64 [encPA p, .bool cr] (.d (.int (pathF p cr))) := Ev.fit fun hfit => by
  have hsh := rshape_ev p hok
  have hpr := rprops_ev p hok.x hok.n
  have hopn := hok.x
  have hope := hok.e
  rw [path_sha]
  unfold tailF
  generalize exsF (partG p.ns p.es) = T at *
  generalize shaF p = z at *
  obtain ⟨vr, ns, es⟩ := p
  dsimp only
  have hft := hfit (encPA ⟨vr, ns, es⟩) (by simp)
  have hme := (fitc_map (hft.aggs (.sl (es.map encEP)) (by simp))).1
  have hle : (es.map encEP).length = es.length := by simp
  have hlT : (T.map encE).length = T.length := by simp
  cases c1 : z != 0 with
  | true =>
    refine enter2 Tryz.func64 Tryz.ntmps64 rfl rfl fun w0 F0 O => ?_
    repeat' (first | refine zS rfl ?_ | refine qA ?_ | refine qB rfl ?_ | refine qD ?_ | refine qP rfl rfl rfl rfl rfl rfl b151 (hsh) ?_ | refine zT rfl ?_ | refine qL rfl rfl ?_ | exact zD)
  | false =>
    rw [cond_false]
    refine enter2 Tryz.func64 Tryz.ntmps64 rfl rfl fun w0 F0 O => ?_
    repeat' (first | refine zS rfl ?_ | refine qA ?_ | refine qB rfl ?_ | refine qD ?_ | refine qE ?_ | refine qF ?_ | refine qP rfl rfl rfl rfl rfl rfl b151 (hsh) ?_ | refine qP rfl rfl rfl rfl rfl rfl b152 (hpr) ?_ | refine zU rfl ?_)
    refine go_loop_ (α := SFi8 T) (fun p => ⟨[(1, .d (.bool cr)), (2, .ptr 0 0), (6, .d (.sl (T.map encE))), (7, .d (.int p.i))], [oPA ⟨vr, ns, es⟩]⟩) (fun p => T.length - p.i) ⟨0, by omega, rfl⟩ ((zle 1)) ?_
    rintro ⟨i, hi, ok⟩
    dsimp only at ok ⊢
    rcases Nat.lt_or_ge i T.length with hlt | hge
    · have g1 : decide ((i : Int) < ((T.map encE).length : Int)) = true := by rw [hlT]; simpa using hlt
      have hx0 := List.getElem?_eq_getElem hlt
      generalize T[i] = x at hx0
      have hx := map_c (f := encE) hx0
      have hxe := hope x (List.mem_of_getElem? hx0)
      have hce := rcheck_ev x hxe.1 hxe.2
      rw [drop_c hx0, firE] at ok
      cases he : chkF x != 0 with
      | true =>
        rw [he, cond_true] at ok
        rw [ok, he, cond_true]
        repeat' (first | refine zS rfl ?_ | refine qA ?_ | refine qB rfl ?_ | refine qD ?_ | refine qE ?_ | refine qF ?_ | refine qI (encE x) rfl (guardX_ok rfl) rfl rfl rfl rfl rfl rfl (by first | omega | decide) hx ?_ | refine qP rfl rfl rfl rfl rfl rfl b153 (hce) ?_ | refine zT rfl ?_ | refine qL rfl rfl ?_ | exact zD)
      | false =>
        rw [he, cond_false] at ok
        repeat' (first | refine zS rfl ?_ | refine qA ?_ | refine qB rfl ?_ | refine qD ?_ | refine qE ?_ | refine qF ?_ | refine qG ?_ | refine qI (encE x) rfl (guardX_ok rfl) rfl rfl rfl rfl rfl rfl (by first | omega | decide) hx ?_ | refine qP rfl rfl rfl rfl rfl rfl b153 (hce) ?_ | refine zT rfl ?_ | refine zU rfl ?_)
        refine go_stop ?_
        exact ⟨⟨i + 1, by omega, ok⟩, by dsimp only; omega, (zle 1)⟩
    · have g1 : decide ((i : Int) < ((T.map encE).length : Int)) = false := by rw [hlT]; simp; omega
      rw [List.drop_eq_nil_of_le hge] at ok
      rw [show firE T = 0 from ok, show ((0 : Int) != 0) = false from rfl, cond_false]
      repeat' (first | refine zS rfl ?_ | refine qA ?_ | refine qB rfl ?_ | refine qD ?_ | refine qF ?_ | refine qH rfl ?_ | refine zU rfl ?_)
      clear ok hge hi g1
      refine go_loop_ (α := SNc T hagF) (fun p => ⟨[(1, .d (.bool cr)), (2, .ptr 0 0), (6, .d (.sl (T.map encE))), (9, .d (.int p.i))], [oPA ⟨vr, ns, es⟩]⟩) (fun p => T.length - p.i) ⟨0, by omega, rfl⟩ ((zle 1)) ?_
      rintro ⟨i, hi, ok⟩
      dsimp only at ok ⊢
      rcases Nat.lt_or_ge i T.length with hlt | hge
      · have g1 : decide ((i : Int) < ((T.map encE).length : Int)) = true := by rw [hlT]; simpa using hlt
        have hx0 := List.getElem?_eq_getElem hlt
        generalize T[i] = x at hx0
        have hx := map_c (f := encE) hx0
        have hha := rhasagg_ev x
        rw [anyc_at hx0] at ok
        cases hb : hagF x with
        | true =>
          rw [hb] at hha ok
          rw [ok, Bool.true_or, cond_true]
          repeat' (first | refine zS rfl ?_ | refine qA ?_ | refine qB rfl ?_ | refine qD ?_ | refine qE ?_ | refine qF ?_ | refine qI (encE x) rfl (guardX_ok rfl) rfl rfl rfl rfl rfl rfl (by first | omega | decide) hx ?_ | refine qP rfl rfl rfl rfl rfl rfl b154 (hha) ?_ | refine zT rfl ?_ | refine qL rfl rfl ?_ | exact zD)
        | false =>
          rw [hb] at hha ok
          repeat' (first | refine zS rfl ?_ | refine qA ?_ | refine qB rfl ?_ | refine qD ?_ | refine qE ?_ | refine qF ?_ | refine qG ?_ | refine qI (encE x) rfl (guardX_ok rfl) rfl rfl rfl rfl rfl rfl (by first | omega | decide) hx ?_ | refine qP rfl rfl rfl rfl rfl rfl b154 (hha) ?_ | refine zT rfl ?_ | refine zU rfl ?_)
          refine go_stop ?_
          exact ⟨⟨i + 1, by omega, by rw [ok]; rfl⟩, by dsimp only; omega, (zle 1)⟩
      · have g1 : decide ((i : Int) < ((T.map encE).length : Int)) = false := by rw [hlT]; simp; omega
        rw [List.drop_eq_nil_of_le hge, List.any_nil] at ok
        rw [ok, cond_false]
        repeat' (first | refine zS rfl ?_ | refine qA ?_ | refine qB rfl ?_ | refine qD ?_ | refine qF ?_ | refine qH rfl ?_ | refine zU rfl ?_)
        clear ok hge hi g1
        refine go_loop_ (α := SCr8 cr es) (fun p => ⟨[(1, .d (.bool cr)), (2, .ptr 0 0), (10, .d (.int p.i))], [oPA ⟨vr, ns, es⟩]⟩) (fun p => es.length - p.i) ⟨0, by omega, rfl⟩ ((zle 1)) ?_
        rintro ⟨i, hi, ok⟩
        dsimp only at ok ⊢
        rcases Nat.lt_or_ge i es.length with hlt | hge
        · have g1 : decide ((i : Int) < ((es.map encEP).length : Int)) = true := by rw [hle]; simpa using hlt
          have hx0 := List.getElem?_eq_getElem hlt
          generalize es[i] = x at hx0
          have hx := map_c (f := encEP) hx0
          rw [anyc_at hx0, bool3] at ok
          have hcr : creF x = (x.mode == 0 && (x.ty.length == 1 && x.dir != 3)) := rfl
          have hlx : (x.ty.map D.str).length = x.ty.length := by simp
          cases hb : cr && !creF x with
          | true =>
            rw [hb, Bool.true_or] at ok
            rw [ok, cond_true]
            repeat' (first | refine go_cutR 20 (fun b => ⟨[(72, .d (.bool b))], [oPA ⟨vr, ns, es⟩]⟩) (true) ?_ ?_ | refine zS rfl ?_ | refine qA ?_ | refine qB rfl ?_ | refine qD ?_ | refine qE ?_ | refine qF ?_ | refine qI (encEP x) rfl (guardX_ok rfl) rfl rfl rfl rfl rfl rfl (by first | omega | decide) hx ?_ | refine go_stop ⟨_, ?_, (zle 1)⟩ | refine zT rfl ?_ | refine qL rfl rfl ?_ | (refine qY rfl rfl rfl rfl ?_ ?_ <;> intro _) | exact zD)
            all_goals (clear hsh hpr hfit hft hok hope ok; simp_all)
            all_goals omega
          | false =>
            rw [hb, Bool.false_or] at ok
            repeat' (first | refine go_cutR 20 (fun b => ⟨[(72, .d (.bool b)), (1, .d (.bool cr)), (2, .ptr 0 0), (10, .d (.int i))], [oPA ⟨vr, ns, es⟩]⟩) (false) ?_ ?_ | refine zS rfl ?_ | refine qA ?_ | refine qB rfl ?_ | refine qD ?_ | refine qE ?_ | refine qF ?_ | refine qG ?_ | refine qI (encEP x) rfl (guardX_ok rfl) rfl rfl rfl rfl rfl rfl (by first | omega | decide) hx ?_ | refine go_stop ⟨_, ?_, (zle 1)⟩ | refine zT rfl ?_ | refine zU rfl ?_ | (refine qY rfl rfl rfl rfl ?_ ?_ <;> intro _))
            all_goals first | (refine go_stop ?_; exact ⟨⟨i + 1, by omega, ok⟩, by dsimp only; omega, (zle 1)⟩) | (clear hsh hpr hfit hft hok hope ok; simp_all; done) | (clear hsh hpr hfit hft hok hope ok; simp_all; omega)
        · have g1 : decide ((i : Int) < ((es.map encEP).length : Int)) = false := by rw [hle]; simp; omega
          rw [List.drop_eq_nil_of_le hge, List.any_nil, Bool.and_false] at ok
          rw [ok, cond_false]
          repeat' (first | refine zS rfl ?_ | refine qA ?_ | refine qB rfl ?_ | refine qD ?_ | refine qH rfl ?_ | refine zU rfl ?_ | refine qL rfl rfl ?_ | exact zD)
end Go.Proofs.YtmfjfclpdmpncaaGreatDoor
