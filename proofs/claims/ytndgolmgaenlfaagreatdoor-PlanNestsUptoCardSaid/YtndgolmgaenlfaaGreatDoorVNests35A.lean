/- PlanNests: a filter by a constant, PUnique and PJoin with PUnit do not change the columns of a plan, within the row's bound; and the chapter's examples hold. The tied card of the second form. Conditions: none beyond the card's own. -/
import Derived.Test.YtndgolmgaenlfaaGreatDoorGC
import Derived.Test.YtndgolmgaenlfaaGreatDoorTB
import Derived.Test.YtndgolmgaenlfaaGreatDoorTD
import Derived.Test.YtndgolmgaenlfaaGreatDoorCards
set_option linter.unusedVariables false
set_option linter.unusedSimpArgs false
namespace Go.Proofs.YtndgolmgaenlfaaGreatDoor
set_option maxRecDepth 4000
open Go Go.Abs Go.Val Go.RowKit Go.ChangeShapes Go.WideShapes
attribute [local irreducible] go SGo an1 Ev au7 EvO EvS
theorem bulk_cells (d : D) : bg5 d.cells = bg4 d := by
  cases d with
  | imm v => rw [show (D.imm v).cells = [.imm v] from rfl, bg5, show bg5 [] = 0 by rw [bg5]]; omega
  | sl xs => rw [show (D.sl xs).cells = [.sl xs] from rfl, bg5, show bg5 [] = 0 by rw [bg5]]; omega
  | agg cs => rw [show (D.agg cs).cells = cs from rfl, bg4]
theorem bulk_parts : ∀ parts : List D, bg5 (parts.flatMap D.cells) = bg5 parts
  | [] => rfl
  | d :: r => by rw [List.flatMap_cons, bg6, bulk_cells, bulk_parts r, bg5]
theorem says_bulk {H : Type} {d : DataW H} {x : D} (h : ax7 d x) : bg4 x ≤ Rows.uptoBulk d := by
  induction h with
  | bool b => simp only [bg4, Rows.uptoBulk]; omega
  | int k n => simp only [bg4, Rows.uptoBulk]; omega
  | str s => simp only [bg4, Rows.uptoBulk]; simp
  | nil => simp only [bg4, bg5, Rows.uptoBulk]; omega
  | sl es sp xs hl _ ih =>
    have key : ∀ (es : List (DataW H)) (xs : List D), es.length = xs.length → (∀ (i : Nat) e x, es[i]? = some e → xs[i]? = some x → bg4 x ≤ Rows.uptoBulk e) → bg5 xs ≤ Rows.uptoBulkAll es := by
      intro es
      induction es with
      | nil => intro xs hl _; cases xs with
        | nil => simp only [bg5, Rows.uptoBulkAll]; omega
        | cons _ _ => simp at hl
      | cons e r ihr => intro xs hl hi; cases xs with
        | nil => simp at hl
        | cons y q =>
          have h1 := hi 0 e y rfl rfl
          have h2 := ihr q (by simpa using hl) fun i e x he hx => hi (i + 1) e x (by simpa using he) (by simpa using hx)
          simp only [bg5, Rows.uptoBulkAll]
          omega
    have := key es xs hl ih
    simp only [bg4, Rows.uptoBulk]
    omega
  | agg ds parts hl _ ih =>
    have key : ∀ (es : List (DataW H)) (xs : List D), es.length = xs.length → (∀ (i : Nat) e x, es[i]? = some e → xs[i]? = some x → bg4 x ≤ Rows.uptoBulk e) → bg5 xs ≤ Rows.uptoBulkAll es := by
      intro es
      induction es with
      | nil => intro xs hl _; cases xs with
        | nil => simp only [bg5, Rows.uptoBulkAll]; omega
        | cons _ _ => simp at hl
      | cons e r ihr => intro xs hl hi; cases xs with
        | nil => simp at hl
        | cons y q =>
          have h1 := hi 0 e y rfl rfl
          have h2 := ihr q (by simpa using hl) fun i e x he hx => hi (i + 1) e x (by simpa using he) (by simpa using hx)
          simp only [bg5, Rows.uptoBulkAll]
          omega
    have := key ds parts hl ih
    simp only [bg4, bulk_parts, Rows.uptoBulk]
    omega
theorem says_all {H : Type} : ∀ (ds : List (DataW H)) (xs : List D), ds.length = xs.length → (∀ (i : Nat) d x, ds[i]? = some d → xs[i]? = some x → ax7 d x) → bg5 xs ≤ Rows.uptoBulkAll ds
  | [], [], _, _ => by simp only [bg5, Rows.uptoBulkAll]; omega
  | d :: r, x :: q, hl, h => by
    have h1 := says_bulk (h 0 d x rfl rfl)
    have h2 := says_all r q (by simpa using hl) fun i d x hd hx => h (i + 1) d x (by simpa using hd) (by simpa using hx)
    simp only [bg5, Rows.uptoBulkAll]
    omega
theorem nests_all (p : Pl) (h : bg5 [dd1 p] ≤ 1048576) : Ev E 7 [dd1 p] (.d (.bool true)) := law_nests35 eq4 p h
set_option maxRecDepth 100000 in
theorem nests_lifted (os : Os) (started : os.Started) (H : Type) (enc : TypeId × Value → H) (F : Stop.Interp) :
    ReturnsInHanded {} Tryz.checked os 7 .any ((Rows.OpenSpec.upto Rows.planNestsSpec).preRow enc Tryz.prog Tryz.f7 [] false seatLaid)
      (((Rows.OpenSpec.upto Rows.planNestsSpec).at F).post enc Tryz.prog Tryz.f7 false true false false) := by
  refine bg3 (C := Tryz.checked) (s0 := Rows.planNestsSpec) (kf := Rows.uptoSmall) (laid := seatLaid) (tb := 4) F tys2 rfl rfl rfl seat_own started (by kernel_rfl) Tryz.func7
    (witness_cond (kf := Rows.uptoSmall) rfl (wit os) #[.agg #[.int .i64 0, .slice none 0 0, .slice none 0 0, .slice none 0 0, .int .i64 0, .bool false, .bool false, .slice none 0 0, .slice none 0 0, .int .i64 0, .int .i64 0, .int .i64 0, .int .i64 0, .string ⟨#[]⟩, .slice none 0 0, .string ⟨#[]⟩, .bool false, .slice none 0 0, .string ⟨#[]⟩, .slice none 0 0, .slice none 0 0, .int .i64 0, .int .i64 0, .slice none 0 0, .slice none 0 0, .int .i64 0, .int .i64 0, .int .i64 0, .int .i64 0, .string ⟨#[]⟩, .slice none 0 0, .string ⟨#[]⟩, .bool false, .slice none 0 0, .string ⟨#[]⟩, .slice none 0 0, .slice none 0 0, .int .i64 0, .int .i64 0]] 8 rfl (wit_shaped os _) (by kernel_rfl) (by kernel_rfl) (by kernel_rfl) (wit_met os _))
    rfl rfl Tryz.underlying4 (fun ds hl => ?_) seat_out (by kernel_rfl) tys2_ok (by kernel_rfl) (fun W args xs ds hL hS hx hsz hr hty hdl hk => ?_)
  · match ds, hl with
    | [_], _ => rfl
  · have hsz' : args.size = 1 := hsz
    have hbk := says_all ds xs (by rw [hdl, hx, hsz]) fun i d x hd hxi => (hty i _ x (by
      rw [fa7];exact Array.getElem?_eq_getElem (by rw [← hsz, ← hx]; exact (es5.1 hxi).1)) hxi).2 d hd
    have hsm : Rows.uptoBulkAll ds ≤ 1048576 := of_decide_eq_true hk;rw [hsz'] at hx
    match xs, hx with
    | [x0], _ =>
      obtain ⟨a0, rfl⟩ := er9 (hty 0 _ x0 rfl rfl).1;exact ay7 (gi_of hL hS) (nests_all a0 (ev9 hbk hsm)) (by simp [hsz']) hr
theorem nests_q0 : (laidOutB Tryz.prog) = true := by kernel_rfl
theorem nests_q1 : (mapsRowed Tryz.prog) = true := by kernel_rfl
theorem nests_q2 : ((Rows.planNestsUptoRow.inPlace == Tryz.prog.inPlace 7)) = true := by kernel_rfl
theorem nests_q3 : ((Rows.planNestsUptoRow.unfollowed == Tryz.prog.unfollowed 7)) = true := by kernel_rfl
theorem nests_q4 : ((Rows.planNestsUptoRow.recurses == Tryz.prog.recurses 7)) = true := by kernel_rfl
theorem nests_q5 : ((Rows.planNestsUptoRow.named == Tryz.prog.varsNamed 7)) = true := by kernel_rfl
theorem nests_q6 : ((Rows.planNestsUptoRow.loops == (Tryz.f7.params.toList ++ (Rows.OpenSpec.upto Rows.planNestsSpec).bare.plain.varTypes Tryz.prog).any (Tryz.prog.loopsFrom ·))) = true := by kernel_rfl
theorem nests_q7 : (Tryz.prog.stopsHeard) = true := by kernel_rfl
theorem nests_q8 : (Tryz.prog.mayEnter) = true := by kernel_rfl
theorem nests_q9 : ((Rows.planNestsUptoRow.lifted == Tryz.prog.liftsFinal)) = true := by kernel_rfl
theorem nests_closed : joinedFacts Tryz.prog 7 Tryz.f7 (Rows.OpenSpec.upto Rows.planNestsSpec).bare Rows.planNestsUptoRow = true := by
  unfold joinedFacts
  rw [nests_q0, nests_q1, nests_q2, nests_q3, nests_q4, nests_q5, nests_q6, nests_q7, nests_q8, nests_q9]
  kernel_rfl
end Go.Proofs.YtndgolmgaenlfaaGreatDoor
