/-
  DERIVED. GIVEN WITH THE SEED: THE CARDS: each row of YthieohigmpfknaaGreatDoorRows.lean that lists a variable, with what it lists TIED to the program's text (the seventh form; the later family's looks); each row that meets fmt, with fmt's text TOLD by the authors' own Lean function (tested against real Go, not proved from fmt's source: count such statements apart). THE CARD IS WHAT COUNTS. Prove the row's statement (the work); the ties are given (YthieohigmpfknaaGreatDoorTie.lean); close each card by the builder's one call (the guide's Derived/Test/ToyasCard.lean, 'card_holds'). Laid BY PROGRAM, IN A SANDBOX (cutbox-door.mjs). By AI agents, Wed Nov 11 2026. No macro, syntax, notation, axiom, sorry.
-/
import Derived.Test.YthieohigmpfknaaGreatDoorRows
import GoSem.ClaimSeven
namespace Go.Proofs.YthieohigmpfknaaGreatDoor
namespace Rows

/-- THE TIED CARD OF 'graphdblaw22.EvalAll'. -/
def evalAllCard : Claim7 := { stood := { row := evalAllRow, standIns := [], harness := (true, "7d139b80de9fe318cfd8669eb35d7cf8445740cec9aa1f27fbe7de37edec7804"), looks := false }, kinds := [], alts := [], laidByText := true, laidKinds := [.data, .data, .data, .data, .data, .pinned], laidTests := true, laidLooks := .later }
def EvalAllCardSaid : Prop := Claim7.holds Tryz.pinned (.plain (OpenSpec.ofChange evalAllSpec)) evalAllCard

/-- THE TIED CARD OF 'graphdblaw22.EvalValid'. -/
def evalValidCard : Claim7 := { stood := { row := evalValidRow, standIns := [], harness := (true, "7d139b80de9fe318cfd8669eb35d7cf8445740cec9aa1f27fbe7de37edec7804"), looks := false }, kinds := [], alts := [], laidByText := true, laidKinds := [.data, .data, .data, .data, .data, .pinned], laidTests := true, laidLooks := .later }
def EvalValidCardSaid : Prop := Claim7.holds Tryz.pinned (.plain (OpenSpec.ofChange evalValidSpec)) evalValidCard

/-- THE TIED CARD OF 'graphdblaw22.EvalLogic'. -/
def evalLogicCard : Claim7 := { stood := { row := evalLogicRow, standIns := [], harness := (true, "7d139b80de9fe318cfd8669eb35d7cf8445740cec9aa1f27fbe7de37edec7804"), looks := false }, kinds := [], alts := [], laidByText := true, laidKinds := [.data, .data, .data, .data, .data, .pinned], laidTests := true, laidLooks := .later }
def EvalLogicCardSaid : Prop := Claim7.holds Tryz.pinned (.plain (OpenSpec.ofChange evalLogicSpec)) evalLogicCard

/-- THE TIED CARD OF 'graphdblaw22.EvalReplace'. -/
def evalReplaceCard : Claim7 := { stood := { row := evalReplaceRow, standIns := [], harness := (true, "7d139b80de9fe318cfd8669eb35d7cf8445740cec9aa1f27fbe7de37edec7804"), looks := false }, kinds := [], alts := [], laidByText := true, laidKinds := [.data, .data, .data, .data, .data, .pinned], laidTests := true, laidLooks := .later }
def EvalReplaceCardSaid : Prop := Claim7.holds Tryz.pinned (.plain (OpenSpec.ofChange evalReplaceSpec)) evalReplaceCard

/-- THE TIED CARD OF 'graphdblaw22.EvalLocal'. -/
def evalLocalCard : Claim7 := { stood := { row := evalLocalRow, standIns := [], harness := (true, "7d139b80de9fe318cfd8669eb35d7cf8445740cec9aa1f27fbe7de37edec7804"), looks := false }, kinds := [], alts := [], laidByText := true, laidKinds := [.data, .data, .data, .data, .data, .pinned], laidTests := true, laidLooks := .later }
def EvalLocalCardSaid : Prop := Claim7.holds Tryz.pinned (.plain (OpenSpec.ofChange evalLocalSpec)) evalLocalCard

/-- THE TIED CARD OF 'graphdblaw22.EvalWhole'. -/
def evalWholeCard : Claim7 := { stood := { row := evalWholeRow, standIns := [], harness := (true, "7d139b80de9fe318cfd8669eb35d7cf8445740cec9aa1f27fbe7de37edec7804"), looks := false }, kinds := [], alts := [], laidByText := true, laidKinds := [.data, .data, .data, .data, .data, .pinned], laidTests := true, laidLooks := .later }
def EvalWholeCardSaid : Prop := Claim7.holds Tryz.pinned (.plain (OpenSpec.ofChange evalWholeSpec)) evalWholeCard

/-- THE SECOND FORM's CARD OF 'graphdblaw22.EvalAll'. -/
def evalAllUptoCard : Claim7 := { stood := { row := evalAllUptoRow, standIns := [], harness := (true, "7d139b80de9fe318cfd8669eb35d7cf8445740cec9aa1f27fbe7de37edec7804"), looks := false }, kinds := [], alts := [], laidByText := true, laidKinds := [.data, .data, .data, .data, .data, .pinned], laidTests := true, laidLooks := .later }
def EvalAllUptoCardSaid : Prop := Claim7.holds Tryz.pinned (.plain (OpenSpec.upto evalAllSpec)) evalAllUptoCard

/-- THE SECOND FORM's CARD OF 'graphdblaw22.EvalValid'. -/
def evalValidUptoCard : Claim7 := { stood := { row := evalValidUptoRow, standIns := [], harness := (true, "7d139b80de9fe318cfd8669eb35d7cf8445740cec9aa1f27fbe7de37edec7804"), looks := false }, kinds := [], alts := [], laidByText := true, laidKinds := [.data, .data, .data, .data, .data, .pinned], laidTests := true, laidLooks := .later }
def EvalValidUptoCardSaid : Prop := Claim7.holds Tryz.pinned (.plain (OpenSpec.upto evalValidSpec)) evalValidUptoCard

/-- THE SECOND FORM's CARD OF 'graphdblaw22.EvalLogic'. -/
def evalLogicUptoCard : Claim7 := { stood := { row := evalLogicUptoRow, standIns := [], harness := (true, "7d139b80de9fe318cfd8669eb35d7cf8445740cec9aa1f27fbe7de37edec7804"), looks := false }, kinds := [], alts := [], laidByText := true, laidKinds := [.data, .data, .data, .data, .data, .pinned], laidTests := true, laidLooks := .later }
def EvalLogicUptoCardSaid : Prop := Claim7.holds Tryz.pinned (.plain (OpenSpec.upto evalLogicSpec)) evalLogicUptoCard

/-- THE SECOND FORM's CARD OF 'graphdblaw22.EvalReplace'. -/
def evalReplaceUptoCard : Claim7 := { stood := { row := evalReplaceUptoRow, standIns := [], harness := (true, "7d139b80de9fe318cfd8669eb35d7cf8445740cec9aa1f27fbe7de37edec7804"), looks := false }, kinds := [], alts := [], laidByText := true, laidKinds := [.data, .data, .data, .data, .data, .pinned], laidTests := true, laidLooks := .later }
def EvalReplaceUptoCardSaid : Prop := Claim7.holds Tryz.pinned (.plain (OpenSpec.upto evalReplaceSpec)) evalReplaceUptoCard

/-- THE SECOND FORM's CARD OF 'graphdblaw22.EvalLocal'. -/
def evalLocalUptoCard : Claim7 := { stood := { row := evalLocalUptoRow, standIns := [], harness := (true, "7d139b80de9fe318cfd8669eb35d7cf8445740cec9aa1f27fbe7de37edec7804"), looks := false }, kinds := [], alts := [], laidByText := true, laidKinds := [.data, .data, .data, .data, .data, .pinned], laidTests := true, laidLooks := .later }
def EvalLocalUptoCardSaid : Prop := Claim7.holds Tryz.pinned (.plain (OpenSpec.upto evalLocalSpec)) evalLocalUptoCard

/-- THE SECOND FORM's CARD OF 'graphdblaw22.EvalWhole'. -/
def evalWholeUptoCard : Claim7 := { stood := { row := evalWholeUptoRow, standIns := [], harness := (true, "7d139b80de9fe318cfd8669eb35d7cf8445740cec9aa1f27fbe7de37edec7804"), looks := false }, kinds := [], alts := [], laidByText := true, laidKinds := [.data, .data, .data, .data, .data, .pinned], laidTests := true, laidLooks := .later }
def EvalWholeUptoCardSaid : Prop := Claim7.holds Tryz.pinned (.plain (OpenSpec.upto evalWholeSpec)) evalWholeUptoCard
end Rows
end Go.Proofs.YthieohigmpfknaaGreatDoor
