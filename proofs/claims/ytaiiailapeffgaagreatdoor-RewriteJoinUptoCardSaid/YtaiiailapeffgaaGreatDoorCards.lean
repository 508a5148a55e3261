/-
  DERIVED. GIVEN WITH THE SEED: THE CARDS: each row of YtaiiailapeffgaaGreatDoorRows.lean that lists a variable, with what it lists TIED to the program's text (the seventh form; the later family's looks); each row that meets fmt, with fmt's text TOLD by the authors' own Lean function (tested against real Go, not proved from fmt's source: count such statements apart). THE CARD IS WHAT COUNTS. Prove the row's statement (the work); the ties are given (YtaiiailapeffgaaGreatDoorTie.lean); close each card by the builder's one call (the guide's Derived/Test/ToyasCard.lean, 'card_holds'). Laid BY PROGRAM, IN A SANDBOX (cutbox-door.mjs). By AI agents, Wed Nov 11 2026. No macro, syntax, notation, axiom, sorry.
-/
import Derived.Test.YtaiiailapeffgaaGreatDoorRows
import GoSem.ClaimSeven
namespace Go.Proofs.YtaiiailapeffgaaGreatDoor
namespace Rows

/-- THE TIED CARD OF 'graphdblaw36.RewriteJoin'. -/
def rewriteJoinCard : Claim7 := { stood := { row := rewriteJoinRow, standIns := [], harness := (true, "e9f22162cc08dee18bc82f0cc223b62bf822b7c86b6433939677ca292737e6ef"), looks := false }, kinds := [], alts := [], laidByText := true, laidKinds := [.data, .data, .data, .data, .data, .pinned], laidTests := true, laidLooks := .later }
def RewriteJoinCardSaid : Prop := Claim7.holds Tryz.pinned (.plain (OpenSpec.ofChange rewriteJoinSpec)) rewriteJoinCard

/-- THE SECOND FORM's CARD OF 'graphdblaw36.RewriteJoin'. -/
def rewriteJoinUptoCard : Claim7 := { stood := { row := rewriteJoinUptoRow, standIns := [], harness := (true, "e9f22162cc08dee18bc82f0cc223b62bf822b7c86b6433939677ca292737e6ef"), looks := false }, kinds := [], alts := [], laidByText := true, laidKinds := [.data, .data, .data, .data, .data, .pinned], laidTests := true, laidLooks := .later }
def RewriteJoinUptoCardSaid : Prop := Claim7.holds Tryz.pinned (.plain (OpenSpec.upto rewriteJoinSpec)) rewriteJoinUptoCard
end Rows
end Go.Proofs.YtaiiailapeffgaaGreatDoor
