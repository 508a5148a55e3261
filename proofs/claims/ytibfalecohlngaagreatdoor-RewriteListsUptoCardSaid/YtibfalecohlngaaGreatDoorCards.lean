/-
  DERIVED. GIVEN WITH THE SEED: THE CARDS: each row of YtibfalecohlngaaGreatDoorRows.lean that lists a variable, with what it lists TIED to the program's text (the seventh form; the later family's looks); each row that meets fmt, with fmt's text TOLD by the authors' own Lean function (tested against real Go, not proved from fmt's source: count such statements apart). THE CARD IS WHAT COUNTS. Prove the row's statement (the work); the ties are given (YtibfalecohlngaaGreatDoorTie.lean); close each card by the builder's one call (the guide's Derived/Test/ToyasCard.lean, 'card_holds'). Laid BY PROGRAM, IN A SANDBOX (cutbox-door.mjs). By AI agents, Wed Nov 11 2026. No macro, syntax, notation, axiom, sorry.
-/
import Derived.Test.YtibfalecohlngaaGreatDoorRows
import GoSem.ClaimSeven
namespace Go.Proofs.YtibfalecohlngaaGreatDoor
namespace Rows

/-- THE TIED CARD OF 'graphdblaw36.RewriteFold'. -/
def rewriteFoldCard : Claim7 := { stood := { row := rewriteFoldRow, standIns := [], harness := (true, "91c8c8ee1cf9e05cfdd00ef900ddba29d73b74afacb251476aea48a7e8961fc6"), looks := false }, kinds := [], alts := [], laidByText := true, laidKinds := [.data, .data, .data, .data, .data, .pinned], laidTests := true, laidLooks := .later }
def RewriteFoldCardSaid : Prop := Claim7.holds Tryz.pinned (.plain (OpenSpec.ofChange rewriteFoldSpec)) rewriteFoldCard

/-- THE TIED CARD OF 'graphdblaw36.RewriteLists'. -/
def rewriteListsCard : Claim7 := { stood := { row := rewriteListsRow, standIns := [], harness := (true, "91c8c8ee1cf9e05cfdd00ef900ddba29d73b74afacb251476aea48a7e8961fc6"), looks := false }, kinds := [], alts := [], laidByText := true, laidKinds := [.data, .data, .data, .data, .data, .pinned], laidTests := true, laidLooks := .later }
def RewriteListsCardSaid : Prop := Claim7.holds Tryz.pinned (.plain (OpenSpec.ofChange rewriteListsSpec)) rewriteListsCard

/-- THE TIED CARD OF 'graphdblaw36.RewriteValue'. -/
def rewriteValueCard : Claim7 := { stood := { row := rewriteValueRow, standIns := [], harness := (true, "91c8c8ee1cf9e05cfdd00ef900ddba29d73b74afacb251476aea48a7e8961fc6"), looks := false }, kinds := [], alts := [], laidByText := true, laidKinds := [.data, .data, .data, .data, .data, .pinned], laidTests := true, laidLooks := .later }
def RewriteValueCardSaid : Prop := Claim7.holds Tryz.pinned (.plain (OpenSpec.ofChange rewriteValueSpec)) rewriteValueCard

/-- THE SECOND FORM's CARD OF 'graphdblaw36.RewriteFold'. -/
def rewriteFoldUptoCard : Claim7 := { stood := { row := rewriteFoldUptoRow, standIns := [], harness := (true, "91c8c8ee1cf9e05cfdd00ef900ddba29d73b74afacb251476aea48a7e8961fc6"), looks := false }, kinds := [], alts := [], laidByText := true, laidKinds := [.data, .data, .data, .data, .data, .pinned], laidTests := true, laidLooks := .later }
def RewriteFoldUptoCardSaid : Prop := Claim7.holds Tryz.pinned (.plain (OpenSpec.upto rewriteFoldSpec)) rewriteFoldUptoCard

/-- THE SECOND FORM's CARD OF 'graphdblaw36.RewriteLists'. -/
def rewriteListsUptoCard : Claim7 := { stood := { row := rewriteListsUptoRow, standIns := [], harness := (true, "91c8c8ee1cf9e05cfdd00ef900ddba29d73b74afacb251476aea48a7e8961fc6"), looks := false }, kinds := [], alts := [], laidByText := true, laidKinds := [.data, .data, .data, .data, .data, .pinned], laidTests := true, laidLooks := .later }
def RewriteListsUptoCardSaid : Prop := Claim7.holds Tryz.pinned (.plain (OpenSpec.upto rewriteListsSpec)) rewriteListsUptoCard

/-- THE SECOND FORM's CARD OF 'graphdblaw36.RewriteValue'. -/
def rewriteValueUptoCard : Claim7 := { stood := { row := rewriteValueUptoRow, standIns := [], harness := (true, "91c8c8ee1cf9e05cfdd00ef900ddba29d73b74afacb251476aea48a7e8961fc6"), looks := false }, kinds := [], alts := [], laidByText := true, laidKinds := [.data, .data, .data, .data, .data, .pinned], laidTests := true, laidLooks := .later }
def RewriteValueUptoCardSaid : Prop := Claim7.holds Tryz.pinned (.plain (OpenSpec.upto rewriteValueSpec)) rewriteValueUptoCard
end Rows
end Go.Proofs.YtibfalecohlngaaGreatDoor
