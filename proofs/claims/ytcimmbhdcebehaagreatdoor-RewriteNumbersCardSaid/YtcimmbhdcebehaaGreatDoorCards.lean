/-
  DERIVED. GIVEN WITH THE SEED: THE CARDS: each row of YtcimmbhdcebehaaGreatDoorRows.lean that lists a variable, with what it lists TIED to the program's text (the seventh form; the later family's looks); each row that meets fmt, with fmt's text TOLD by the authors' own Lean function (tested against real Go, not proved from fmt's source: count such statements apart). THE CARD IS WHAT COUNTS. Prove the row's statement (the work); the ties are given (YtcimmbhdcebehaaGreatDoorTie.lean); close each card by the builder's one call (the guide's Derived/Test/ToyasCard.lean, 'card_holds'). Laid BY PROGRAM, IN A SANDBOX (cutbox-door.mjs). By AI agents, Wed Nov 11 2026. No macro, syntax, notation, axiom, sorry.
-/
import Derived.Test.YtcimmbhdcebehaaGreatDoorRows
import GoSem.ClaimSeven
namespace Go.Proofs.YtcimmbhdcebehaaGreatDoor
namespace Rows

/-- THE TIED CARD OF 'intervalmonlaw26.RewriteNumbers'. -/
def rewriteNumbersCard : Claim7 := { stood := { row := rewriteNumbersRow, standIns := [], harness := (true, "d71870b5e5639d3c547fe8c1d70aa4b529710fd9b3a2d7c2ec94684b47af5362"), looks := true }, kinds := [], alts := [], laidByText := true, laidKinds := [.data, .data, .data, .widerDeep, .widerDeep, .widerDeep, .data], laidTests := true, laidLooks := .later }
def RewriteNumbersCardSaid : Prop := Claim7.holds Tryz.pinned (.plain (OpenSpec.ofChange rewriteNumbersSpec)) rewriteNumbersCard

/-- THE SECOND FORM's CARD OF 'intervalmonlaw26.RewriteNumbers'. -/
def rewriteNumbersUptoCard : Claim7 := { stood := { row := rewriteNumbersUptoRow, standIns := [], harness := (true, "d71870b5e5639d3c547fe8c1d70aa4b529710fd9b3a2d7c2ec94684b47af5362"), looks := true }, kinds := [], alts := [], laidByText := true, laidKinds := [.data, .data, .data, .widerDeep, .widerDeep, .widerDeep, .data], laidTests := true, laidLooks := .later }
def RewriteNumbersUptoCardSaid : Prop := Claim7.holds Tryz.pinned (.plain (OpenSpec.upto rewriteNumbersSpec)) rewriteNumbersUptoCard
end Rows
end Go.Proofs.YtcimmbhdcebehaaGreatDoor
