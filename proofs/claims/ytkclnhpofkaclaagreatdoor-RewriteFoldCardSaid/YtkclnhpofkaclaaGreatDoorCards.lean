/-
  DERIVED. GIVEN WITH THE SEED: THE CARDS: each row of YtkclnhpofkaclaaGreatDoorRows.lean that lists a variable, with what it lists TIED to the program's text (the seventh form; the later family's looks); each row that meets fmt, with fmt's text TOLD by the authors' own Lean function (tested against real Go, not proved from fmt's source: count such statements apart). THE CARD IS WHAT COUNTS. Prove the row's statement (the work); the ties are given (YtkclnhpofkaclaaGreatDoorTie.lean); close each card by the builder's one call (the guide's Derived/Test/ToyasCard.lean, 'card_holds'). Laid BY PROGRAM, IN A SANDBOX (cutbox-door.mjs). By AI agents, Wed Nov 11 2026. No macro, syntax, notation, axiom, sorry.
-/
import Derived.Test.YtkclnhpofkaclaaGreatDoorRows
import GoSem.ClaimSeven
namespace Go.Proofs.YtkclnhpofkaclaaGreatDoor
namespace Rows

/-- THE TIED CARD OF 'intervalmonlaw26.RewriteFold'. -/
def rewriteFoldCard : Claim7 := { stood := { row := rewriteFoldRow, standIns := [], harness := (true, "d340f8bde179cbcf05521c91a07563579e7fba1ffe31242d820624656b196eeb"), looks := true }, kinds := [], alts := [], laidByText := true, laidKinds := [.data, .data, .data, .widerDeep, .widerDeep, .widerDeep, .data], laidTests := true, laidLooks := .later }
def RewriteFoldCardSaid : Prop := Claim7.holds Tryz.pinned (.plain (OpenSpec.ofChange rewriteFoldSpec)) rewriteFoldCard

/-- THE SECOND FORM's CARD OF 'intervalmonlaw26.RewriteFold'. -/
def rewriteFoldUptoCard : Claim7 := { stood := { row := rewriteFoldUptoRow, standIns := [], harness := (true, "d340f8bde179cbcf05521c91a07563579e7fba1ffe31242d820624656b196eeb"), looks := true }, kinds := [], alts := [], laidByText := true, laidKinds := [.data, .data, .data, .widerDeep, .widerDeep, .widerDeep, .data], laidTests := true, laidLooks := .later }
def RewriteFoldUptoCardSaid : Prop := Claim7.holds Tryz.pinned (.plain (OpenSpec.upto rewriteFoldSpec)) rewriteFoldUptoCard
end Rows
end Go.Proofs.YtkclnhpofkaclaaGreatDoor
