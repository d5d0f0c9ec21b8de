/-
  DERIVED. GIVEN WITH THE SEED: THE CARDS: each row of YthpflelgbadkcaaGreatDoorRows.lean that lists a variable, with what it lists TIED to the program's text (the seventh form; the later family's looks); each row that meets fmt, with fmt's text TOLD by the authors' own Lean function (tested against real Go, not proved from fmt's source: count such statements apart). THE CARD IS WHAT COUNTS. Prove the row's statement (the work); the ties are given (YthpflelgbadkcaaGreatDoorTie.lean); close each card by the builder's one call (the guide's Derived/Test/ToyasCard.lean, 'card_holds'). Laid BY PROGRAM, IN A SANDBOX (cutbox-door.mjs). By AI agents, Wed Nov 11 2026. No macro, syntax, notation, axiom, sorry.
-/
import Derived.Test.YthpflelgbadkcaaGreatDoorRows
import GoSem.ClaimSeven
namespace Go.Proofs.YthpflelgbadkcaaGreatDoor
namespace Rows

/-- THE TIED CARD OF 'intervalmonlaw26.RewriteSize'. -/
def rewriteSizeCard : Claim7 := { stood := { row := rewriteSizeRow, standIns := [], harness := (true, "8ee1a2fe816f72d5eea86038e3e361a9641e0075162afa3be5fab84df3823de6"), looks := true }, kinds := [], alts := [], laidByText := true, laidKinds := [.data, .data, .data, .widerDeep, .widerDeep, .widerDeep, .data], laidTests := true, laidLooks := .later }
def RewriteSizeCardSaid : Prop := Claim7.holds Tryz.pinned (.plain (OpenSpec.ofChange rewriteSizeSpec)) rewriteSizeCard

/-- THE TIED CARD OF 'intervalmonlaw26.RewriteReads'. -/
def rewriteReadsCard : Claim7 := { stood := { row := rewriteReadsRow, standIns := [], harness := (true, "8ee1a2fe816f72d5eea86038e3e361a9641e0075162afa3be5fab84df3823de6"), looks := true }, kinds := [], alts := [], laidByText := true, laidKinds := [.data, .data, .data, .widerDeep, .widerDeep, .widerDeep, .data], laidTests := true, laidLooks := .later }
def RewriteReadsCardSaid : Prop := Claim7.holds Tryz.pinned (.plain (OpenSpec.ofChange rewriteReadsSpec)) rewriteReadsCard

/-- THE TIED CARD OF 'intervalmonlaw26.RewriteTypes'. -/
def rewriteTypesCard : Claim7 := { stood := { row := rewriteTypesRow, standIns := [], harness := (true, "8ee1a2fe816f72d5eea86038e3e361a9641e0075162afa3be5fab84df3823de6"), looks := true }, kinds := [], alts := [], laidByText := true, laidKinds := [.data, .data, .data, .widerDeep, .widerDeep, .widerDeep, .data], laidTests := true, laidLooks := .later }
def RewriteTypesCardSaid : Prop := Claim7.holds Tryz.pinned (.plain (OpenSpec.ofChange rewriteTypesSpec)) rewriteTypesCard

/-- THE SECOND FORM's CARD OF 'intervalmonlaw26.RewriteSize'. -/
def rewriteSizeUptoCard : Claim7 := { stood := { row := rewriteSizeUptoRow, standIns := [], harness := (true, "8ee1a2fe816f72d5eea86038e3e361a9641e0075162afa3be5fab84df3823de6"), looks := true }, kinds := [], alts := [], laidByText := true, laidKinds := [.data, .data, .data, .widerDeep, .widerDeep, .widerDeep, .data], laidTests := true, laidLooks := .later }
def RewriteSizeUptoCardSaid : Prop := Claim7.holds Tryz.pinned (.plain (OpenSpec.upto rewriteSizeSpec)) rewriteSizeUptoCard

/-- THE SECOND FORM's CARD OF 'intervalmonlaw26.RewriteReads'. -/
def rewriteReadsUptoCard : Claim7 := { stood := { row := rewriteReadsUptoRow, standIns := [], harness := (true, "8ee1a2fe816f72d5eea86038e3e361a9641e0075162afa3be5fab84df3823de6"), looks := true }, kinds := [], alts := [], laidByText := true, laidKinds := [.data, .data, .data, .widerDeep, .widerDeep, .widerDeep, .data], laidTests := true, laidLooks := .later }
def RewriteReadsUptoCardSaid : Prop := Claim7.holds Tryz.pinned (.plain (OpenSpec.upto rewriteReadsSpec)) rewriteReadsUptoCard

/-- THE SECOND FORM's CARD OF 'intervalmonlaw26.RewriteTypes'. -/
def rewriteTypesUptoCard : Claim7 := { stood := { row := rewriteTypesUptoRow, standIns := [], harness := (true, "8ee1a2fe816f72d5eea86038e3e361a9641e0075162afa3be5fab84df3823de6"), looks := true }, kinds := [], alts := [], laidByText := true, laidKinds := [.data, .data, .data, .widerDeep, .widerDeep, .widerDeep, .data], laidTests := true, laidLooks := .later }
def RewriteTypesUptoCardSaid : Prop := Claim7.holds Tryz.pinned (.plain (OpenSpec.upto rewriteTypesSpec)) rewriteTypesUptoCard
end Rows
end Go.Proofs.YthpflelgbadkcaaGreatDoor
