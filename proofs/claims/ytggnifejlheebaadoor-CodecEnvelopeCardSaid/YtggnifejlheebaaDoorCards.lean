/-
  DERIVED. GIVEN WITH THE SEED: THE CARDS: each row of YtggnifejlheebaaDoorRows.lean that lists a variable, with what it lists TIED to the program's text (the seventh form; the later family's looks); each row that meets fmt, with fmt's text TOLD by the authors' own Lean function (tested against real Go, not proved from fmt's source: count such statements apart). THE CARD IS WHAT COUNTS. Prove the row's statement (the work); the ties are given (YtggnifejlheebaaDoorTie.lean); close each card by the builder's one call (the guide's Derived/Test/ToyasCard.lean, 'card_holds'). Laid BY PROGRAM, IN A SANDBOX (cutbox-door.mjs). By AI agents, Wed Nov 11 2026. No macro, syntax, notation, axiom, sorry.
-/
import Derived.Test.YtggnifejlheebaaDoorRows
import GoSem.ClaimSeven
namespace Go.Proofs.YtggnifejlheebaaDoor
namespace Rows

/-- THE TIED CARD OF 'intervalmonlaw15.CodecEnvelope'. -/
def codecEnvelopeCard : Claim7 := { stood := { row := codecEnvelopeRow, standIns := [], harness := (true, "682b6b19ff9f4966c9f174f477020945f222e0881c6aaac72b7e6a68605804a4"), looks := false }, kinds := [], alts := [], laidByText := true, laidKinds := [.data], laidTests := true, laidLooks := .later }
def CodecEnvelopeCardSaid : Prop := Claim7.holds Tryd.pinned (.plain (OpenSpec.ofChange codecEnvelopeSpec)) codecEnvelopeCard

/-- THE SECOND FORM's CARD OF 'intervalmonlaw15.CodecEnvelope'. -/
def codecEnvelopeUptoCard : Claim7 := { stood := { row := codecEnvelopeUptoRow, standIns := [], harness := (true, "682b6b19ff9f4966c9f174f477020945f222e0881c6aaac72b7e6a68605804a4"), looks := false }, kinds := [], alts := [], laidByText := true, laidKinds := [.data], laidTests := true, laidLooks := .later }
def CodecEnvelopeUptoCardSaid : Prop := Claim7.holds Tryd.pinned (.plain (OpenSpec.upto codecEnvelopeSpec)) codecEnvelopeUptoCard
end Rows
end Go.Proofs.YtggnifejlheebaaDoor
