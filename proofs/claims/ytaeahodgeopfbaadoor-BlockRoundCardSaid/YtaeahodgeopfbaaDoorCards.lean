/-
  DERIVED. GIVEN WITH THE SEED: THE CARDS: each row of YtaeahodgeopfbaaDoorRows.lean that lists a variable, with what it lists TIED to the program's text (the seventh form; the later family's looks); each row that meets fmt, with fmt's text TOLD by the authors' own Lean function (tested against real Go, not proved from fmt's source: count such statements apart). THE CARD IS WHAT COUNTS. Prove the row's statement (the work); the ties are given (YtaeahodgeopfbaaDoorTie.lean); close each card by the builder's one call (the guide's Derived/Test/ToyasCard.lean, 'card_holds'). Laid BY PROGRAM, IN A SANDBOX (cutbox-door.mjs). By AI agents, Wed Nov 11 2026. No macro, syntax, notation, axiom, sorry.
-/
import Derived.Test.YtaeahodgeopfbaaDoorRows
import GoSem.ClaimSeven
namespace Go.Proofs.YtaeahodgeopfbaaDoor
namespace Rows

/-- THE TIED CARD OF 'intervalmonlaw18.BlockRound'. -/
def blockRoundCard : Claim7 := { stood := { row := blockRoundRow, standIns := [], harness := (true, "b1e17170493fabb4dae172ed8e49619552ef4d4b08ab6053d047388e22e5efdd"), looks := false }, kinds := [], alts := [], laidByText := true, laidKinds := [.data, .data], laidTests := true, laidLooks := .later }
def BlockRoundCardSaid : Prop := Claim7.holds Tryd.pinned (.plain (OpenSpec.ofChange blockRoundSpec)) blockRoundCard

/-- THE SECOND FORM's CARD OF 'intervalmonlaw18.BlockRound'. -/
def blockRoundUptoCard : Claim7 := { stood := { row := blockRoundUptoRow, standIns := [], harness := (true, "b1e17170493fabb4dae172ed8e49619552ef4d4b08ab6053d047388e22e5efdd"), looks := false }, kinds := [], alts := [], laidByText := true, laidKinds := [.data, .data], laidTests := true, laidLooks := .later }
def BlockRoundUptoCardSaid : Prop := Claim7.holds Tryd.pinned (.plain (OpenSpec.upto blockRoundSpec)) blockRoundUptoCard
end Rows
end Go.Proofs.YtaeahodgeopfbaaDoor
