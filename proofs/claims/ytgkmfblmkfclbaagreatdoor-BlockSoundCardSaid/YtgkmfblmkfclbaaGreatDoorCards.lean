/-
  DERIVED. GIVEN WITH THE SEED: THE CARDS: each row of YtgkmfblmkfclbaaGreatDoorRows.lean that lists a variable, with what it lists TIED to the program's text (the seventh form; the later family's looks); each row that meets fmt, with fmt's text TOLD by the authors' own Lean function (tested against real Go, not proved from fmt's source: count such statements apart). THE CARD IS WHAT COUNTS. Prove the row's statement (the work); the ties are given (YtgkmfblmkfclbaaGreatDoorTie.lean); close each card by the builder's one call (the guide's Derived/Test/ToyasCard.lean, 'card_holds'). Laid BY PROGRAM, IN A SANDBOX (cutbox-door.mjs). By AI agents, Wed Nov 11 2026. No macro, syntax, notation, axiom, sorry.
-/
import Derived.Test.YtgkmfblmkfclbaaGreatDoorRows
import GoSem.ClaimSeven
namespace Go.Proofs.YtgkmfblmkfclbaaGreatDoor
namespace Rows

/-- THE TIED CARD OF 'intervalmonlaw18.BlockSound'. -/
def blockSoundCard : Claim7 := { stood := { row := blockSoundRow, standIns := [], harness := (true, "837374e2c89562fc0fbbf2e0bf05b40897a8dfc2b6029d2ef06c4e688b791d87"), looks := false }, kinds := [], alts := [], laidByText := true, laidKinds := [.data, .data], laidTests := true, laidLooks := .later }
def BlockSoundCardSaid : Prop := Claim7.holds Tryz.pinned (.plain (OpenSpec.ofChange blockSoundSpec)) blockSoundCard

/-- THE SECOND FORM's CARD OF 'intervalmonlaw18.BlockSound'. -/
def blockSoundUptoCard : Claim7 := { stood := { row := blockSoundUptoRow, standIns := [], harness := (true, "837374e2c89562fc0fbbf2e0bf05b40897a8dfc2b6029d2ef06c4e688b791d87"), looks := false }, kinds := [], alts := [], laidByText := true, laidKinds := [.data, .data], laidTests := true, laidLooks := .later }
def BlockSoundUptoCardSaid : Prop := Claim7.holds Tryz.pinned (.plain (OpenSpec.upto blockSoundSpec)) blockSoundUptoCard
end Rows
end Go.Proofs.YtgkmfblmkfclbaaGreatDoor
