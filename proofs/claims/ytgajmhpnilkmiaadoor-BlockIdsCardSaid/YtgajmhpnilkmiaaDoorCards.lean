/-
  DERIVED. GIVEN WITH THE SEED: THE CARDS: each row of YtgajmhpnilkmiaaDoorRows.lean that lists a variable, with what it lists TIED to the program's text (the seventh form; the later family's looks); each row that meets fmt, with fmt's text TOLD by the authors' own Lean function (tested against real Go, not proved from fmt's source: count such statements apart). THE CARD IS WHAT COUNTS. Prove the row's statement (the work); the ties are given (YtgajmhpnilkmiaaDoorTie.lean); close each card by the builder's one call (the guide's Derived/Test/ToyasCard.lean, 'card_holds'). Laid BY PROGRAM, IN A SANDBOX (cutbox-door.mjs). By AI agents, Wed Nov 11 2026. No macro, syntax, notation, axiom, sorry.
-/
import Derived.Test.YtgajmhpnilkmiaaDoorRows
import GoSem.ClaimSeven
namespace Go.Proofs.YtgajmhpnilkmiaaDoor
namespace Rows

/-- THE TIED CARD OF 'intervalmonlaw15.CodecKeys'. -/
def codecKeysCard : Claim7 := { stood := { row := codecKeysRow, standIns := [], harness := (true, "03fdd83dedd18b15db165c79a04b3f2a5c31fa42f9b4c5bf570a56360ab8886e"), looks := false }, kinds := [], alts := [], laidByText := true, laidKinds := [.data], laidTests := true, laidLooks := .later }
def CodecKeysCardSaid : Prop := Claim7.holds Tryd.pinned (.plain (OpenSpec.ofChange codecKeysSpec)) codecKeysCard

/-- THE TIED CARD OF 'intervalmonlaw18.BlockIds'. -/
def blockIdsCard : Claim7 := { stood := { row := blockIdsRow, standIns := [], harness := (true, "03fdd83dedd18b15db165c79a04b3f2a5c31fa42f9b4c5bf570a56360ab8886e"), looks := false }, kinds := [], alts := [], laidByText := true, laidKinds := [.data, .data], laidTests := true, laidLooks := .later }
def BlockIdsCardSaid : Prop := Claim7.holds Tryd.pinned (.plain (OpenSpec.ofChange blockIdsSpec)) blockIdsCard

/-- THE TIED CARD OF 'intervalmonlaw15.CodecEnvelope'. -/
def codecEnvelopeCard : Claim7 := { stood := { row := codecEnvelopeRow, standIns := [], harness := (true, "03fdd83dedd18b15db165c79a04b3f2a5c31fa42f9b4c5bf570a56360ab8886e"), looks := false }, kinds := [], alts := [], laidByText := true, laidKinds := [.data], laidTests := true, laidLooks := .later }
def CodecEnvelopeCardSaid : Prop := Claim7.holds Tryd.pinned (.plain (OpenSpec.ofChange codecEnvelopeSpec)) codecEnvelopeCard

/-- THE SECOND FORM's CARD OF 'intervalmonlaw15.CodecKeys'. -/
def codecKeysUptoCard : Claim7 := { stood := { row := codecKeysUptoRow, standIns := [], harness := (true, "03fdd83dedd18b15db165c79a04b3f2a5c31fa42f9b4c5bf570a56360ab8886e"), looks := false }, kinds := [], alts := [], laidByText := true, laidKinds := [.data], laidTests := true, laidLooks := .later }
def CodecKeysUptoCardSaid : Prop := Claim7.holds Tryd.pinned (.plain (OpenSpec.upto codecKeysSpec)) codecKeysUptoCard

/-- THE SECOND FORM's CARD OF 'intervalmonlaw18.BlockIds'. -/
def blockIdsUptoCard : Claim7 := { stood := { row := blockIdsUptoRow, standIns := [], harness := (true, "03fdd83dedd18b15db165c79a04b3f2a5c31fa42f9b4c5bf570a56360ab8886e"), looks := false }, kinds := [], alts := [], laidByText := true, laidKinds := [.data, .data], laidTests := true, laidLooks := .later }
def BlockIdsUptoCardSaid : Prop := Claim7.holds Tryd.pinned (.plain (OpenSpec.upto blockIdsSpec)) blockIdsUptoCard

/-- THE SECOND FORM's CARD OF 'intervalmonlaw15.CodecEnvelope'. -/
def codecEnvelopeUptoCard : Claim7 := { stood := { row := codecEnvelopeUptoRow, standIns := [], harness := (true, "03fdd83dedd18b15db165c79a04b3f2a5c31fa42f9b4c5bf570a56360ab8886e"), looks := false }, kinds := [], alts := [], laidByText := true, laidKinds := [.data], laidTests := true, laidLooks := .later }
def CodecEnvelopeUptoCardSaid : Prop := Claim7.holds Tryd.pinned (.plain (OpenSpec.upto codecEnvelopeSpec)) codecEnvelopeUptoCard
end Rows
end Go.Proofs.YtgajmhpnilkmiaaDoor
