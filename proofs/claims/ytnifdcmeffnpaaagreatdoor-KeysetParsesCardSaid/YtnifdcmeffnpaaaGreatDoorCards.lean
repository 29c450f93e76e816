/-
  DERIVED. GIVEN WITH THE SEED: THE CARDS: each row of YtnifdcmeffnpaaaGreatDoorRows.lean that lists a variable, with what it lists TIED to the program's text (the seventh form; the later family's looks); each row that meets fmt, with fmt's text TOLD by the authors' own Lean function (tested against real Go, not proved from fmt's source: count such statements apart). THE CARD IS WHAT COUNTS. Prove the row's statement (the work); the ties are given (YtnifdcmeffnpaaaGreatDoorTie.lean); close each card by the builder's one call (the guide's Derived/Test/ToyasCard.lean, 'card_holds'). Laid BY PROGRAM, IN A SANDBOX (cutbox-door.mjs). By AI agents, Wed Nov 11 2026. No macro, syntax, notation, axiom, sorry.
-/
import Derived.Test.YtnifdcmeffnpaaaGreatDoorRows
import GoSem.ClaimSeven
namespace Go.Proofs.YtnifdcmeffnpaaaGreatDoor
namespace Rows

/-- THE TIED CARD OF 'signetlaw16.KeysetParses'. -/
def keysetParsesCard : Claim7 := { stood := { row := keysetParsesRow, standIns := [], harness := (true, "ea6a503b999dbd09e3dbce86e562d55be052d0ba2b3a8b3ae9cec7e28b0b6870"), looks := false }, kinds := [], alts := [], laidByText := true, laidKinds := [.data, .pinned], laidTests := true, laidLooks := .later }
def KeysetParsesCardSaid : Prop := Claim7.holds Tryz.pinned (.plain (OpenSpec.ofChange keysetParsesSpec)) keysetParsesCard

/-- THE SECOND FORM's CARD OF 'signetlaw16.KeysetParses'. -/
def keysetParsesUptoCard : Claim7 := { stood := { row := keysetParsesUptoRow, standIns := [], harness := (true, "ea6a503b999dbd09e3dbce86e562d55be052d0ba2b3a8b3ae9cec7e28b0b6870"), looks := false }, kinds := [], alts := [], laidByText := true, laidKinds := [.data, .pinned], laidTests := true, laidLooks := .later }
def KeysetParsesUptoCardSaid : Prop := Claim7.holds Tryz.pinned (.plain (OpenSpec.upto keysetParsesSpec)) keysetParsesUptoCard
end Rows
end Go.Proofs.YtnifdcmeffnpaaaGreatDoor
