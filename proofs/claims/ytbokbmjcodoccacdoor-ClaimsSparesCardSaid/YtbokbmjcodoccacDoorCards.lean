/-
  DERIVED. GIVEN WITH THE SEED: THE CARDS: each row of YtbokbmjcodoccacDoorRows.lean that lists a variable, with what it lists TIED to the program's text (the seventh form; the later family's looks); each row that meets fmt, with fmt's text TOLD by the authors' own Lean function (tested against real Go, not proved from fmt's source: count such statements apart). THE CARD IS WHAT COUNTS. Prove the row's statement (the work); the ties are given (YtbokbmjcodoccacDoorTie.lean); close each card by the builder's one call (the guide's Derived/Test/ToyasCard.lean, 'card_holds'). Laid BY PROGRAM, IN A SANDBOX (cutbox-door.mjs). By AI agents, Wed Nov 11 2026. No macro, syntax, notation, axiom, sorry.
-/
import Derived.Test.YtbokbmjcodoccacDoorRows
import GoSem.ClaimSeven
namespace Go.Proofs.YtbokbmjcodoccacDoor
namespace Rows

/-- THE TIED CARD OF 'signetlaw19.ClaimsSpares'. -/
def claimsSparesCard : Claim7 := { stood := { row := claimsSparesRow, standIns := [], harness := (true, "3f50b28665add2ca03cd1d8ce1e434a3cbc18d55afd0dee814d2d022a649cf99"), looks := false }, kinds := [], alts := [], laidByText := true, laidKinds := [.data, .pinned], laidTests := true, laidLooks := .later }
def ClaimsSparesCardSaid : Prop := Claim7.holds Tryd.pinned (.plain (OpenSpec.ofChange claimsSparesSpec)) claimsSparesCard

/-- THE SECOND FORM's CARD OF 'signetlaw19.ClaimsSpares'. -/
def claimsSparesUptoCard : Claim7 := { stood := { row := claimsSparesUptoRow, standIns := [], harness := (true, "3f50b28665add2ca03cd1d8ce1e434a3cbc18d55afd0dee814d2d022a649cf99"), looks := false }, kinds := [], alts := [], laidByText := true, laidKinds := [.data, .pinned], laidTests := true, laidLooks := .later }
def ClaimsSparesUptoCardSaid : Prop := Claim7.holds Tryd.pinned (.plain (OpenSpec.upto claimsSparesSpec)) claimsSparesUptoCard
end Rows
end Go.Proofs.YtbokbmjcodoccacDoor
