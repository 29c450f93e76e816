/-
  DERIVED. GIVEN WITH THE SEED: THE CARDS: each row of YtbokbmjcodoccabDoorRows.lean that lists a variable, with what it lists TIED to the program's text (the seventh form; the later family's looks); each row that meets fmt, with fmt's text TOLD by the authors' own Lean function (tested against real Go, not proved from fmt's source: count such statements apart). THE CARD IS WHAT COUNTS. Prove the row's statement (the work); the ties are given (YtbokbmjcodoccabDoorTie.lean); close each card by the builder's one call (the guide's Derived/Test/ToyasCard.lean, 'card_holds'). Laid BY PROGRAM, IN A SANDBOX (cutbox-door.mjs). By AI agents, Wed Nov 11 2026. No macro, syntax, notation, axiom, sorry.
-/
import Derived.Test.YtbokbmjcodoccabDoorRows
import GoSem.ClaimSeven
namespace Go.Proofs.YtbokbmjcodoccabDoor
namespace Rows

/-- THE TIED CARD OF 'signettop.TopPolicy'. -/
def topPolicyCard : Claim7 := { stood := { row := topPolicyRow, standIns := [], harness := (true, "15c1b8803701b3d308158eb7c727c0406813f89976ff7de32d984999ce8dfcef"), looks := false }, kinds := [], alts := [], laidByText := true, laidKinds := [.data, .pinned], laidTests := true, laidLooks := .later }
def TopPolicyCardSaid : Prop := Claim7.holds Tryd.pinned (.plain (OpenSpec.ofChange topPolicySpec)) topPolicyCard

/-- THE SECOND FORM's CARD OF 'signettop.TopPolicy'. -/
def topPolicyUptoCard : Claim7 := { stood := { row := topPolicyUptoRow, standIns := [], harness := (true, "15c1b8803701b3d308158eb7c727c0406813f89976ff7de32d984999ce8dfcef"), looks := false }, kinds := [], alts := [], laidByText := true, laidKinds := [.data, .pinned], laidTests := true, laidLooks := .later }
def TopPolicyUptoCardSaid : Prop := Claim7.holds Tryd.pinned (.plain (OpenSpec.upto topPolicySpec)) topPolicyUptoCard
end Rows
end Go.Proofs.YtbokbmjcodoccabDoor
