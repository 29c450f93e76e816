/-
  DERIVED. GIVEN WITH THE SEED: THE CARDS: each row of YtlmfmmgfiffjiaaGreatDoorRows.lean that lists a variable, with what it lists TIED to the program's text (the seventh form; the later family's looks); each row that meets fmt, with fmt's text TOLD by the authors' own Lean function (tested against real Go, not proved from fmt's source: count such statements apart). THE CARD IS WHAT COUNTS. Prove the row's statement (the work); the ties are given (YtlmfmmgfiffjiaaGreatDoorTie.lean); close each card by the builder's one call (the guide's Derived/Test/ToyasCard.lean, 'card_holds'). Laid BY PROGRAM, IN A SANDBOX (cutbox-door.mjs). By AI agents, Wed Nov 11 2026. No macro, syntax, notation, axiom, sorry.
-/
import Derived.Test.YtlmfmmgfiffjiaaGreatDoorRows
import GoSem.ClaimSeven
namespace Go.Proofs.YtlmfmmgfiffjiaaGreatDoor
namespace Rows

/-- THE TIED CARD OF 'signetlaw22.IdQuiet'. -/
def idQuietCard : Claim7 := { stood := { row := idQuietRow, standIns := [], harness := (true, "ba95349c6ecb166ff507bb071f5497c5293f41becde1819205b77a21bb33d8ea"), looks := false }, kinds := [], alts := [], laidByText := true, laidKinds := [.data, .data, .data, .data, .data, .data, .pinned], laidTests := true, laidLooks := .later }
def IdQuietCardSaid : Prop := Claim7.holds Tryz.pinned (.plain (OpenSpec.ofChange idQuietSpec)) idQuietCard

/-- THE TIED CARD OF 'signetlaw22.IdAge'. -/
def idAgeCard : Claim7 := { stood := { row := idAgeRow, standIns := [], harness := (true, "ba95349c6ecb166ff507bb071f5497c5293f41becde1819205b77a21bb33d8ea"), looks := false }, kinds := [], alts := [], laidByText := true, laidKinds := [.data, .data, .data, .data, .data, .data, .pinned], laidTests := true, laidLooks := .later }
def IdAgeCardSaid : Prop := Claim7.holds Tryz.pinned (.plain (OpenSpec.ofChange idAgeSpec)) idAgeCard

/-- THE TIED CARD OF 'signetlaw22.IdJust'. -/
def idJustCard : Claim7 := { stood := { row := idJustRow, standIns := [], harness := (true, "ba95349c6ecb166ff507bb071f5497c5293f41becde1819205b77a21bb33d8ea"), looks := false }, kinds := [], alts := [], laidByText := true, laidKinds := [.data, .data, .data, .data, .data, .data, .pinned], laidTests := true, laidLooks := .later }
def IdJustCardSaid : Prop := Claim7.holds Tryz.pinned (.plain (OpenSpec.ofChange idJustSpec)) idJustCard

/-- THE SECOND FORM's CARD OF 'signetlaw22.IdQuiet'. -/
def idQuietUptoCard : Claim7 := { stood := { row := idQuietUptoRow, standIns := [], harness := (true, "ba95349c6ecb166ff507bb071f5497c5293f41becde1819205b77a21bb33d8ea"), looks := false }, kinds := [], alts := [], laidByText := true, laidKinds := [.data, .data, .data, .data, .data, .data, .pinned], laidTests := true, laidLooks := .later }
def IdQuietUptoCardSaid : Prop := Claim7.holds Tryz.pinned (.plain (OpenSpec.upto idQuietSpec)) idQuietUptoCard

/-- THE SECOND FORM's CARD OF 'signetlaw22.IdAge'. -/
def idAgeUptoCard : Claim7 := { stood := { row := idAgeUptoRow, standIns := [], harness := (true, "ba95349c6ecb166ff507bb071f5497c5293f41becde1819205b77a21bb33d8ea"), looks := false }, kinds := [], alts := [], laidByText := true, laidKinds := [.data, .data, .data, .data, .data, .data, .pinned], laidTests := true, laidLooks := .later }
def IdAgeUptoCardSaid : Prop := Claim7.holds Tryz.pinned (.plain (OpenSpec.upto idAgeSpec)) idAgeUptoCard

/-- THE SECOND FORM's CARD OF 'signetlaw22.IdJust'. -/
def idJustUptoCard : Claim7 := { stood := { row := idJustUptoRow, standIns := [], harness := (true, "ba95349c6ecb166ff507bb071f5497c5293f41becde1819205b77a21bb33d8ea"), looks := false }, kinds := [], alts := [], laidByText := true, laidKinds := [.data, .data, .data, .data, .data, .data, .pinned], laidTests := true, laidLooks := .later }
def IdJustUptoCardSaid : Prop := Claim7.holds Tryz.pinned (.plain (OpenSpec.upto idJustSpec)) idJustUptoCard
end Rows
end Go.Proofs.YtlmfmmgfiffjiaaGreatDoor
