/-
  DERIVED. GIVEN WITH THE SEED: THE CARDS: each row of YtobmafbliahplaaDoorRows.lean that lists a variable, with what it lists TIED to the program's text (the seventh form; the later family's looks); each row that meets fmt, with fmt's text TOLD by the authors' own Lean function (tested against real Go, not proved from fmt's source: count such statements apart). THE CARD IS WHAT COUNTS. Prove the row's statement (the work); the ties are given (YtobmafbliahplaaDoorTie.lean); close each card by the builder's one call (the guide's Derived/Test/ToyasCard.lean, 'card_holds'). Laid BY PROGRAM, IN A SANDBOX (cutbox-door.mjs). By AI agents, Wed Nov 11 2026. No macro, syntax, notation, axiom, sorry.
-/
import Derived.Test.YtobmafbliahplaaDoorRows
import GoSem.ClaimSeven
namespace Go.Proofs.YtobmafbliahplaaDoor
namespace Rows

/-- THE TIED CARD OF 'signetlaw22.IdHalves'. -/
def idHalvesCard : Claim7 := { stood := { row := idHalvesRow, standIns := [], harness := (true, "de0a915a0b0a86872b5ca66e59d6770702c0c711bdf2b3539421e75ea1e7d5bb"), looks := false }, kinds := [], alts := [], laidByText := true, laidKinds := [.data, .data, .data, .data, .data, .data, .data, .data, .data, .data], laidTests := true, laidLooks := .later }
def IdHalvesCardSaid : Prop := Claim7.holds Tryd.pinned (.plain (OpenSpec.ofChange idHalvesSpec)) idHalvesCard

/-- THE TIED CARD OF 'signetlaw22.IdChecks'. -/
def idChecksCard : Claim7 := { stood := { row := idChecksRow, standIns := [], harness := (true, "de0a915a0b0a86872b5ca66e59d6770702c0c711bdf2b3539421e75ea1e7d5bb"), looks := false }, kinds := [], alts := [], laidByText := true, laidKinds := [.data, .data, .data, .data, .data, .data, .data, .data, .data, .data], laidTests := true, laidLooks := .later }
def IdChecksCardSaid : Prop := Claim7.holds Tryd.pinned (.plain (OpenSpec.ofChange idChecksSpec)) idChecksCard

/-- THE SECOND FORM's CARD OF 'signetlaw22.IdHalves'. -/
def idHalvesUptoCard : Claim7 := { stood := { row := idHalvesUptoRow, standIns := [], harness := (true, "de0a915a0b0a86872b5ca66e59d6770702c0c711bdf2b3539421e75ea1e7d5bb"), looks := false }, kinds := [], alts := [], laidByText := true, laidKinds := [.data, .data, .data, .data, .data, .data, .data, .data, .data, .data], laidTests := true, laidLooks := .later }
def IdHalvesUptoCardSaid : Prop := Claim7.holds Tryd.pinned (.plain (OpenSpec.upto idHalvesSpec)) idHalvesUptoCard

/-- THE SECOND FORM's CARD OF 'signetlaw22.IdChecks'. -/
def idChecksUptoCard : Claim7 := { stood := { row := idChecksUptoRow, standIns := [], harness := (true, "de0a915a0b0a86872b5ca66e59d6770702c0c711bdf2b3539421e75ea1e7d5bb"), looks := false }, kinds := [], alts := [], laidByText := true, laidKinds := [.data, .data, .data, .data, .data, .data, .data, .data, .data, .data], laidTests := true, laidLooks := .later }
def IdChecksUptoCardSaid : Prop := Claim7.holds Tryd.pinned (.plain (OpenSpec.upto idChecksSpec)) idChecksUptoCard
end Rows
end Go.Proofs.YtobmafbliahplaaDoor
