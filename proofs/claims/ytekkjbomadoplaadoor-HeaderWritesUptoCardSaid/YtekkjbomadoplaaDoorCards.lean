/-
  DERIVED. GIVEN WITH THE SEED: THE CARDS: each row of YtekkjbomadoplaaDoorRows.lean that lists a variable, with what it lists TIED to the program's text (the seventh form; the later family's looks); each row that meets fmt, with fmt's text TOLD by the authors' own Lean function (tested against real Go, not proved from fmt's source: count such statements apart). THE CARD IS WHAT COUNTS. Prove the row's statement (the work); the ties are given (YtekkjbomadoplaaDoorTie.lean); close each card by the builder's one call (the guide's Derived/Test/ToyasCard.lean, 'card_holds'). Laid BY PROGRAM, IN A SANDBOX (cutbox-door.mjs). By AI agents, Wed Nov 11 2026. No macro, syntax, notation, axiom, sorry.
-/
import Derived.Test.YtekkjbomadoplaaDoorRows
import GoSem.ClaimSeven
namespace Go.Proofs.YtekkjbomadoplaaDoor
namespace Rows

/-- THE TIED CARD OF 'signetlaw35.StatusPlaces'. -/
def statusPlacesCard : Claim7 := { stood := { row := statusPlacesRow, standIns := [], harness := (true, "4a481a9ffe62d7658d8d0cf8ff3d3911972d317c7d7a5122b9a5fdd87de79403"), looks := false }, kinds := [], alts := [], laidByText := true, laidKinds := [.data, .pinned], laidTests := true, laidLooks := .later }
def StatusPlacesCardSaid : Prop := Claim7.holds Tryd.pinned (.plain (OpenSpec.ofChange statusPlacesSpec)) statusPlacesCard

/-- THE TIED CARD OF 'signettop.TopPolicy'. -/
def topPolicyCard : Claim7 := { stood := { row := topPolicyRow, standIns := [], harness := (true, "4a481a9ffe62d7658d8d0cf8ff3d3911972d317c7d7a5122b9a5fdd87de79403"), looks := false }, kinds := [], alts := [], laidByText := true, laidKinds := [.data, .pinned], laidTests := true, laidLooks := .later }
def TopPolicyCardSaid : Prop := Claim7.holds Tryd.pinned (.plain (OpenSpec.ofChange topPolicySpec)) topPolicyCard

/-- THE TIED CARD OF 'signetlaw17.HeaderWrites'. -/
def headerWritesCard : Claim7 := { stood := { row := headerWritesRow, standIns := [], harness := (true, "4a481a9ffe62d7658d8d0cf8ff3d3911972d317c7d7a5122b9a5fdd87de79403"), looks := false }, kinds := [], alts := [], laidByText := true, laidKinds := [.data, .data, .pinned], laidTests := true, laidLooks := .later }
def HeaderWritesCardSaid : Prop := Claim7.holds Tryd.pinned (.plain (OpenSpec.ofChange headerWritesSpec)) headerWritesCard

/-- THE SECOND FORM's CARD OF 'signetlaw35.StatusPlaces'. -/
def statusPlacesUptoCard : Claim7 := { stood := { row := statusPlacesUptoRow, standIns := [], harness := (true, "4a481a9ffe62d7658d8d0cf8ff3d3911972d317c7d7a5122b9a5fdd87de79403"), looks := false }, kinds := [], alts := [], laidByText := true, laidKinds := [.data, .pinned], laidTests := true, laidLooks := .later }
def StatusPlacesUptoCardSaid : Prop := Claim7.holds Tryd.pinned (.plain (OpenSpec.upto statusPlacesSpec)) statusPlacesUptoCard

/-- THE SECOND FORM's CARD OF 'signettop.TopPolicy'. -/
def topPolicyUptoCard : Claim7 := { stood := { row := topPolicyUptoRow, standIns := [], harness := (true, "4a481a9ffe62d7658d8d0cf8ff3d3911972d317c7d7a5122b9a5fdd87de79403"), looks := false }, kinds := [], alts := [], laidByText := true, laidKinds := [.data, .pinned], laidTests := true, laidLooks := .later }
def TopPolicyUptoCardSaid : Prop := Claim7.holds Tryd.pinned (.plain (OpenSpec.upto topPolicySpec)) topPolicyUptoCard

/-- THE SECOND FORM's CARD OF 'signetlaw17.HeaderWrites'. -/
def headerWritesUptoCard : Claim7 := { stood := { row := headerWritesUptoRow, standIns := [], harness := (true, "4a481a9ffe62d7658d8d0cf8ff3d3911972d317c7d7a5122b9a5fdd87de79403"), looks := false }, kinds := [], alts := [], laidByText := true, laidKinds := [.data, .data, .pinned], laidTests := true, laidLooks := .later }
def HeaderWritesUptoCardSaid : Prop := Claim7.holds Tryd.pinned (.plain (OpenSpec.upto headerWritesSpec)) headerWritesUptoCard
end Rows
end Go.Proofs.YtekkjbomadoplaaDoor
