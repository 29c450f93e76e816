/-
  DERIVED. GIVEN WITH THE SEED: THE CARDS: each row of YtdcoiccdbgcpaaaDoorRows.lean that lists a variable, with what it lists TIED to the program's text (the seventh form; the later family's looks); each row that meets fmt, with fmt's text TOLD by the authors' own Lean function (tested against real Go, not proved from fmt's source: count such statements apart). THE CARD IS WHAT COUNTS. Prove the row's statement (the work); the ties are given (YtdcoiccdbgcpaaaDoorTie.lean); close each card by the builder's one call (the guide's Derived/Test/ToyasCard.lean, 'card_holds'). Laid BY PROGRAM, IN A SANDBOX (cutbox-door.mjs). By AI agents, Wed Nov 11 2026. No macro, syntax, notation, axiom, sorry.
-/
import Derived.Test.YtdcoiccdbgcpaaaDoorRows
import GoSem.ClaimSeven
namespace Go.Proofs.YtdcoiccdbgcpaaaDoor
namespace Rows

/-- THE TIED CARD OF 'signetlaw16.KeysetBinds'. -/
def keysetBindsCard : Claim7 := { stood := { row := keysetBindsRow, standIns := [], harness := (true, "8bbb9c8d606f75ae86e1e40ac04c8041d6020102590eac7cb4ee95c2da864956"), looks := false }, kinds := [], alts := [], laidByText := true, laidKinds := [.data], laidTests := true, laidLooks := .later }
def KeysetBindsCardSaid : Prop := Claim7.holds Tryd.pinned (.plain (OpenSpec.ofChange keysetBindsSpec)) keysetBindsCard

/-- THE TIED CARD OF 'signetlaw22.IdHalves'. -/
def idHalvesCard : Claim7 := { stood := { row := idHalvesRow, standIns := [], harness := (true, "8bbb9c8d606f75ae86e1e40ac04c8041d6020102590eac7cb4ee95c2da864956"), looks := false }, kinds := [], alts := [], laidByText := true, laidKinds := [.data, .data, .data, .data, .data, .data, .data, .data, .data, .data], laidTests := true, laidLooks := .later }
def IdHalvesCardSaid : Prop := Claim7.holds Tryd.pinned (.plain (OpenSpec.ofChange idHalvesSpec)) idHalvesCard

/-- THE TIED CARD OF 'signetlaw3.JsonFinds'. -/
def jsonFindsCard : Claim7 := { stood := { row := jsonFindsRow, standIns := [], harness := (true, "8bbb9c8d606f75ae86e1e40ac04c8041d6020102590eac7cb4ee95c2da864956"), looks := false }, kinds := [], alts := [], laidByText := true, laidKinds := [.data, .data, .data], laidTests := true, laidLooks := .later }
def JsonFindsCardSaid : Prop := Claim7.holds Tryd.pinned (.plain (OpenSpec.ofChange jsonFindsSpec)) jsonFindsCard

/-- THE TIED CARD OF 'signetlaw22.IdChecks'. -/
def idChecksCard : Claim7 := { stood := { row := idChecksRow, standIns := [], harness := (true, "8bbb9c8d606f75ae86e1e40ac04c8041d6020102590eac7cb4ee95c2da864956"), looks := false }, kinds := [], alts := [], laidByText := true, laidKinds := [.data, .data, .data, .data, .data, .data, .data, .data, .data, .data], laidTests := true, laidLooks := .later }
def IdChecksCardSaid : Prop := Claim7.holds Tryd.pinned (.plain (OpenSpec.ofChange idChecksSpec)) idChecksCard

/-- THE TIED CARD OF 'signetlaw3.JsonWrites'. -/
def jsonWritesCard : Claim7 := { stood := { row := jsonWritesRow, standIns := [], harness := (true, "8bbb9c8d606f75ae86e1e40ac04c8041d6020102590eac7cb4ee95c2da864956"), looks := false }, kinds := [], alts := [], laidByText := true, laidKinds := [.data, .pinned], laidTests := true, laidLooks := .later }
def JsonWritesCardSaid : Prop := Claim7.holds Tryd.pinned (.plain (OpenSpec.ofChange jsonWritesSpec)) jsonWritesCard

/-- THE TIED CARD OF 'signetlaw3.JsonReads'. -/
def jsonReadsCard : Claim7 := { stood := { row := jsonReadsRow, standIns := [], harness := (true, "8bbb9c8d606f75ae86e1e40ac04c8041d6020102590eac7cb4ee95c2da864956"), looks := false }, kinds := [], alts := [], laidByText := true, laidKinds := [.data, .pinned], laidTests := true, laidLooks := .later }
def JsonReadsCardSaid : Prop := Claim7.holds Tryd.pinned (.plain (OpenSpec.ofChange jsonReadsSpec)) jsonReadsCard

/-- THE TIED CARD OF 'signetlaw3.JsonBack'. -/
def jsonBackCard : Claim7 := { stood := { row := jsonBackRow, standIns := [], harness := (true, "8bbb9c8d606f75ae86e1e40ac04c8041d6020102590eac7cb4ee95c2da864956"), looks := false }, kinds := [], alts := [], laidByText := true, laidKinds := [.data, .pinned], laidTests := true, laidLooks := .later }
def JsonBackCardSaid : Prop := Claim7.holds Tryd.pinned (.plain (OpenSpec.ofChange jsonBackSpec)) jsonBackCard

/-- THE TIED CARD OF 'signetlaw3.JsonLeast'. -/
def jsonLeastCard : Claim7 := { stood := { row := jsonLeastRow, standIns := [], harness := (true, "8bbb9c8d606f75ae86e1e40ac04c8041d6020102590eac7cb4ee95c2da864956"), looks := false }, kinds := [], alts := [], laidByText := true, laidKinds := [.data, .pinned], laidTests := true, laidLooks := .later }
def JsonLeastCardSaid : Prop := Claim7.holds Tryd.pinned (.plain (OpenSpec.ofChange jsonLeastSpec)) jsonLeastCard

/-- THE TIED CARD OF 'signetlaw3.JsonSpelled'. -/
def jsonSpelledCard : Claim7 := { stood := { row := jsonSpelledRow, standIns := [], harness := (true, "8bbb9c8d606f75ae86e1e40ac04c8041d6020102590eac7cb4ee95c2da864956"), looks := false }, kinds := [], alts := [], laidByText := true, laidKinds := [.data, .pinned], laidTests := true, laidLooks := .later }
def JsonSpelledCardSaid : Prop := Claim7.holds Tryd.pinned (.plain (OpenSpec.ofChange jsonSpelledSpec)) jsonSpelledCard

/-- THE TIED CARD OF 'signetlaw3.JsonParts'. -/
def jsonPartsCard : Claim7 := { stood := { row := jsonPartsRow, standIns := [], harness := (true, "8bbb9c8d606f75ae86e1e40ac04c8041d6020102590eac7cb4ee95c2da864956"), looks := false }, kinds := [], alts := [], laidByText := true, laidKinds := [.data, .pinned], laidTests := true, laidLooks := .later }
def JsonPartsCardSaid : Prop := Claim7.holds Tryd.pinned (.plain (OpenSpec.ofChange jsonPartsSpec)) jsonPartsCard

/-- THE TIED CARD OF 'signetlaw3.JsonFresh'. -/
def jsonFreshCard : Claim7 := { stood := { row := jsonFreshRow, standIns := [], harness := (true, "8bbb9c8d606f75ae86e1e40ac04c8041d6020102590eac7cb4ee95c2da864956"), looks := false }, kinds := [], alts := [], laidByText := true, laidKinds := [.data, .pinned], laidTests := true, laidLooks := .later }
def JsonFreshCardSaid : Prop := Claim7.holds Tryd.pinned (.plain (OpenSpec.ofChange jsonFreshSpec)) jsonFreshCard

/-- THE SECOND FORM's CARD OF 'signetlaw16.KeysetBinds'. -/
def keysetBindsUptoCard : Claim7 := { stood := { row := keysetBindsUptoRow, standIns := [], harness := (true, "8bbb9c8d606f75ae86e1e40ac04c8041d6020102590eac7cb4ee95c2da864956"), looks := false }, kinds := [], alts := [], laidByText := true, laidKinds := [.data], laidTests := true, laidLooks := .later }
def KeysetBindsUptoCardSaid : Prop := Claim7.holds Tryd.pinned (.plain (OpenSpec.upto keysetBindsSpec)) keysetBindsUptoCard

/-- THE SECOND FORM's CARD OF 'signetlaw22.IdHalves'. -/
def idHalvesUptoCard : Claim7 := { stood := { row := idHalvesUptoRow, standIns := [], harness := (true, "8bbb9c8d606f75ae86e1e40ac04c8041d6020102590eac7cb4ee95c2da864956"), looks := false }, kinds := [], alts := [], laidByText := true, laidKinds := [.data, .data, .data, .data, .data, .data, .data, .data, .data, .data], laidTests := true, laidLooks := .later }
def IdHalvesUptoCardSaid : Prop := Claim7.holds Tryd.pinned (.plain (OpenSpec.upto idHalvesSpec)) idHalvesUptoCard

/-- THE SECOND FORM's CARD OF 'signetlaw3.JsonFinds'. -/
def jsonFindsUptoCard : Claim7 := { stood := { row := jsonFindsUptoRow, standIns := [], harness := (true, "8bbb9c8d606f75ae86e1e40ac04c8041d6020102590eac7cb4ee95c2da864956"), looks := false }, kinds := [], alts := [], laidByText := true, laidKinds := [.data, .data, .data], laidTests := true, laidLooks := .later }
def JsonFindsUptoCardSaid : Prop := Claim7.holds Tryd.pinned (.plain (OpenSpec.upto jsonFindsSpec)) jsonFindsUptoCard

/-- THE SECOND FORM's CARD OF 'signetlaw22.IdChecks'. -/
def idChecksUptoCard : Claim7 := { stood := { row := idChecksUptoRow, standIns := [], harness := (true, "8bbb9c8d606f75ae86e1e40ac04c8041d6020102590eac7cb4ee95c2da864956"), looks := false }, kinds := [], alts := [], laidByText := true, laidKinds := [.data, .data, .data, .data, .data, .data, .data, .data, .data, .data], laidTests := true, laidLooks := .later }
def IdChecksUptoCardSaid : Prop := Claim7.holds Tryd.pinned (.plain (OpenSpec.upto idChecksSpec)) idChecksUptoCard

/-- THE SECOND FORM's CARD OF 'signetlaw3.JsonWrites'. -/
def jsonWritesUptoCard : Claim7 := { stood := { row := jsonWritesUptoRow, standIns := [], harness := (true, "8bbb9c8d606f75ae86e1e40ac04c8041d6020102590eac7cb4ee95c2da864956"), looks := false }, kinds := [], alts := [], laidByText := true, laidKinds := [.data, .pinned], laidTests := true, laidLooks := .later }
def JsonWritesUptoCardSaid : Prop := Claim7.holds Tryd.pinned (.plain (OpenSpec.upto jsonWritesSpec)) jsonWritesUptoCard

/-- THE SECOND FORM's CARD OF 'signetlaw3.JsonReads'. -/
def jsonReadsUptoCard : Claim7 := { stood := { row := jsonReadsUptoRow, standIns := [], harness := (true, "8bbb9c8d606f75ae86e1e40ac04c8041d6020102590eac7cb4ee95c2da864956"), looks := false }, kinds := [], alts := [], laidByText := true, laidKinds := [.data, .pinned], laidTests := true, laidLooks := .later }
def JsonReadsUptoCardSaid : Prop := Claim7.holds Tryd.pinned (.plain (OpenSpec.upto jsonReadsSpec)) jsonReadsUptoCard

/-- THE SECOND FORM's CARD OF 'signetlaw3.JsonBack'. -/
def jsonBackUptoCard : Claim7 := { stood := { row := jsonBackUptoRow, standIns := [], harness := (true, "8bbb9c8d606f75ae86e1e40ac04c8041d6020102590eac7cb4ee95c2da864956"), looks := false }, kinds := [], alts := [], laidByText := true, laidKinds := [.data, .pinned], laidTests := true, laidLooks := .later }
def JsonBackUptoCardSaid : Prop := Claim7.holds Tryd.pinned (.plain (OpenSpec.upto jsonBackSpec)) jsonBackUptoCard

/-- THE SECOND FORM's CARD OF 'signetlaw3.JsonLeast'. -/
def jsonLeastUptoCard : Claim7 := { stood := { row := jsonLeastUptoRow, standIns := [], harness := (true, "8bbb9c8d606f75ae86e1e40ac04c8041d6020102590eac7cb4ee95c2da864956"), looks := false }, kinds := [], alts := [], laidByText := true, laidKinds := [.data, .pinned], laidTests := true, laidLooks := .later }
def JsonLeastUptoCardSaid : Prop := Claim7.holds Tryd.pinned (.plain (OpenSpec.upto jsonLeastSpec)) jsonLeastUptoCard

/-- THE SECOND FORM's CARD OF 'signetlaw3.JsonSpelled'. -/
def jsonSpelledUptoCard : Claim7 := { stood := { row := jsonSpelledUptoRow, standIns := [], harness := (true, "8bbb9c8d606f75ae86e1e40ac04c8041d6020102590eac7cb4ee95c2da864956"), looks := false }, kinds := [], alts := [], laidByText := true, laidKinds := [.data, .pinned], laidTests := true, laidLooks := .later }
def JsonSpelledUptoCardSaid : Prop := Claim7.holds Tryd.pinned (.plain (OpenSpec.upto jsonSpelledSpec)) jsonSpelledUptoCard

/-- THE SECOND FORM's CARD OF 'signetlaw3.JsonParts'. -/
def jsonPartsUptoCard : Claim7 := { stood := { row := jsonPartsUptoRow, standIns := [], harness := (true, "8bbb9c8d606f75ae86e1e40ac04c8041d6020102590eac7cb4ee95c2da864956"), looks := false }, kinds := [], alts := [], laidByText := true, laidKinds := [.data, .pinned], laidTests := true, laidLooks := .later }
def JsonPartsUptoCardSaid : Prop := Claim7.holds Tryd.pinned (.plain (OpenSpec.upto jsonPartsSpec)) jsonPartsUptoCard

/-- THE SECOND FORM's CARD OF 'signetlaw3.JsonFresh'. -/
def jsonFreshUptoCard : Claim7 := { stood := { row := jsonFreshUptoRow, standIns := [], harness := (true, "8bbb9c8d606f75ae86e1e40ac04c8041d6020102590eac7cb4ee95c2da864956"), looks := false }, kinds := [], alts := [], laidByText := true, laidKinds := [.data, .pinned], laidTests := true, laidLooks := .later }
def JsonFreshUptoCardSaid : Prop := Claim7.holds Tryd.pinned (.plain (OpenSpec.upto jsonFreshSpec)) jsonFreshUptoCard
end Rows
end Go.Proofs.YtdcoiccdbgcpaaaDoor
