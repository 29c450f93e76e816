/-
  DERIVED. GIVEN WITH THE SEED: THE CARDS: each row of YtoafhhhnomnjiaaDoorRows.lean that lists a variable, with what it lists TIED to the program's text (the seventh form; the later family's looks); each row that meets fmt, with fmt's text TOLD by the authors' own Lean function (tested against real Go, not proved from fmt's source: count such statements apart). THE CARD IS WHAT COUNTS. Prove the row's statement (the work); the ties are given (YtoafhhhnomnjiaaDoorTie.lean); close each card by the builder's one call (the guide's Derived/Test/ToyasCard.lean, 'card_holds'). Laid BY PROGRAM, IN A SANDBOX (cutbox-door.mjs). By AI agents, Wed Nov 11 2026. No macro, syntax, notation, axiom, sorry.
-/
import Derived.Test.YtoafhhhnomnjiaaDoorRows
import GoSem.ClaimSeven
namespace Go.Proofs.YtoafhhhnomnjiaaDoor
namespace Rows

/-- THE TIED CARD OF 'signetlaw16.KeysetNames'. -/
def keysetNamesCard : Claim7 := { stood := { row := keysetNamesRow, standIns := [], harness := (true, "bfaa039eafc815640e716ebd5f5a86a3849b8cac56a8ea8e159d284fd6c17e1c"), looks := false }, kinds := [], alts := [], laidByText := true, laidKinds := [.data], laidTests := true, laidLooks := .later }
def KeysetNamesCardSaid : Prop := Claim7.holds Tryd.pinned (.plain (OpenSpec.ofChange keysetNamesSpec)) keysetNamesCard

/-- THE TIED CARD OF 'signetlaw17.HeaderAllows'. -/
def headerAllowsCard : Claim7 := { stood := { row := headerAllowsRow, standIns := [], harness := (true, "bfaa039eafc815640e716ebd5f5a86a3849b8cac56a8ea8e159d284fd6c17e1c"), looks := false }, kinds := [], alts := [], laidByText := true, laidKinds := [.data], laidTests := true, laidLooks := .later }
def HeaderAllowsCardSaid : Prop := Claim7.holds Tryd.pinned (.plain (OpenSpec.ofChange headerAllowsSpec)) headerAllowsCard

/-- THE TIED CARD OF 'signetlaw16.KeysetBinds'. -/
def keysetBindsCard : Claim7 := { stood := { row := keysetBindsRow, standIns := [], harness := (true, "bfaa039eafc815640e716ebd5f5a86a3849b8cac56a8ea8e159d284fd6c17e1c"), looks := false }, kinds := [], alts := [], laidByText := true, laidKinds := [.data], laidTests := true, laidLooks := .later }
def KeysetBindsCardSaid : Prop := Claim7.holds Tryd.pinned (.plain (OpenSpec.ofChange keysetBindsSpec)) keysetBindsCard

/-- THE TIED CARD OF 'signetlaw22.IdHalves'. -/
def idHalvesCard : Claim7 := { stood := { row := idHalvesRow, standIns := [], harness := (true, "bfaa039eafc815640e716ebd5f5a86a3849b8cac56a8ea8e159d284fd6c17e1c"), looks := false }, kinds := [], alts := [], laidByText := true, laidKinds := [.data, .data, .data, .data, .data, .data, .data, .data, .data, .data], laidTests := true, laidLooks := .later }
def IdHalvesCardSaid : Prop := Claim7.holds Tryd.pinned (.plain (OpenSpec.ofChange idHalvesSpec)) idHalvesCard

/-- THE TIED CARD OF 'signetlaw3.JsonFinds'. -/
def jsonFindsCard : Claim7 := { stood := { row := jsonFindsRow, standIns := [], harness := (true, "bfaa039eafc815640e716ebd5f5a86a3849b8cac56a8ea8e159d284fd6c17e1c"), looks := false }, kinds := [], alts := [], laidByText := true, laidKinds := [.data, .data, .data], laidTests := true, laidLooks := .later }
def JsonFindsCardSaid : Prop := Claim7.holds Tryd.pinned (.plain (OpenSpec.ofChange jsonFindsSpec)) jsonFindsCard

/-- THE TIED CARD OF 'signetlaw22.IdChecks'. -/
def idChecksCard : Claim7 := { stood := { row := idChecksRow, standIns := [], harness := (true, "bfaa039eafc815640e716ebd5f5a86a3849b8cac56a8ea8e159d284fd6c17e1c"), looks := false }, kinds := [], alts := [], laidByText := true, laidKinds := [.data, .data, .data, .data, .data, .data, .data, .data, .data, .data], laidTests := true, laidLooks := .later }
def IdChecksCardSaid : Prop := Claim7.holds Tryd.pinned (.plain (OpenSpec.ofChange idChecksSpec)) idChecksCard

/-- THE SECOND FORM's CARD OF 'signetlaw16.KeysetNames'. -/
def keysetNamesUptoCard : Claim7 := { stood := { row := keysetNamesUptoRow, standIns := [], harness := (true, "bfaa039eafc815640e716ebd5f5a86a3849b8cac56a8ea8e159d284fd6c17e1c"), looks := false }, kinds := [], alts := [], laidByText := true, laidKinds := [.data], laidTests := true, laidLooks := .later }
def KeysetNamesUptoCardSaid : Prop := Claim7.holds Tryd.pinned (.plain (OpenSpec.upto keysetNamesSpec)) keysetNamesUptoCard

/-- THE SECOND FORM's CARD OF 'signetlaw17.HeaderAllows'. -/
def headerAllowsUptoCard : Claim7 := { stood := { row := headerAllowsUptoRow, standIns := [], harness := (true, "bfaa039eafc815640e716ebd5f5a86a3849b8cac56a8ea8e159d284fd6c17e1c"), looks := false }, kinds := [], alts := [], laidByText := true, laidKinds := [.data], laidTests := true, laidLooks := .later }
def HeaderAllowsUptoCardSaid : Prop := Claim7.holds Tryd.pinned (.plain (OpenSpec.upto headerAllowsSpec)) headerAllowsUptoCard

/-- THE SECOND FORM's CARD OF 'signetlaw16.KeysetBinds'. -/
def keysetBindsUptoCard : Claim7 := { stood := { row := keysetBindsUptoRow, standIns := [], harness := (true, "bfaa039eafc815640e716ebd5f5a86a3849b8cac56a8ea8e159d284fd6c17e1c"), looks := false }, kinds := [], alts := [], laidByText := true, laidKinds := [.data], laidTests := true, laidLooks := .later }
def KeysetBindsUptoCardSaid : Prop := Claim7.holds Tryd.pinned (.plain (OpenSpec.upto keysetBindsSpec)) keysetBindsUptoCard

/-- THE SECOND FORM's CARD OF 'signetlaw22.IdHalves'. -/
def idHalvesUptoCard : Claim7 := { stood := { row := idHalvesUptoRow, standIns := [], harness := (true, "bfaa039eafc815640e716ebd5f5a86a3849b8cac56a8ea8e159d284fd6c17e1c"), looks := false }, kinds := [], alts := [], laidByText := true, laidKinds := [.data, .data, .data, .data, .data, .data, .data, .data, .data, .data], laidTests := true, laidLooks := .later }
def IdHalvesUptoCardSaid : Prop := Claim7.holds Tryd.pinned (.plain (OpenSpec.upto idHalvesSpec)) idHalvesUptoCard

/-- THE SECOND FORM's CARD OF 'signetlaw3.JsonFinds'. -/
def jsonFindsUptoCard : Claim7 := { stood := { row := jsonFindsUptoRow, standIns := [], harness := (true, "bfaa039eafc815640e716ebd5f5a86a3849b8cac56a8ea8e159d284fd6c17e1c"), looks := false }, kinds := [], alts := [], laidByText := true, laidKinds := [.data, .data, .data], laidTests := true, laidLooks := .later }
def JsonFindsUptoCardSaid : Prop := Claim7.holds Tryd.pinned (.plain (OpenSpec.upto jsonFindsSpec)) jsonFindsUptoCard

/-- THE SECOND FORM's CARD OF 'signetlaw22.IdChecks'. -/
def idChecksUptoCard : Claim7 := { stood := { row := idChecksUptoRow, standIns := [], harness := (true, "bfaa039eafc815640e716ebd5f5a86a3849b8cac56a8ea8e159d284fd6c17e1c"), looks := false }, kinds := [], alts := [], laidByText := true, laidKinds := [.data, .data, .data, .data, .data, .data, .data, .data, .data, .data], laidTests := true, laidLooks := .later }
def IdChecksUptoCardSaid : Prop := Claim7.holds Tryd.pinned (.plain (OpenSpec.upto idChecksSpec)) idChecksUptoCard
end Rows
end Go.Proofs.YtoafhhhnomnjiaaDoor
