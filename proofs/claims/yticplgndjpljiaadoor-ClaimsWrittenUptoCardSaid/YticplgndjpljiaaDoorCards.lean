/-
  DERIVED. GIVEN WITH THE SEED: THE CARDS: each row of YticplgndjpljiaaDoorRows.lean that lists a variable, with what it lists TIED to the program's text (the seventh form; the later family's looks); each row that meets fmt, with fmt's text TOLD by the authors' own Lean function (tested against real Go, not proved from fmt's source: count such statements apart). THE CARD IS WHAT COUNTS. Prove the row's statement (the work); the ties are given (YticplgndjpljiaaDoorTie.lean); close each card by the builder's one call (the guide's Derived/Test/ToyasCard.lean, 'card_holds'). Laid BY PROGRAM, IN A SANDBOX (cutbox-door.mjs). By AI agents, Wed Nov 11 2026. No macro, syntax, notation, axiom, sorry.
-/
import Derived.Test.YticplgndjpljiaaDoorRows
import GoSem.ClaimSeven
namespace Go.Proofs.YticplgndjpljiaaDoor
namespace Rows

/-- THE TIED CARD OF 'signetlaw17.HeaderReads'. -/
def headerReadsCard : Claim7 := { stood := { row := headerReadsRow, standIns := [], harness := (true, "33ac4d8dde53f83095e42b17ef15ebfa0b4cd16f9bfed06e05768843a89f3903"), looks := false }, kinds := [], alts := [], laidByText := true, laidKinds := [.data, .data, .pinned], laidTests := true, laidLooks := .later }
def HeaderReadsCardSaid : Prop := Claim7.holds Tryd.pinned (.plain (OpenSpec.ofChange headerReadsSpec)) headerReadsCard

/-- THE TIED CARD OF 'signetlaw17.HeaderNone'. -/
def headerNoneCard : Claim7 := { stood := { row := headerNoneRow, standIns := [], harness := (true, "33ac4d8dde53f83095e42b17ef15ebfa0b4cd16f9bfed06e05768843a89f3903"), looks := false }, kinds := [], alts := [], laidByText := true, laidKinds := [.data, .data, .pinned], laidTests := true, laidLooks := .later }
def HeaderNoneCardSaid : Prop := Claim7.holds Tryd.pinned (.plain (OpenSpec.ofChange headerNoneSpec)) headerNoneCard

/-- THE TIED CARD OF 'signetlaw17.HeaderTyp'. -/
def headerTypCard : Claim7 := { stood := { row := headerTypRow, standIns := [], harness := (true, "33ac4d8dde53f83095e42b17ef15ebfa0b4cd16f9bfed06e05768843a89f3903"), looks := false }, kinds := [], alts := [], laidByText := true, laidKinds := [.data, .data, .pinned], laidTests := true, laidLooks := .later }
def HeaderTypCardSaid : Prop := Claim7.holds Tryd.pinned (.plain (OpenSpec.ofChange headerTypSpec)) headerTypCard

/-- THE TIED CARD OF 'signetlaw17.HeaderBack'. -/
def headerBackCard : Claim7 := { stood := { row := headerBackRow, standIns := [], harness := (true, "33ac4d8dde53f83095e42b17ef15ebfa0b4cd16f9bfed06e05768843a89f3903"), looks := false }, kinds := [], alts := [], laidByText := true, laidKinds := [.data, .data, .pinned], laidTests := true, laidLooks := .later }
def HeaderBackCardSaid : Prop := Claim7.holds Tryd.pinned (.plain (OpenSpec.ofChange headerBackSpec)) headerBackCard

/-- THE TIED CARD OF 'signetlaw17.HeaderClosed'. -/
def headerClosedCard : Claim7 := { stood := { row := headerClosedRow, standIns := [], harness := (true, "33ac4d8dde53f83095e42b17ef15ebfa0b4cd16f9bfed06e05768843a89f3903"), looks := false }, kinds := [], alts := [], laidByText := true, laidKinds := [.data, .data, .pinned], laidTests := true, laidLooks := .later }
def HeaderClosedCardSaid : Prop := Claim7.holds Tryd.pinned (.plain (OpenSpec.ofChange headerClosedSpec)) headerClosedCard

/-- THE TIED CARD OF 'signetlaw19.ClaimsParses'. -/
def claimsParsesCard : Claim7 := { stood := { row := claimsParsesRow, standIns := [], harness := (true, "33ac4d8dde53f83095e42b17ef15ebfa0b4cd16f9bfed06e05768843a89f3903"), looks := false }, kinds := [], alts := [], laidByText := true, laidKinds := [.data, .pinned], laidTests := true, laidLooks := .later }
def ClaimsParsesCardSaid : Prop := Claim7.holds Tryd.pinned (.plain (OpenSpec.ofChange claimsParsesSpec)) claimsParsesCard

/-- THE TIED CARD OF 'signetlaw19.ClaimsSaid'. -/
def claimsSaidCard : Claim7 := { stood := { row := claimsSaidRow, standIns := [], harness := (true, "33ac4d8dde53f83095e42b17ef15ebfa0b4cd16f9bfed06e05768843a89f3903"), looks := false }, kinds := [], alts := [], laidByText := true, laidKinds := [.data, .pinned], laidTests := true, laidLooks := .later }
def ClaimsSaidCardSaid : Prop := Claim7.holds Tryd.pinned (.plain (OpenSpec.ofChange claimsSaidSpec)) claimsSaidCard

/-- THE TIED CARD OF 'signetlaw19.ClaimsEach'. -/
def claimsEachCard : Claim7 := { stood := { row := claimsEachRow, standIns := [], harness := (true, "33ac4d8dde53f83095e42b17ef15ebfa0b4cd16f9bfed06e05768843a89f3903"), looks := false }, kinds := [], alts := [], laidByText := true, laidKinds := [.data, .pinned], laidTests := true, laidLooks := .later }
def ClaimsEachCardSaid : Prop := Claim7.holds Tryd.pinned (.plain (OpenSpec.ofChange claimsEachSpec)) claimsEachCard

/-- THE TIED CARD OF 'signetlaw19.ClaimsClock'. -/
def claimsClockCard : Claim7 := { stood := { row := claimsClockRow, standIns := [], harness := (true, "33ac4d8dde53f83095e42b17ef15ebfa0b4cd16f9bfed06e05768843a89f3903"), looks := false }, kinds := [], alts := [], laidByText := true, laidKinds := [.data, .pinned], laidTests := true, laidLooks := .later }
def ClaimsClockCardSaid : Prop := Claim7.holds Tryd.pinned (.plain (OpenSpec.ofChange claimsClockSpec)) claimsClockCard

/-- THE TIED CARD OF 'signetlaw19.ClaimsWritten'. -/
def claimsWrittenCard : Claim7 := { stood := { row := claimsWrittenRow, standIns := [], harness := (true, "33ac4d8dde53f83095e42b17ef15ebfa0b4cd16f9bfed06e05768843a89f3903"), looks := false }, kinds := [], alts := [], laidByText := true, laidKinds := [.data, .pinned], laidTests := true, laidLooks := .later }
def ClaimsWrittenCardSaid : Prop := Claim7.holds Tryd.pinned (.plain (OpenSpec.ofChange claimsWrittenSpec)) claimsWrittenCard

/-- THE TIED CARD OF 'signettop.TopPolicy'. -/
def topPolicyCard : Claim7 := { stood := { row := topPolicyRow, standIns := [], harness := (true, "33ac4d8dde53f83095e42b17ef15ebfa0b4cd16f9bfed06e05768843a89f3903"), looks := false }, kinds := [], alts := [], laidByText := true, laidKinds := [.data, .pinned], laidTests := true, laidLooks := .later }
def TopPolicyCardSaid : Prop := Claim7.holds Tryd.pinned (.plain (OpenSpec.ofChange topPolicySpec)) topPolicyCard

/-- THE SECOND FORM's CARD OF 'signetlaw17.HeaderReads'. -/
def headerReadsUptoCard : Claim7 := { stood := { row := headerReadsUptoRow, standIns := [], harness := (true, "33ac4d8dde53f83095e42b17ef15ebfa0b4cd16f9bfed06e05768843a89f3903"), looks := false }, kinds := [], alts := [], laidByText := true, laidKinds := [.data, .data, .pinned], laidTests := true, laidLooks := .later }
def HeaderReadsUptoCardSaid : Prop := Claim7.holds Tryd.pinned (.plain (OpenSpec.upto headerReadsSpec)) headerReadsUptoCard

/-- THE SECOND FORM's CARD OF 'signetlaw17.HeaderNone'. -/
def headerNoneUptoCard : Claim7 := { stood := { row := headerNoneUptoRow, standIns := [], harness := (true, "33ac4d8dde53f83095e42b17ef15ebfa0b4cd16f9bfed06e05768843a89f3903"), looks := false }, kinds := [], alts := [], laidByText := true, laidKinds := [.data, .data, .pinned], laidTests := true, laidLooks := .later }
def HeaderNoneUptoCardSaid : Prop := Claim7.holds Tryd.pinned (.plain (OpenSpec.upto headerNoneSpec)) headerNoneUptoCard

/-- THE SECOND FORM's CARD OF 'signetlaw17.HeaderTyp'. -/
def headerTypUptoCard : Claim7 := { stood := { row := headerTypUptoRow, standIns := [], harness := (true, "33ac4d8dde53f83095e42b17ef15ebfa0b4cd16f9bfed06e05768843a89f3903"), looks := false }, kinds := [], alts := [], laidByText := true, laidKinds := [.data, .data, .pinned], laidTests := true, laidLooks := .later }
def HeaderTypUptoCardSaid : Prop := Claim7.holds Tryd.pinned (.plain (OpenSpec.upto headerTypSpec)) headerTypUptoCard

/-- THE SECOND FORM's CARD OF 'signetlaw17.HeaderBack'. -/
def headerBackUptoCard : Claim7 := { stood := { row := headerBackUptoRow, standIns := [], harness := (true, "33ac4d8dde53f83095e42b17ef15ebfa0b4cd16f9bfed06e05768843a89f3903"), looks := false }, kinds := [], alts := [], laidByText := true, laidKinds := [.data, .data, .pinned], laidTests := true, laidLooks := .later }
def HeaderBackUptoCardSaid : Prop := Claim7.holds Tryd.pinned (.plain (OpenSpec.upto headerBackSpec)) headerBackUptoCard

/-- THE SECOND FORM's CARD OF 'signetlaw17.HeaderClosed'. -/
def headerClosedUptoCard : Claim7 := { stood := { row := headerClosedUptoRow, standIns := [], harness := (true, "33ac4d8dde53f83095e42b17ef15ebfa0b4cd16f9bfed06e05768843a89f3903"), looks := false }, kinds := [], alts := [], laidByText := true, laidKinds := [.data, .data, .pinned], laidTests := true, laidLooks := .later }
def HeaderClosedUptoCardSaid : Prop := Claim7.holds Tryd.pinned (.plain (OpenSpec.upto headerClosedSpec)) headerClosedUptoCard

/-- THE SECOND FORM's CARD OF 'signetlaw19.ClaimsParses'. -/
def claimsParsesUptoCard : Claim7 := { stood := { row := claimsParsesUptoRow, standIns := [], harness := (true, "33ac4d8dde53f83095e42b17ef15ebfa0b4cd16f9bfed06e05768843a89f3903"), looks := false }, kinds := [], alts := [], laidByText := true, laidKinds := [.data, .pinned], laidTests := true, laidLooks := .later }
def ClaimsParsesUptoCardSaid : Prop := Claim7.holds Tryd.pinned (.plain (OpenSpec.upto claimsParsesSpec)) claimsParsesUptoCard

/-- THE SECOND FORM's CARD OF 'signetlaw19.ClaimsSaid'. -/
def claimsSaidUptoCard : Claim7 := { stood := { row := claimsSaidUptoRow, standIns := [], harness := (true, "33ac4d8dde53f83095e42b17ef15ebfa0b4cd16f9bfed06e05768843a89f3903"), looks := false }, kinds := [], alts := [], laidByText := true, laidKinds := [.data, .pinned], laidTests := true, laidLooks := .later }
def ClaimsSaidUptoCardSaid : Prop := Claim7.holds Tryd.pinned (.plain (OpenSpec.upto claimsSaidSpec)) claimsSaidUptoCard

/-- THE SECOND FORM's CARD OF 'signetlaw19.ClaimsEach'. -/
def claimsEachUptoCard : Claim7 := { stood := { row := claimsEachUptoRow, standIns := [], harness := (true, "33ac4d8dde53f83095e42b17ef15ebfa0b4cd16f9bfed06e05768843a89f3903"), looks := false }, kinds := [], alts := [], laidByText := true, laidKinds := [.data, .pinned], laidTests := true, laidLooks := .later }
def ClaimsEachUptoCardSaid : Prop := Claim7.holds Tryd.pinned (.plain (OpenSpec.upto claimsEachSpec)) claimsEachUptoCard

/-- THE SECOND FORM's CARD OF 'signetlaw19.ClaimsClock'. -/
def claimsClockUptoCard : Claim7 := { stood := { row := claimsClockUptoRow, standIns := [], harness := (true, "33ac4d8dde53f83095e42b17ef15ebfa0b4cd16f9bfed06e05768843a89f3903"), looks := false }, kinds := [], alts := [], laidByText := true, laidKinds := [.data, .pinned], laidTests := true, laidLooks := .later }
def ClaimsClockUptoCardSaid : Prop := Claim7.holds Tryd.pinned (.plain (OpenSpec.upto claimsClockSpec)) claimsClockUptoCard

/-- THE SECOND FORM's CARD OF 'signetlaw19.ClaimsWritten'. -/
def claimsWrittenUptoCard : Claim7 := { stood := { row := claimsWrittenUptoRow, standIns := [], harness := (true, "33ac4d8dde53f83095e42b17ef15ebfa0b4cd16f9bfed06e05768843a89f3903"), looks := false }, kinds := [], alts := [], laidByText := true, laidKinds := [.data, .pinned], laidTests := true, laidLooks := .later }
def ClaimsWrittenUptoCardSaid : Prop := Claim7.holds Tryd.pinned (.plain (OpenSpec.upto claimsWrittenSpec)) claimsWrittenUptoCard

/-- THE SECOND FORM's CARD OF 'signettop.TopPolicy'. -/
def topPolicyUptoCard : Claim7 := { stood := { row := topPolicyUptoRow, standIns := [], harness := (true, "33ac4d8dde53f83095e42b17ef15ebfa0b4cd16f9bfed06e05768843a89f3903"), looks := false }, kinds := [], alts := [], laidByText := true, laidKinds := [.data, .pinned], laidTests := true, laidLooks := .later }
def TopPolicyUptoCardSaid : Prop := Claim7.holds Tryd.pinned (.plain (OpenSpec.upto topPolicySpec)) topPolicyUptoCard
end Rows
end Go.Proofs.YticplgndjpljiaaDoor
