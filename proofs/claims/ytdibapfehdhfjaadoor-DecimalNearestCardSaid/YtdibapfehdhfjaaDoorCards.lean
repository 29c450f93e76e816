/-
  DERIVED. GIVEN WITH THE SEED: THE CARDS: each row of YtdibapfehdhfjaaDoorRows.lean that lists a variable, with what it lists TIED to the program's text (the seventh form; the later family's looks); each row that meets fmt, with fmt's text TOLD by the authors' own Lean function (tested against real Go, not proved from fmt's source: count such statements apart). THE CARD IS WHAT COUNTS. Prove the row's statement (the work); the ties are given (YtdibapfehdhfjaaDoorTie.lean); close each card by the builder's one call (the guide's Derived/Test/ToyasCard.lean, 'card_holds'). Laid BY PROGRAM, IN A SANDBOX (cutbox-door.mjs). By AI agents, Wed Nov 11 2026. No macro, syntax, notation, axiom, sorry.
-/
import Derived.Test.YtdibapfehdhfjaaDoorRows
import GoSem.ClaimSeven
namespace Go.Proofs.YtdibapfehdhfjaaDoor
namespace Rows

/-- THE TIED CARD OF 'signetlaw2.DecimalSays'. -/
def decimalSaysCard : Claim7 := { stood := { row := decimalSaysRow, standIns := [], harness := (true, "7efd028871c8c02814afec34ee0bd6641ec8dfe091075e525a6f1734db4f755e"), looks := false }, kinds := [], alts := [], laidByText := true, laidKinds := [.data, .pinned], laidTests := true, laidLooks := .later }
def DecimalSaysCardSaid : Prop := Claim7.holds Tryd.pinned (.plain (OpenSpec.ofChange decimalSaysSpec)) decimalSaysCard

/-- THE TIED CARD OF 'signetlaw2.DecimalReads'. -/
def decimalReadsCard : Claim7 := { stood := { row := decimalReadsRow, standIns := [], harness := (true, "7efd028871c8c02814afec34ee0bd6641ec8dfe091075e525a6f1734db4f755e"), looks := false }, kinds := [], alts := [], laidByText := true, laidKinds := [.data, .pinned], laidTests := true, laidLooks := .later }
def DecimalReadsCardSaid : Prop := Claim7.holds Tryd.pinned (.plain (OpenSpec.ofChange decimalReadsSpec)) decimalReadsCard

/-- THE TIED CARD OF 'signetlaw2.DecimalCompares'. -/
def decimalComparesCard : Claim7 := { stood := { row := decimalComparesRow, standIns := [], harness := (true, "7efd028871c8c02814afec34ee0bd6641ec8dfe091075e525a6f1734db4f755e"), looks := false }, kinds := [], alts := [], laidByText := true, laidKinds := [.data, .pinned], laidTests := true, laidLooks := .later }
def DecimalComparesCardSaid : Prop := Claim7.holds Tryd.pinned (.plain (OpenSpec.ofChange decimalComparesSpec)) decimalComparesCard

/-- THE TIED CARD OF 'signetlaw2.DecimalNears'. -/
def decimalNearsCard : Claim7 := { stood := { row := decimalNearsRow, standIns := [], harness := (true, "7efd028871c8c02814afec34ee0bd6641ec8dfe091075e525a6f1734db4f755e"), looks := false }, kinds := [], alts := [], laidByText := true, laidKinds := [.data, .pinned], laidTests := true, laidLooks := .later }
def DecimalNearsCardSaid : Prop := Claim7.holds Tryd.pinned (.plain (OpenSpec.ofChange decimalNearsSpec)) decimalNearsCard

/-- THE TIED CARD OF 'signetlaw2.DecimalOrders'. -/
def decimalOrdersCard : Claim7 := { stood := { row := decimalOrdersRow, standIns := [], harness := (true, "7efd028871c8c02814afec34ee0bd6641ec8dfe091075e525a6f1734db4f755e"), looks := false }, kinds := [], alts := [], laidByText := true, laidKinds := [.data, .pinned], laidTests := true, laidLooks := .later }
def DecimalOrdersCardSaid : Prop := Claim7.holds Tryd.pinned (.plain (OpenSpec.ofChange decimalOrdersSpec)) decimalOrdersCard

/-- THE TIED CARD OF 'signetlaw2.DecimalClimbs'. -/
def decimalClimbsCard : Claim7 := { stood := { row := decimalClimbsRow, standIns := [], harness := (true, "7efd028871c8c02814afec34ee0bd6641ec8dfe091075e525a6f1734db4f755e"), looks := false }, kinds := [], alts := [], laidByText := true, laidKinds := [.data, .pinned], laidTests := true, laidLooks := .later }
def DecimalClimbsCardSaid : Prop := Claim7.holds Tryd.pinned (.plain (OpenSpec.ofChange decimalClimbsSpec)) decimalClimbsCard

/-- THE TIED CARD OF 'signetlaw2.DecimalNearest'. -/
def decimalNearestCard : Claim7 := { stood := { row := decimalNearestRow, standIns := [], harness := (true, "7efd028871c8c02814afec34ee0bd6641ec8dfe091075e525a6f1734db4f755e"), looks := false }, kinds := [], alts := [], laidByText := true, laidKinds := [.data, .pinned], laidTests := true, laidLooks := .later }
def DecimalNearestCardSaid : Prop := Claim7.holds Tryd.pinned (.plain (OpenSpec.ofChange decimalNearestSpec)) decimalNearestCard

/-- THE TIED CARD OF 'signetlaw2.DecimalBack'. -/
def decimalBackCard : Claim7 := { stood := { row := decimalBackRow, standIns := [], harness := (true, "7efd028871c8c02814afec34ee0bd6641ec8dfe091075e525a6f1734db4f755e"), looks := false }, kinds := [], alts := [], laidByText := true, laidKinds := [.data, .pinned], laidTests := true, laidLooks := .later }
def DecimalBackCardSaid : Prop := Claim7.holds Tryd.pinned (.plain (OpenSpec.ofChange decimalBackSpec)) decimalBackCard

/-- THE TIED CARD OF 'signetlaw2.DecimalWholes'. -/
def decimalWholesCard : Claim7 := { stood := { row := decimalWholesRow, standIns := [], harness := (true, "7efd028871c8c02814afec34ee0bd6641ec8dfe091075e525a6f1734db4f755e"), looks := false }, kinds := [], alts := [], laidByText := true, laidKinds := [.data, .data, .data, .data, .pinned], laidTests := true, laidLooks := .later }
def DecimalWholesCardSaid : Prop := Claim7.holds Tryd.pinned (.plain (OpenSpec.ofChange decimalWholesSpec)) decimalWholesCard

/-- THE TIED CARD OF 'signetlaw2.DecimalShifts'. -/
def decimalShiftsCard : Claim7 := { stood := { row := decimalShiftsRow, standIns := [], harness := (true, "7efd028871c8c02814afec34ee0bd6641ec8dfe091075e525a6f1734db4f755e"), looks := false }, kinds := [], alts := [], laidByText := true, laidKinds := [.data, .data, .data, .data, .pinned], laidTests := true, laidLooks := .later }
def DecimalShiftsCardSaid : Prop := Claim7.holds Tryd.pinned (.plain (OpenSpec.ofChange decimalShiftsSpec)) decimalShiftsCard

/-- THE SECOND FORM's CARD OF 'signetlaw2.DecimalSays'. -/
def decimalSaysUptoCard : Claim7 := { stood := { row := decimalSaysUptoRow, standIns := [], harness := (true, "7efd028871c8c02814afec34ee0bd6641ec8dfe091075e525a6f1734db4f755e"), looks := false }, kinds := [], alts := [], laidByText := true, laidKinds := [.data, .pinned], laidTests := true, laidLooks := .later }
def DecimalSaysUptoCardSaid : Prop := Claim7.holds Tryd.pinned (.plain (OpenSpec.upto decimalSaysSpec)) decimalSaysUptoCard

/-- THE SECOND FORM's CARD OF 'signetlaw2.DecimalReads'. -/
def decimalReadsUptoCard : Claim7 := { stood := { row := decimalReadsUptoRow, standIns := [], harness := (true, "7efd028871c8c02814afec34ee0bd6641ec8dfe091075e525a6f1734db4f755e"), looks := false }, kinds := [], alts := [], laidByText := true, laidKinds := [.data, .pinned], laidTests := true, laidLooks := .later }
def DecimalReadsUptoCardSaid : Prop := Claim7.holds Tryd.pinned (.plain (OpenSpec.upto decimalReadsSpec)) decimalReadsUptoCard

/-- THE SECOND FORM's CARD OF 'signetlaw2.DecimalCompares'. -/
def decimalComparesUptoCard : Claim7 := { stood := { row := decimalComparesUptoRow, standIns := [], harness := (true, "7efd028871c8c02814afec34ee0bd6641ec8dfe091075e525a6f1734db4f755e"), looks := false }, kinds := [], alts := [], laidByText := true, laidKinds := [.data, .pinned], laidTests := true, laidLooks := .later }
def DecimalComparesUptoCardSaid : Prop := Claim7.holds Tryd.pinned (.plain (OpenSpec.upto decimalComparesSpec)) decimalComparesUptoCard

/-- THE SECOND FORM's CARD OF 'signetlaw2.DecimalNears'. -/
def decimalNearsUptoCard : Claim7 := { stood := { row := decimalNearsUptoRow, standIns := [], harness := (true, "7efd028871c8c02814afec34ee0bd6641ec8dfe091075e525a6f1734db4f755e"), looks := false }, kinds := [], alts := [], laidByText := true, laidKinds := [.data, .pinned], laidTests := true, laidLooks := .later }
def DecimalNearsUptoCardSaid : Prop := Claim7.holds Tryd.pinned (.plain (OpenSpec.upto decimalNearsSpec)) decimalNearsUptoCard

/-- THE SECOND FORM's CARD OF 'signetlaw2.DecimalOrders'. -/
def decimalOrdersUptoCard : Claim7 := { stood := { row := decimalOrdersUptoRow, standIns := [], harness := (true, "7efd028871c8c02814afec34ee0bd6641ec8dfe091075e525a6f1734db4f755e"), looks := false }, kinds := [], alts := [], laidByText := true, laidKinds := [.data, .pinned], laidTests := true, laidLooks := .later }
def DecimalOrdersUptoCardSaid : Prop := Claim7.holds Tryd.pinned (.plain (OpenSpec.upto decimalOrdersSpec)) decimalOrdersUptoCard

/-- THE SECOND FORM's CARD OF 'signetlaw2.DecimalClimbs'. -/
def decimalClimbsUptoCard : Claim7 := { stood := { row := decimalClimbsUptoRow, standIns := [], harness := (true, "7efd028871c8c02814afec34ee0bd6641ec8dfe091075e525a6f1734db4f755e"), looks := false }, kinds := [], alts := [], laidByText := true, laidKinds := [.data, .pinned], laidTests := true, laidLooks := .later }
def DecimalClimbsUptoCardSaid : Prop := Claim7.holds Tryd.pinned (.plain (OpenSpec.upto decimalClimbsSpec)) decimalClimbsUptoCard

/-- THE SECOND FORM's CARD OF 'signetlaw2.DecimalNearest'. -/
def decimalNearestUptoCard : Claim7 := { stood := { row := decimalNearestUptoRow, standIns := [], harness := (true, "7efd028871c8c02814afec34ee0bd6641ec8dfe091075e525a6f1734db4f755e"), looks := false }, kinds := [], alts := [], laidByText := true, laidKinds := [.data, .pinned], laidTests := true, laidLooks := .later }
def DecimalNearestUptoCardSaid : Prop := Claim7.holds Tryd.pinned (.plain (OpenSpec.upto decimalNearestSpec)) decimalNearestUptoCard

/-- THE SECOND FORM's CARD OF 'signetlaw2.DecimalBack'. -/
def decimalBackUptoCard : Claim7 := { stood := { row := decimalBackUptoRow, standIns := [], harness := (true, "7efd028871c8c02814afec34ee0bd6641ec8dfe091075e525a6f1734db4f755e"), looks := false }, kinds := [], alts := [], laidByText := true, laidKinds := [.data, .pinned], laidTests := true, laidLooks := .later }
def DecimalBackUptoCardSaid : Prop := Claim7.holds Tryd.pinned (.plain (OpenSpec.upto decimalBackSpec)) decimalBackUptoCard

/-- THE SECOND FORM's CARD OF 'signetlaw2.DecimalWholes'. -/
def decimalWholesUptoCard : Claim7 := { stood := { row := decimalWholesUptoRow, standIns := [], harness := (true, "7efd028871c8c02814afec34ee0bd6641ec8dfe091075e525a6f1734db4f755e"), looks := false }, kinds := [], alts := [], laidByText := true, laidKinds := [.data, .data, .data, .data, .pinned], laidTests := true, laidLooks := .later }
def DecimalWholesUptoCardSaid : Prop := Claim7.holds Tryd.pinned (.plain (OpenSpec.upto decimalWholesSpec)) decimalWholesUptoCard

/-- THE SECOND FORM's CARD OF 'signetlaw2.DecimalShifts'. -/
def decimalShiftsUptoCard : Claim7 := { stood := { row := decimalShiftsUptoRow, standIns := [], harness := (true, "7efd028871c8c02814afec34ee0bd6641ec8dfe091075e525a6f1734db4f755e"), looks := false }, kinds := [], alts := [], laidByText := true, laidKinds := [.data, .data, .data, .data, .pinned], laidTests := true, laidLooks := .later }
def DecimalShiftsUptoCardSaid : Prop := Claim7.holds Tryd.pinned (.plain (OpenSpec.upto decimalShiftsSpec)) decimalShiftsUptoCard
end Rows
end Go.Proofs.YtdibapfehdhfjaaDoor
