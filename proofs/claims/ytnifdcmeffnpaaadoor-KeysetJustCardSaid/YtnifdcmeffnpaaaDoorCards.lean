/-
  DERIVED. GIVEN WITH THE SEED: THE CARDS: each row of YtnifdcmeffnpaaaDoorRows.lean that lists a variable, with what it lists TIED to the program's text (the seventh form; the later family's looks); each row that meets fmt, with fmt's text TOLD by the authors' own Lean function (tested against real Go, not proved from fmt's source: count such statements apart). THE CARD IS WHAT COUNTS. Prove the row's statement (the work); the ties are given (YtnifdcmeffnpaaaDoorTie.lean); close each card by the builder's one call (the guide's Derived/Test/ToyasCard.lean, 'card_holds'). Laid BY PROGRAM, IN A SANDBOX (cutbox-door.mjs). By AI agents, Wed Nov 11 2026. No macro, syntax, notation, axiom, sorry.
-/
import Derived.Test.YtnifdcmeffnpaaaDoorRows
import GoSem.ClaimSeven
namespace Go.Proofs.YtnifdcmeffnpaaaDoor
namespace Rows

/-- THE TIED CARD OF 'signetlaw16.KeysetJust'. -/
def keysetJustCard : Claim7 := { stood := { row := keysetJustRow, standIns := [], harness := (true, "f53d2f4daf473db2eadbacfe83d20e89f7cd3225a9870810279039b0efb4579e"), looks := false }, kinds := [], alts := [], laidByText := true, laidKinds := [.data, .data, .pinned], laidTests := true, laidLooks := .later }
def KeysetJustCardSaid : Prop := Claim7.holds Tryd.pinned (.plain (OpenSpec.ofChange keysetJustSpec)) keysetJustCard

/-- THE TIED CARD OF 'signetlaw16.KeysetWritten'. -/
def keysetWrittenCard : Claim7 := { stood := { row := keysetWrittenRow, standIns := [], harness := (true, "f53d2f4daf473db2eadbacfe83d20e89f7cd3225a9870810279039b0efb4579e"), looks := false }, kinds := [], alts := [], laidByText := true, laidKinds := [.data, .data, .pinned], laidTests := true, laidLooks := .later }
def KeysetWrittenCardSaid : Prop := Claim7.holds Tryd.pinned (.plain (OpenSpec.ofChange keysetWrittenSpec)) keysetWrittenCard

/-- THE TIED CARD OF 'signetlaw16.KeysetSpares'. -/
def keysetSparesCard : Claim7 := { stood := { row := keysetSparesRow, standIns := [], harness := (true, "f53d2f4daf473db2eadbacfe83d20e89f7cd3225a9870810279039b0efb4579e"), looks := false }, kinds := [], alts := [], laidByText := true, laidKinds := [.data, .data, .data, .data, .data, .pinned], laidTests := true, laidLooks := .later }
def KeysetSparesCardSaid : Prop := Claim7.holds Tryd.pinned (.plain (OpenSpec.ofChange keysetSparesSpec)) keysetSparesCard

/-- THE SECOND FORM's CARD OF 'signetlaw16.KeysetJust'. -/
def keysetJustUptoCard : Claim7 := { stood := { row := keysetJustUptoRow, standIns := [], harness := (true, "f53d2f4daf473db2eadbacfe83d20e89f7cd3225a9870810279039b0efb4579e"), looks := false }, kinds := [], alts := [], laidByText := true, laidKinds := [.data, .data, .pinned], laidTests := true, laidLooks := .later }
def KeysetJustUptoCardSaid : Prop := Claim7.holds Tryd.pinned (.plain (OpenSpec.upto keysetJustSpec)) keysetJustUptoCard

/-- THE SECOND FORM's CARD OF 'signetlaw16.KeysetWritten'. -/
def keysetWrittenUptoCard : Claim7 := { stood := { row := keysetWrittenUptoRow, standIns := [], harness := (true, "f53d2f4daf473db2eadbacfe83d20e89f7cd3225a9870810279039b0efb4579e"), looks := false }, kinds := [], alts := [], laidByText := true, laidKinds := [.data, .data, .pinned], laidTests := true, laidLooks := .later }
def KeysetWrittenUptoCardSaid : Prop := Claim7.holds Tryd.pinned (.plain (OpenSpec.upto keysetWrittenSpec)) keysetWrittenUptoCard

/-- THE SECOND FORM's CARD OF 'signetlaw16.KeysetSpares'. -/
def keysetSparesUptoCard : Claim7 := { stood := { row := keysetSparesUptoRow, standIns := [], harness := (true, "f53d2f4daf473db2eadbacfe83d20e89f7cd3225a9870810279039b0efb4579e"), looks := false }, kinds := [], alts := [], laidByText := true, laidKinds := [.data, .data, .data, .data, .data, .pinned], laidTests := true, laidLooks := .later }
def KeysetSparesUptoCardSaid : Prop := Claim7.holds Tryd.pinned (.plain (OpenSpec.upto keysetSparesSpec)) keysetSparesUptoCard
end Rows
end Go.Proofs.YtnifdcmeffnpaaaDoor
