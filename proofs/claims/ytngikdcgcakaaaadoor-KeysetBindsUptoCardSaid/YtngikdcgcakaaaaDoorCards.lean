/-
  DERIVED. GIVEN WITH THE SEED: THE CARDS: each row of YtngikdcgcakaaaaDoorRows.lean that lists a variable, with what it lists TIED to the program's text (the seventh form; the later family's looks); each row that meets fmt, with fmt's text TOLD by the authors' own Lean function (tested against real Go, not proved from fmt's source: count such statements apart). THE CARD IS WHAT COUNTS. Prove the row's statement (the work); the ties are given (YtngikdcgcakaaaaDoorTie.lean); close each card by the builder's one call (the guide's Derived/Test/ToyasCard.lean, 'card_holds'). Laid BY PROGRAM, IN A SANDBOX (cutbox-door.mjs). By AI agents, Wed Nov 11 2026. No macro, syntax, notation, axiom, sorry.
-/
import Derived.Test.YtngikdcgcakaaaaDoorRows
import GoSem.ClaimSeven
namespace Go.Proofs.YtngikdcgcakaaaaDoor
namespace Rows

/-- THE TIED CARD OF 'signetlaw16.KeysetNames'. -/
def keysetNamesCard : Claim7 := { stood := { row := keysetNamesRow, standIns := [], harness := (true, "efd8578acbcd2f6d339c3190c0aa52d9a17d7476a52a11ca775df6c2c590e733"), looks := false }, kinds := [], alts := [], laidByText := true, laidKinds := [.data], laidTests := true, laidLooks := .later }
def KeysetNamesCardSaid : Prop := Claim7.holds Tryd.pinned (.plain (OpenSpec.ofChange keysetNamesSpec)) keysetNamesCard

/-- THE TIED CARD OF 'signetlaw16.KeysetBinds'. -/
def keysetBindsCard : Claim7 := { stood := { row := keysetBindsRow, standIns := [], harness := (true, "efd8578acbcd2f6d339c3190c0aa52d9a17d7476a52a11ca775df6c2c590e733"), looks := false }, kinds := [], alts := [], laidByText := true, laidKinds := [.data], laidTests := true, laidLooks := .later }
def KeysetBindsCardSaid : Prop := Claim7.holds Tryd.pinned (.plain (OpenSpec.ofChange keysetBindsSpec)) keysetBindsCard

/-- THE TIED CARD OF 'signetlaw25.RulesPrints'. -/
def rulesPrintsCard : Claim7 := { stood := { row := rulesPrintsRow, standIns := [], harness := (true, "efd8578acbcd2f6d339c3190c0aa52d9a17d7476a52a11ca775df6c2c590e733"), looks := false }, kinds := [], alts := [], laidByText := true, laidKinds := [.data, .widerDeep, .data, .pinned], laidTests := true, laidLooks := .later }
def RulesPrintsCardSaid : Prop := Claim7.holds Tryd.pinned (.plain (OpenSpec.ofChange rulesPrintsSpec)) rulesPrintsCard

/-- THE SECOND FORM's CARD OF 'signetlaw16.KeysetNames'. -/
def keysetNamesUptoCard : Claim7 := { stood := { row := keysetNamesUptoRow, standIns := [], harness := (true, "efd8578acbcd2f6d339c3190c0aa52d9a17d7476a52a11ca775df6c2c590e733"), looks := false }, kinds := [], alts := [], laidByText := true, laidKinds := [.data], laidTests := true, laidLooks := .later }
def KeysetNamesUptoCardSaid : Prop := Claim7.holds Tryd.pinned (.plain (OpenSpec.upto keysetNamesSpec)) keysetNamesUptoCard

/-- THE SECOND FORM's CARD OF 'signetlaw16.KeysetBinds'. -/
def keysetBindsUptoCard : Claim7 := { stood := { row := keysetBindsUptoRow, standIns := [], harness := (true, "efd8578acbcd2f6d339c3190c0aa52d9a17d7476a52a11ca775df6c2c590e733"), looks := false }, kinds := [], alts := [], laidByText := true, laidKinds := [.data], laidTests := true, laidLooks := .later }
def KeysetBindsUptoCardSaid : Prop := Claim7.holds Tryd.pinned (.plain (OpenSpec.upto keysetBindsSpec)) keysetBindsUptoCard

/-- THE SECOND FORM's CARD OF 'signetlaw25.RulesPrints'. -/
def rulesPrintsUptoCard : Claim7 := { stood := { row := rulesPrintsUptoRow, standIns := [], harness := (true, "efd8578acbcd2f6d339c3190c0aa52d9a17d7476a52a11ca775df6c2c590e733"), looks := false }, kinds := [], alts := [], laidByText := true, laidKinds := [.data, .widerDeep, .data, .pinned], laidTests := true, laidLooks := .later }
def RulesPrintsUptoCardSaid : Prop := Claim7.holds Tryd.pinned (.plain (OpenSpec.upto rulesPrintsSpec)) rulesPrintsUptoCard
end Rows
end Go.Proofs.YtngikdcgcakaaaaDoor
