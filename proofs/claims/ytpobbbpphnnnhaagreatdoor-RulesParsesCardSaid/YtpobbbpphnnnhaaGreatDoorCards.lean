/-
  DERIVED. GIVEN WITH THE SEED: THE CARDS: each row of YtpobbbpphnnnhaaGreatDoorRows.lean that lists a variable, with what it lists TIED to the program's text (the seventh form; the later family's looks); each row that meets fmt, with fmt's text TOLD by the authors' own Lean function (tested against real Go, not proved from fmt's source: count such statements apart). THE CARD IS WHAT COUNTS. Prove the row's statement (the work); the ties are given (YtpobbbpphnnnhaaGreatDoorTie.lean); close each card by the builder's one call (the guide's Derived/Test/ToyasCard.lean, 'card_holds'). Laid BY PROGRAM, IN A SANDBOX (cutbox-door.mjs). By AI agents, Wed Nov 11 2026. No macro, syntax, notation, axiom, sorry.
-/
import Derived.Test.YtpobbbpphnnnhaaGreatDoorRows
import GoSem.ClaimSeven
namespace Go.Proofs.YtpobbbpphnnnhaaGreatDoor
namespace Rows

/-- THE TIED CARD OF 'signetlaw25.RulesParses'. -/
def rulesParsesCard : Claim7 := { stood := { row := rulesParsesRow, standIns := [], harness := (true, "ac2b011f42a962d5be9e0f18dab9e2a0164211b2b71a4a5b14cf12708c826548"), looks := true }, kinds := [], alts := [], laidByText := true, laidKinds := [.data, .widerDeep, .data, .pinned], laidTests := true, laidLooks := .later }
def RulesParsesCardSaid : Prop := Claim7.holds Tryz.pinned (.plain (OpenSpec.ofChange rulesParsesSpec)) rulesParsesCard

/-- THE SECOND FORM's CARD OF 'signetlaw25.RulesParses'. -/
def rulesParsesUptoCard : Claim7 := { stood := { row := rulesParsesUptoRow, standIns := [], harness := (true, "ac2b011f42a962d5be9e0f18dab9e2a0164211b2b71a4a5b14cf12708c826548"), looks := true }, kinds := [], alts := [], laidByText := true, laidKinds := [.data, .widerDeep, .data, .pinned], laidTests := true, laidLooks := .later }
def RulesParsesUptoCardSaid : Prop := Claim7.holds Tryz.pinned (.plain (OpenSpec.upto rulesParsesSpec)) rulesParsesUptoCard
end Rows
end Go.Proofs.YtpobbbpphnnnhaaGreatDoor
