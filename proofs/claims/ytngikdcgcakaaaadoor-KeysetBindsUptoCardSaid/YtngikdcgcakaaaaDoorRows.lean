/-
  NARROWER THAN 'FOR EVERY INPUT', by the rows' own cells (each row's printed sentence says how): KeysetNames: laid · KeysetBinds: laid · RulesPrints: laid.
  DERIVED. THE GIVEN ROWS OF THIS SEAT. 3 by the template 'for every input the law returns true; each argument reads behind the call as it read before'; 0 by the template 'total and deterministic' (their statements: YtngikdcgcakaaaaDoorTotals.lean).
  GIVEN WITH THE SEED: the statements are not yours to turn. If you find one false, say at which input.
  Laid BY PROGRAM, IN A SANDBOX (cutbox-rows.mjs): the forced cells as the released guide's own fill.sh prints them over the translation 8553ddf822e54f90… (all of the seat's roots in one cut). By AI agents, Wed Nov 11 2026. No macro, syntax, notation, axiom, sorry.
-/
import Derived.Test.YtngikdcgcakaaaaDoorChecked
import GoSem.PinnedTables
import GoSem.Claim
import GoSem.ClaimJoined
import GoSem.ClaimMapViews
import Derived.JoinedTies
import Derived.KernelRfl
namespace Go.Proofs.YtngikdcgcakaaaaDoor
/- THE CELL 'sum', in the pinned program and in every row, IS THE sha256 OF THE DUMP (.gsa) THAT YtngikdcgcakaaaaDoorProg.lean LOADS. Nothing in Lean hashes anything: it is a label: what it is worth is what the hold of that sum in a sandbox is worth. -/
noncomputable def Tryd.pinned : Pinned := { name := "ytngikdcgcakaaaadoor", sum := "8553ddf822e54f907fefcda91b3805e774b7b6b6968bf4bcc846cca1cb3ba11f", checked := Tryd.checked }
namespace Rows
def none {H : Type} : Left H := { results := [], args := [] }

/- WHAT THE LISTED PACKAGE-LEVEL VARIABLES READ AS WHEN THE CALL BEGINS. Each datum BY PROGRAM (the guide's laid-datum.mjs) off the statement by which the dump's own 'gosem.cut.vars' lays the variable. In a bare row this is a premise. The card (YtngikdcgcakaaaaDoorCards.lean) ties it to the program's text. -/
def laid_signet_keyset_names {H : Type} : DataW H := .agg [.lit (.string []), .lit (.string [72, 83, 50, 53, 54]), .lit (.string [72, 83, 51, 56, 52]), .lit (.string [72, 83, 53, 49, 50]), .lit (.string [82, 83, 50, 53, 54]), .lit (.string [82, 83, 51, 56, 52]), .lit (.string [82, 83, 53, 49, 50]), .lit (.string [80, 83, 50, 53, 54]), .lit (.string [80, 83, 51, 56, 52]), .lit (.string [80, 83, 53, 49, 50]), .lit (.string [69, 83, 50, 53, 54]), .lit (.string [69, 83, 51, 56, 52]), .lit (.string [69, 100, 68, 83, 65])]
def laid_unicode_utf8_acceptRanges {H : Type} : DataW H := .agg [.agg [.lit (.int .u8 128), .lit (.int .u8 191)], .agg [.lit (.int .u8 160), .lit (.int .u8 191)], .agg [.lit (.int .u8 128), .lit (.int .u8 159)], .agg [.lit (.int .u8 144), .lit (.int .u8 191)], .agg [.lit (.int .u8 128), .lit (.int .u8 143)], .agg [.lit (.int .u8 0), .lit (.int .u8 0)], .agg [.lit (.int .u8 0), .lit (.int .u8 0)], .agg [.lit (.int .u8 0), .lit (.int .u8 0)], .agg [.lit (.int .u8 0), .lit (.int .u8 0)], .agg [.lit (.int .u8 0), .lit (.int .u8 0)], .agg [.lit (.int .u8 0), .lit (.int .u8 0)], .agg [.lit (.int .u8 0), .lit (.int .u8 0)], .agg [.lit (.int .u8 0), .lit (.int .u8 0)], .agg [.lit (.int .u8 0), .lit (.int .u8 0)], .agg [.lit (.int .u8 0), .lit (.int .u8 0)], .agg [.lit (.int .u8 0), .lit (.int .u8 0)]]
def laid_signet_rules_keywords {H : Type} : DataW H := .slice [.lit (.string [97, 110, 100]), .lit (.string [111, 114]), .lit (.string [110, 111, 116]), .lit (.string [104, 97, 115]), .lit (.string [99, 111, 110, 116, 97, 105, 110, 115]), .lit (.string [116, 114, 117, 101]), .lit (.string [102, 97, 108, 115, 101]), .lit (.string [110, 117, 108, 108])] []
def laid_signet_rules_operators {H : Type} : DataW H := .slice [.agg [.lit (.string [33, 61]), .lit (.int .i64 6)], .agg [.lit (.string [60, 61]), .lit (.int .i64 8)], .agg [.lit (.string [62, 61]), .lit (.int .i64 10)], .agg [.lit (.string [61]), .lit (.int .i64 5)], .agg [.lit (.string [60]), .lit (.int .i64 7)], .agg [.lit (.string [62]), .lit (.int .i64 9)]] []
/-- One of Go's own tables, pinned by name: the form's constant. -/
def laid_unicode_utf8_first : DataW Unit := Go.Pinned.utf8First

/-- 'signetlaw16.KeysetNames': WHATEVER THE INPUT: true; the input reads as it did. -/
def keysetNamesSpec : ChangeSpec := { name := "keysetNames", fn := fun _ => fun
  | [d1, d2] => { results := [.lit (.bool true)], args := [d1, d2] }
  | _ => none }
def keysetNamesRow : OpenClaim := { program := "ytngikdcgcakaaaadoor", sum := "8553ddf822e54f907fefcda91b3805e774b7b6b6968bf4bcc846cca1cb3ba11f", func := "signet/signetlaw16.KeysetNames", spec := "keysetNames", named := ["signet/keyset.names"], apart := false, laid := [("signet/keyset.names", laid_signet_keyset_names)] }
def KeysetNamesSaid : Prop := keysetNamesRow.holds Tryd.pinned (OpenSpec.ofChange keysetNamesSpec)

/-- ITS FALSE NEIGHBOUR: 'it returns false'. Refute it at one input. -/
def keysetNamesWrong : ChangeSpec := { name := "keysetNames", fn := fun _ => fun
  | [d1, d2] => { results := [.lit (.bool false)], args := [d1, d2] }
  | _ => none }
def KeysetNamesWrongFalsely : Prop := keysetNamesRow.holds Tryd.pinned (OpenSpec.ofChange keysetNamesWrong)

/-- 'signetlaw16.KeysetBinds': WHATEVER THE INPUT: true; the input reads as it did. -/
def keysetBindsSpec : ChangeSpec := { name := "keysetBinds", fn := fun _ => fun
  | [d1, d2] => { results := [.lit (.bool true)], args := [d1, d2] }
  | _ => none }
def keysetBindsRow : OpenClaim := { program := "ytngikdcgcakaaaadoor", sum := "8553ddf822e54f907fefcda91b3805e774b7b6b6968bf4bcc846cca1cb3ba11f", func := "signet/signetlaw16.KeysetBinds", spec := "keysetBinds", recurses := true, named := ["signet/keyset.names"], apart := false, laid := [("signet/keyset.names", laid_signet_keyset_names)] }
def KeysetBindsSaid : Prop := keysetBindsRow.holds Tryd.pinned (OpenSpec.ofChange keysetBindsSpec)

/-- ITS FALSE NEIGHBOUR: 'it returns false'. Refute it at one input. -/
def keysetBindsWrong : ChangeSpec := { name := "keysetBinds", fn := fun _ => fun
  | [d1, d2] => { results := [.lit (.bool false)], args := [d1, d2] }
  | _ => none }
def KeysetBindsWrongFalsely : Prop := keysetBindsRow.holds Tryd.pinned (OpenSpec.ofChange keysetBindsWrong)

/-- 'signetlaw25.RulesPrints': WHATEVER THE INPUT: true; the input reads as it did. -/
def rulesPrintsSpec : ChangeSpec := { name := "rulesPrints", fn := fun _ => fun
  | [d] => { results := [.lit (.bool true)], args := [d] }
  | _ => none }
def rulesPrintsRow : OpenClaim := { program := "ytngikdcgcakaaaadoor", sum := "8553ddf822e54f907fefcda91b3805e774b7b6b6968bf4bcc846cca1cb3ba11f", func := "signet/signetlaw25.RulesPrints", spec := "rulesPrints", inPlace := ["internal/bytealg.IndexByteString", "internal/bytealg.IndexString", "internal/abi.NoEscape"], unfollowed := true, recurses := true, named := ["unicode/utf8.first", "unicode/utf8.acceptRanges", "signet/rules.keywords", "signet/rules.operators", "internal/bytealg.MaxLen"], apart := false, laid := [("unicode/utf8.acceptRanges", laid_unicode_utf8_acceptRanges), ("signet/rules.keywords", laid_signet_rules_keywords), ("signet/rules.operators", laid_signet_rules_operators), ("unicode/utf8.first", laid_unicode_utf8_first)] }
def RulesPrintsSaid : Prop := rulesPrintsRow.holds Tryd.pinned (OpenSpec.ofChange rulesPrintsSpec)

/-- ITS FALSE NEIGHBOUR: 'it returns false'. Refute it at one input. -/
def rulesPrintsWrong : ChangeSpec := { name := "rulesPrints", fn := fun _ => fun
  | [d] => { results := [.lit (.bool false)], args := [d] }
  | _ => none }
def RulesPrintsWrongFalsely : Prop := rulesPrintsRow.holds Tryd.pinned (OpenSpec.ofChange rulesPrintsWrong)

/- THE SECOND FORM. 'bulk': how many values and letters a reading holds, each counted each time it is reached (what is shared counts as often as it is met; a slice's spare places count too). A statement '..UptoSaid' is the law's where the arguments, and the package variables that the reading takes, are together of bulk at most 1048576: NARROWER than '..Said'. Prove '..Said' where nothing that the law and all that it calls make is longer than what came in: it says more and counts as full. Else prove '..UptoSaid'. A law counts once. -/
mutual
def uptoBulk {H : Type} : DataW H → Nat
  | .lit (.string bytes) => bytes.length + 1
  | .lit _ => 1
  | .nil => 1
  | .ptr d => uptoBulk d + 1
  | .slice elems spare => uptoBulkAll elems + uptoBulkAll spare + 1
  | .agg parts => uptoBulkAll parts + 1
  | .iface _ d => uptoBulk d + 1
  | .map entries => uptoBulkEntries entries + 1
  | .held _ => 1
def uptoBulkAll {H : Type} : List (DataW H) → Nat
  | [] => 0
  | d :: r => uptoBulk d + uptoBulkAll r
def uptoBulkEntries {H : Type} : List (Lit × DataW H) → Nat
  | [] => 0
  | x :: r => uptoBulkEntry x + uptoBulkEntries r
def uptoBulkEntry {H : Type} : Lit × DataW H → Nat
  | (.string bytes, d) => bytes.length + uptoBulk d + 1
  | (_, d) => uptoBulk d + 1
 end
def uptoSmall : (H : Type) → List (DataW H) → Bool := fun _ ds => decide (uptoBulkAll ds ≤ 1048576)
def OpenSpec.upto (s : _root_.Go.ChangeSpec) : _root_.Go.OpenSpec := { _root_.Go.OpenSpec.ofChange s with cond := some uptoSmall }

/-- 'signetlaw16.KeysetNames', WHERE WHAT IT READS IS OF BULK AT MOST 1048576: true; the input reads as it did. -/
def keysetNamesUptoRow : OpenClaim := { program := "ytngikdcgcakaaaadoor", sum := "8553ddf822e54f907fefcda91b3805e774b7b6b6968bf4bcc846cca1cb3ba11f", func := "signet/signetlaw16.KeysetNames", spec := "keysetNames", named := ["signet/keyset.names"], apart := false, laid := [("signet/keyset.names", laid_signet_keyset_names)], narrowed := true }
def KeysetNamesUptoSaid : Prop := keysetNamesUptoRow.holds Tryd.pinned (OpenSpec.upto keysetNamesSpec)

/-- 'signetlaw16.KeysetBinds', WHERE WHAT IT READS IS OF BULK AT MOST 1048576: true; the input reads as it did. -/
def keysetBindsUptoRow : OpenClaim := { program := "ytngikdcgcakaaaadoor", sum := "8553ddf822e54f907fefcda91b3805e774b7b6b6968bf4bcc846cca1cb3ba11f", func := "signet/signetlaw16.KeysetBinds", spec := "keysetBinds", recurses := true, named := ["signet/keyset.names"], apart := false, laid := [("signet/keyset.names", laid_signet_keyset_names)], narrowed := true }
def KeysetBindsUptoSaid : Prop := keysetBindsUptoRow.holds Tryd.pinned (OpenSpec.upto keysetBindsSpec)

/-- 'signetlaw25.RulesPrints', WHERE WHAT IT READS IS OF BULK AT MOST 1048576: true; the input reads as it did. -/
def rulesPrintsUptoRow : OpenClaim := { program := "ytngikdcgcakaaaadoor", sum := "8553ddf822e54f907fefcda91b3805e774b7b6b6968bf4bcc846cca1cb3ba11f", func := "signet/signetlaw25.RulesPrints", spec := "rulesPrints", inPlace := ["internal/bytealg.IndexByteString", "internal/bytealg.IndexString", "internal/abi.NoEscape"], unfollowed := true, recurses := true, named := ["unicode/utf8.first", "unicode/utf8.acceptRanges", "signet/rules.keywords", "signet/rules.operators", "internal/bytealg.MaxLen"], apart := false, laid := [("unicode/utf8.acceptRanges", laid_unicode_utf8_acceptRanges), ("signet/rules.keywords", laid_signet_rules_keywords), ("signet/rules.operators", laid_signet_rules_operators), ("unicode/utf8.first", laid_unicode_utf8_first)], narrowed := true }
def RulesPrintsUptoSaid : Prop := rulesPrintsUptoRow.holds Tryd.pinned (OpenSpec.upto rulesPrintsSpec)

end Rows
end Go.Proofs.YtngikdcgcakaaaaDoor
