/-
  NARROWER THAN 'FOR EVERY INPUT', by the rows' own cells (each row's printed sentence says how): HeaderReads: laid · HeaderNone: laid · HeaderTyp: laid · HeaderBack: laid · HeaderClosed: laid · ClaimsParses: laid · ClaimsSaid: laid · ClaimsEach: laid · ClaimsClock: laid · ClaimsWritten: laid · TopPolicy: laid.
  DERIVED. THE GIVEN ROWS OF THIS SEAT. 11 by the template 'for every input the law returns true; each argument reads behind the call as it read before'; 0 by the template 'total and deterministic' (their statements: YticplgndjpljiaaDoorTotals.lean).
  GIVEN WITH THE SEED: the statements are not yours to turn. If you find one false, say at which input.
  Laid BY PROGRAM, IN A SANDBOX (cutbox-rows.mjs): the forced cells as the released guide's own fill.sh prints them over the translation 32f27876ea2b332d… (all of the seat's roots in one cut). By AI agents, Wed Nov 11 2026. No macro, syntax, notation, axiom, sorry.
-/
import Derived.Test.YticplgndjpljiaaDoorChecked
import GoSem.PinnedTables
import GoSem.Claim
import GoSem.ClaimJoined
import GoSem.ClaimMapViews
import Derived.JoinedTies
import Derived.KernelRfl
namespace Go.Proofs.YticplgndjpljiaaDoor
/- THE CELL 'sum', in the pinned program and in every row, IS THE sha256 OF THE DUMP (.gsa) THAT YticplgndjpljiaaDoorProg.lean LOADS. Nothing in Lean hashes anything: it is a label: what it is worth is what the hold of that sum in a sandbox is worth. -/
noncomputable def Tryd.pinned : Pinned := { name := "yticplgndjpljiaadoor", sum := "32f27876ea2b332d4b06f4842da09b605b058903a2c3da04e2bd34bc0b66274f", checked := Tryd.checked }
namespace Rows
def none {H : Type} : Left H := { results := [], args := [] }

/- WHAT THE LISTED PACKAGE-LEVEL VARIABLES READ AS WHEN THE CALL BEGINS. Each datum BY PROGRAM (the guide's laid-datum.mjs) off the statement by which the dump's own 'gosem.cut.vars' lays the variable. In a bare row this is a premise. The card (YticplgndjpljiaaDoorCards.lean) ties it to the program's text. -/
def laid_unicode_utf8_acceptRanges {H : Type} : DataW H := .agg [.agg [.lit (.int .u8 128), .lit (.int .u8 191)], .agg [.lit (.int .u8 160), .lit (.int .u8 191)], .agg [.lit (.int .u8 128), .lit (.int .u8 159)], .agg [.lit (.int .u8 144), .lit (.int .u8 191)], .agg [.lit (.int .u8 128), .lit (.int .u8 143)], .agg [.lit (.int .u8 0), .lit (.int .u8 0)], .agg [.lit (.int .u8 0), .lit (.int .u8 0)], .agg [.lit (.int .u8 0), .lit (.int .u8 0)], .agg [.lit (.int .u8 0), .lit (.int .u8 0)], .agg [.lit (.int .u8 0), .lit (.int .u8 0)], .agg [.lit (.int .u8 0), .lit (.int .u8 0)], .agg [.lit (.int .u8 0), .lit (.int .u8 0)], .agg [.lit (.int .u8 0), .lit (.int .u8 0)], .agg [.lit (.int .u8 0), .lit (.int .u8 0)], .agg [.lit (.int .u8 0), .lit (.int .u8 0)], .agg [.lit (.int .u8 0), .lit (.int .u8 0)]]
def laid_signet_keyset_names {H : Type} : DataW H := .agg [.lit (.string []), .lit (.string [72, 83, 50, 53, 54]), .lit (.string [72, 83, 51, 56, 52]), .lit (.string [72, 83, 53, 49, 50]), .lit (.string [82, 83, 50, 53, 54]), .lit (.string [82, 83, 51, 56, 52]), .lit (.string [82, 83, 53, 49, 50]), .lit (.string [80, 83, 50, 53, 54]), .lit (.string [80, 83, 51, 56, 52]), .lit (.string [80, 83, 53, 49, 50]), .lit (.string [69, 83, 50, 53, 54]), .lit (.string [69, 83, 51, 56, 52]), .lit (.string [69, 100, 68, 83, 65])]
/-- One of Go's own tables, pinned by name: the form's constant. -/
def laid_unicode_utf8_first : DataW Unit := Go.Pinned.utf8First

/-- 'signetlaw17.HeaderReads': WHATEVER THE INPUT: true; the input reads as it did. -/
def headerReadsSpec : ChangeSpec := { name := "headerReads", fn := fun _ => fun
  | [d] => { results := [.lit (.bool true)], args := [d] }
  | _ => none }
def headerReadsRow : OpenClaim := { program := "yticplgndjpljiaadoor", sum := "32f27876ea2b332d4b06f4842da09b605b058903a2c3da04e2bd34bc0b66274f", func := "signet/signetlaw17.HeaderReads", spec := "headerReads", inPlace := ["internal/bytealg.IndexByteString", "internal/bytealg.IndexString"], unfollowed := true, recurses := true, named := ["unicode/utf8.first", "unicode/utf8.acceptRanges", "signet/keyset.names", "internal/bytealg.MaxLen"], apart := false, laid := [("unicode/utf8.acceptRanges", laid_unicode_utf8_acceptRanges), ("signet/keyset.names", laid_signet_keyset_names), ("unicode/utf8.first", laid_unicode_utf8_first)] }
def HeaderReadsSaid : Prop := headerReadsRow.holds Tryd.pinned (OpenSpec.ofChange headerReadsSpec)

/-- ITS FALSE NEIGHBOUR: 'it returns false'. Refute it at one input. -/
def headerReadsWrong : ChangeSpec := { name := "headerReads", fn := fun _ => fun
  | [d] => { results := [.lit (.bool false)], args := [d] }
  | _ => none }
def HeaderReadsWrongFalsely : Prop := headerReadsRow.holds Tryd.pinned (OpenSpec.ofChange headerReadsWrong)

/-- 'signetlaw17.HeaderNone': WHATEVER THE INPUT: true; the input reads as it did. -/
def headerNoneSpec : ChangeSpec := { name := "headerNone", fn := fun _ => fun
  | [d1, d2, d3, d4] => { results := [.lit (.bool true)], args := [d1, d2, d3, d4] }
  | _ => none }
def headerNoneRow : OpenClaim := { program := "yticplgndjpljiaadoor", sum := "32f27876ea2b332d4b06f4842da09b605b058903a2c3da04e2bd34bc0b66274f", func := "signet/signetlaw17.HeaderNone", spec := "headerNone", inPlace := ["internal/bytealg.IndexByteString", "internal/bytealg.IndexString", "internal/abi.NoEscape"], unfollowed := true, recurses := true, named := ["unicode/utf8.first", "unicode/utf8.acceptRanges", "signet/keyset.names", "internal/bytealg.MaxLen"], apart := false, laid := [("unicode/utf8.acceptRanges", laid_unicode_utf8_acceptRanges), ("signet/keyset.names", laid_signet_keyset_names), ("unicode/utf8.first", laid_unicode_utf8_first)] }
def HeaderNoneSaid : Prop := headerNoneRow.holds Tryd.pinned (OpenSpec.ofChange headerNoneSpec)

/-- ITS FALSE NEIGHBOUR: 'it returns false'. Refute it at one input. -/
def headerNoneWrong : ChangeSpec := { name := "headerNone", fn := fun _ => fun
  | [d1, d2, d3, d4] => { results := [.lit (.bool false)], args := [d1, d2, d3, d4] }
  | _ => none }
def HeaderNoneWrongFalsely : Prop := headerNoneRow.holds Tryd.pinned (OpenSpec.ofChange headerNoneWrong)

/-- 'signetlaw17.HeaderTyp': WHATEVER THE INPUT: true; the input reads as it did. -/
def headerTypSpec : ChangeSpec := { name := "headerTyp", fn := fun _ => fun
  | [d1, d2] => { results := [.lit (.bool true)], args := [d1, d2] }
  | _ => none }
def headerTypRow : OpenClaim := { program := "yticplgndjpljiaadoor", sum := "32f27876ea2b332d4b06f4842da09b605b058903a2c3da04e2bd34bc0b66274f", func := "signet/signetlaw17.HeaderTyp", spec := "headerTyp", inPlace := ["internal/bytealg.IndexByteString", "internal/bytealg.IndexString", "internal/abi.NoEscape"], unfollowed := true, recurses := true, named := ["unicode/utf8.first", "unicode/utf8.acceptRanges", "signet/keyset.names", "internal/bytealg.MaxLen"], apart := false, laid := [("unicode/utf8.acceptRanges", laid_unicode_utf8_acceptRanges), ("signet/keyset.names", laid_signet_keyset_names), ("unicode/utf8.first", laid_unicode_utf8_first)] }
def HeaderTypSaid : Prop := headerTypRow.holds Tryd.pinned (OpenSpec.ofChange headerTypSpec)

/-- ITS FALSE NEIGHBOUR: 'it returns false'. Refute it at one input. -/
def headerTypWrong : ChangeSpec := { name := "headerTyp", fn := fun _ => fun
  | [d1, d2] => { results := [.lit (.bool false)], args := [d1, d2] }
  | _ => none }
def HeaderTypWrongFalsely : Prop := headerTypRow.holds Tryd.pinned (OpenSpec.ofChange headerTypWrong)

/-- 'signetlaw17.HeaderBack': WHATEVER THE INPUT: true; the input reads as it did. -/
def headerBackSpec : ChangeSpec := { name := "headerBack", fn := fun _ => fun
  | [d1, d2] => { results := [.lit (.bool true)], args := [d1, d2] }
  | _ => none }
def headerBackRow : OpenClaim := { program := "yticplgndjpljiaadoor", sum := "32f27876ea2b332d4b06f4842da09b605b058903a2c3da04e2bd34bc0b66274f", func := "signet/signetlaw17.HeaderBack", spec := "headerBack", inPlace := ["internal/bytealg.IndexByteString", "internal/bytealg.IndexString", "internal/abi.NoEscape"], unfollowed := true, recurses := true, named := ["unicode/utf8.first", "unicode/utf8.acceptRanges", "signet/keyset.names", "internal/bytealg.MaxLen"], apart := false, laid := [("unicode/utf8.acceptRanges", laid_unicode_utf8_acceptRanges), ("signet/keyset.names", laid_signet_keyset_names), ("unicode/utf8.first", laid_unicode_utf8_first)] }
def HeaderBackSaid : Prop := headerBackRow.holds Tryd.pinned (OpenSpec.ofChange headerBackSpec)

/-- ITS FALSE NEIGHBOUR: 'it returns false'. Refute it at one input. -/
def headerBackWrong : ChangeSpec := { name := "headerBack", fn := fun _ => fun
  | [d1, d2] => { results := [.lit (.bool false)], args := [d1, d2] }
  | _ => none }
def HeaderBackWrongFalsely : Prop := headerBackRow.holds Tryd.pinned (OpenSpec.ofChange headerBackWrong)

/-- 'signetlaw17.HeaderClosed': WHATEVER THE INPUT: true; the input reads as it did. -/
def headerClosedSpec : ChangeSpec := { name := "headerClosed", fn := fun _ => fun
  | [d] => { results := [.lit (.bool true)], args := [d] }
  | _ => none }
def headerClosedRow : OpenClaim := { program := "yticplgndjpljiaadoor", sum := "32f27876ea2b332d4b06f4842da09b605b058903a2c3da04e2bd34bc0b66274f", func := "signet/signetlaw17.HeaderClosed", spec := "headerClosed", inPlace := ["internal/bytealg.IndexByteString", "internal/bytealg.IndexString", "internal/abi.NoEscape"], unfollowed := true, recurses := true, named := ["unicode/utf8.first", "unicode/utf8.acceptRanges", "signet/keyset.names", "internal/bytealg.MaxLen"], apart := false, laid := [("unicode/utf8.acceptRanges", laid_unicode_utf8_acceptRanges), ("signet/keyset.names", laid_signet_keyset_names), ("unicode/utf8.first", laid_unicode_utf8_first)] }
def HeaderClosedSaid : Prop := headerClosedRow.holds Tryd.pinned (OpenSpec.ofChange headerClosedSpec)

/-- ITS FALSE NEIGHBOUR: 'it returns false'. Refute it at one input. -/
def headerClosedWrong : ChangeSpec := { name := "headerClosed", fn := fun _ => fun
  | [d] => { results := [.lit (.bool false)], args := [d] }
  | _ => none }
def HeaderClosedWrongFalsely : Prop := headerClosedRow.holds Tryd.pinned (OpenSpec.ofChange headerClosedWrong)

/-- 'signetlaw19.ClaimsParses': WHATEVER THE INPUT: true; the input reads as it did. -/
def claimsParsesSpec : ChangeSpec := { name := "claimsParses", fn := fun _ => fun
  | [d] => { results := [.lit (.bool true)], args := [d] }
  | _ => none }
def claimsParsesRow : OpenClaim := { program := "yticplgndjpljiaadoor", sum := "32f27876ea2b332d4b06f4842da09b605b058903a2c3da04e2bd34bc0b66274f", func := "signet/signetlaw19.ClaimsParses", spec := "claimsParses", inPlace := ["internal/bytealg.IndexByteString", "internal/bytealg.IndexString"], recurses := true, named := ["unicode/utf8.first", "unicode/utf8.acceptRanges", "internal/bytealg.MaxLen"], apart := false, laid := [("unicode/utf8.acceptRanges", laid_unicode_utf8_acceptRanges), ("unicode/utf8.first", laid_unicode_utf8_first)] }
def ClaimsParsesSaid : Prop := claimsParsesRow.holds Tryd.pinned (OpenSpec.ofChange claimsParsesSpec)

/-- ITS FALSE NEIGHBOUR: 'it returns false'. Refute it at one input. -/
def claimsParsesWrong : ChangeSpec := { name := "claimsParses", fn := fun _ => fun
  | [d] => { results := [.lit (.bool false)], args := [d] }
  | _ => none }
def ClaimsParsesWrongFalsely : Prop := claimsParsesRow.holds Tryd.pinned (OpenSpec.ofChange claimsParsesWrong)

/-- 'signetlaw19.ClaimsSaid': WHATEVER THE INPUT: true; the input reads as it did. -/
def claimsSaidSpec : ChangeSpec := { name := "claimsSaid", fn := fun _ => fun
  | [d] => { results := [.lit (.bool true)], args := [d] }
  | _ => none }
def claimsSaidRow : OpenClaim := { program := "yticplgndjpljiaadoor", sum := "32f27876ea2b332d4b06f4842da09b605b058903a2c3da04e2bd34bc0b66274f", func := "signet/signetlaw19.ClaimsSaid", spec := "claimsSaid", inPlace := ["internal/bytealg.IndexByteString", "internal/bytealg.IndexString"], named := ["unicode/utf8.first", "unicode/utf8.acceptRanges", "internal/bytealg.MaxLen"], apart := false, laid := [("unicode/utf8.acceptRanges", laid_unicode_utf8_acceptRanges), ("unicode/utf8.first", laid_unicode_utf8_first)] }
def ClaimsSaidSaid : Prop := claimsSaidRow.holds Tryd.pinned (OpenSpec.ofChange claimsSaidSpec)

/-- ITS FALSE NEIGHBOUR: 'it returns false'. Refute it at one input. -/
def claimsSaidWrong : ChangeSpec := { name := "claimsSaid", fn := fun _ => fun
  | [d] => { results := [.lit (.bool false)], args := [d] }
  | _ => none }
def ClaimsSaidWrongFalsely : Prop := claimsSaidRow.holds Tryd.pinned (OpenSpec.ofChange claimsSaidWrong)

/-- 'signetlaw19.ClaimsEach': WHATEVER THE INPUT: true; the input reads as it did. -/
def claimsEachSpec : ChangeSpec := { name := "claimsEach", fn := fun _ => fun
  | [d1, d2] => { results := [.lit (.bool true)], args := [d1, d2] }
  | _ => none }
def claimsEachRow : OpenClaim := { program := "yticplgndjpljiaadoor", sum := "32f27876ea2b332d4b06f4842da09b605b058903a2c3da04e2bd34bc0b66274f", func := "signet/signetlaw19.ClaimsEach", spec := "claimsEach", inPlace := ["internal/bytealg.IndexByteString", "internal/bytealg.IndexString"], recurses := true, named := ["unicode/utf8.first", "unicode/utf8.acceptRanges", "internal/bytealg.MaxLen"], apart := false, laid := [("unicode/utf8.acceptRanges", laid_unicode_utf8_acceptRanges), ("unicode/utf8.first", laid_unicode_utf8_first)] }
def ClaimsEachSaid : Prop := claimsEachRow.holds Tryd.pinned (OpenSpec.ofChange claimsEachSpec)

/-- ITS FALSE NEIGHBOUR: 'it returns false'. Refute it at one input. -/
def claimsEachWrong : ChangeSpec := { name := "claimsEach", fn := fun _ => fun
  | [d1, d2] => { results := [.lit (.bool false)], args := [d1, d2] }
  | _ => none }
def ClaimsEachWrongFalsely : Prop := claimsEachRow.holds Tryd.pinned (OpenSpec.ofChange claimsEachWrong)

/-- 'signetlaw19.ClaimsClock': WHATEVER THE INPUT: true; the input reads as it did. -/
def claimsClockSpec : ChangeSpec := { name := "claimsClock", fn := fun _ => fun
  | [d1, d2, d3, d4] => { results := [.lit (.bool true)], args := [d1, d2, d3, d4] }
  | _ => none }
def claimsClockRow : OpenClaim := { program := "yticplgndjpljiaadoor", sum := "32f27876ea2b332d4b06f4842da09b605b058903a2c3da04e2bd34bc0b66274f", func := "signet/signetlaw19.ClaimsClock", spec := "claimsClock", inPlace := ["internal/bytealg.IndexByteString", "internal/bytealg.IndexString"], named := ["unicode/utf8.first", "unicode/utf8.acceptRanges", "internal/bytealg.MaxLen"], apart := false, laid := [("unicode/utf8.acceptRanges", laid_unicode_utf8_acceptRanges), ("unicode/utf8.first", laid_unicode_utf8_first)] }
def ClaimsClockSaid : Prop := claimsClockRow.holds Tryd.pinned (OpenSpec.ofChange claimsClockSpec)

/-- ITS FALSE NEIGHBOUR: 'it returns false'. Refute it at one input. -/
def claimsClockWrong : ChangeSpec := { name := "claimsClock", fn := fun _ => fun
  | [d1, d2, d3, d4] => { results := [.lit (.bool false)], args := [d1, d2, d3, d4] }
  | _ => none }
def ClaimsClockWrongFalsely : Prop := claimsClockRow.holds Tryd.pinned (OpenSpec.ofChange claimsClockWrong)

/-- 'signetlaw19.ClaimsWritten': WHATEVER THE INPUT: true; the input reads as it did. -/
def claimsWrittenSpec : ChangeSpec := { name := "claimsWritten", fn := fun _ => fun
  | [d1, d2, d3] => { results := [.lit (.bool true)], args := [d1, d2, d3] }
  | _ => none }
def claimsWrittenRow : OpenClaim := { program := "yticplgndjpljiaadoor", sum := "32f27876ea2b332d4b06f4842da09b605b058903a2c3da04e2bd34bc0b66274f", func := "signet/signetlaw19.ClaimsWritten", spec := "claimsWritten", inPlace := ["internal/bytealg.IndexByteString", "internal/bytealg.IndexString", "internal/abi.NoEscape"], recurses := true, named := ["unicode/utf8.first", "unicode/utf8.acceptRanges", "internal/bytealg.MaxLen"], apart := false, laid := [("unicode/utf8.acceptRanges", laid_unicode_utf8_acceptRanges), ("unicode/utf8.first", laid_unicode_utf8_first)] }
def ClaimsWrittenSaid : Prop := claimsWrittenRow.holds Tryd.pinned (OpenSpec.ofChange claimsWrittenSpec)

/-- ITS FALSE NEIGHBOUR: 'it returns false'. Refute it at one input. -/
def claimsWrittenWrong : ChangeSpec := { name := "claimsWritten", fn := fun _ => fun
  | [d1, d2, d3] => { results := [.lit (.bool false)], args := [d1, d2, d3] }
  | _ => none }
def ClaimsWrittenWrongFalsely : Prop := claimsWrittenRow.holds Tryd.pinned (OpenSpec.ofChange claimsWrittenWrong)

/-- 'signettop.TopPolicy': WHATEVER THE INPUT: true; the input reads as it did. -/
def topPolicySpec : ChangeSpec := { name := "topPolicy", fn := fun _ => fun
  | [d] => { results := [.lit (.bool true)], args := [d] }
  | _ => none }
def topPolicyRow : OpenClaim := { program := "yticplgndjpljiaadoor", sum := "32f27876ea2b332d4b06f4842da09b605b058903a2c3da04e2bd34bc0b66274f", func := "signet/signettop.TopPolicy", spec := "topPolicy", inPlace := ["internal/bytealg.IndexByteString", "internal/bytealg.IndexString"], recurses := true, named := ["unicode/utf8.first", "unicode/utf8.acceptRanges", "internal/bytealg.MaxLen"], apart := false, laid := [("unicode/utf8.acceptRanges", laid_unicode_utf8_acceptRanges), ("unicode/utf8.first", laid_unicode_utf8_first)] }
def TopPolicySaid : Prop := topPolicyRow.holds Tryd.pinned (OpenSpec.ofChange topPolicySpec)

/-- ITS FALSE NEIGHBOUR: 'it returns false'. Refute it at one input. -/
def topPolicyWrong : ChangeSpec := { name := "topPolicy", fn := fun _ => fun
  | [d] => { results := [.lit (.bool false)], args := [d] }
  | _ => none }
def TopPolicyWrongFalsely : Prop := topPolicyRow.holds Tryd.pinned (OpenSpec.ofChange topPolicyWrong)

/- THE SECOND FORM. 'bulk': how many values and letters a reading holds, each counted each time it is reached (what is shared counts as often as it is met; a slice's spare places count too). A statement '..UptoSaid' is the law's where the arguments, and the package variables that the reading takes, are together of bulk at most 1048576: NARROWER than '..Said'. Prove '..Said' where nothing that the law and all that it calls make is longer than what came in: it says more and counts as full. Else prove '..UptoSaid'. A law counts once. -/
mutual
def uptoBulk {H : Type} : DataW H → Nat
  | .lit (.string bytes) => bytes.length + 1
  | .lit _ => 1
  | .nil => 1
  | .ptr d => uptoBulk d + 1
  | .slice elems spare => uptoBulkAll elems + uptoBulkAll spare + 1
  | .agg parts => uptoBulkAll parts + 1
  | .iface _ d => uptoBulk d + 1
  | .map entries => uptoBulkEntries entries + 1
  | .held _ => 1
def uptoBulkAll {H : Type} : List (DataW H) → Nat
  | [] => 0
  | d :: r => uptoBulk d + uptoBulkAll r
def uptoBulkEntries {H : Type} : List (Lit × DataW H) → Nat
  | [] => 0
  | x :: r => uptoBulkEntry x + uptoBulkEntries r
def uptoBulkEntry {H : Type} : Lit × DataW H → Nat
  | (.string bytes, d) => bytes.length + uptoBulk d + 1
  | (_, d) => uptoBulk d + 1
 end
def uptoSmall : (H : Type) → List (DataW H) → Bool := fun _ ds => decide (uptoBulkAll ds ≤ 1048576)
def OpenSpec.upto (s : _root_.Go.ChangeSpec) : _root_.Go.OpenSpec := { _root_.Go.OpenSpec.ofChange s with cond := some uptoSmall }

/-- 'signetlaw17.HeaderReads', WHERE WHAT IT READS IS OF BULK AT MOST 1048576: true; the input reads as it did. -/
def headerReadsUptoRow : OpenClaim := { program := "yticplgndjpljiaadoor", sum := "32f27876ea2b332d4b06f4842da09b605b058903a2c3da04e2bd34bc0b66274f", func := "signet/signetlaw17.HeaderReads", spec := "headerReads", inPlace := ["internal/bytealg.IndexByteString", "internal/bytealg.IndexString"], unfollowed := true, recurses := true, named := ["unicode/utf8.first", "unicode/utf8.acceptRanges", "signet/keyset.names", "internal/bytealg.MaxLen"], apart := false, laid := [("unicode/utf8.acceptRanges", laid_unicode_utf8_acceptRanges), ("signet/keyset.names", laid_signet_keyset_names), ("unicode/utf8.first", laid_unicode_utf8_first)], narrowed := true }
def HeaderReadsUptoSaid : Prop := headerReadsUptoRow.holds Tryd.pinned (OpenSpec.upto headerReadsSpec)

/-- 'signetlaw17.HeaderNone', WHERE WHAT IT READS IS OF BULK AT MOST 1048576: true; the input reads as it did. -/
def headerNoneUptoRow : OpenClaim := { program := "yticplgndjpljiaadoor", sum := "32f27876ea2b332d4b06f4842da09b605b058903a2c3da04e2bd34bc0b66274f", func := "signet/signetlaw17.HeaderNone", spec := "headerNone", inPlace := ["internal/bytealg.IndexByteString", "internal/bytealg.IndexString", "internal/abi.NoEscape"], unfollowed := true, recurses := true, named := ["unicode/utf8.first", "unicode/utf8.acceptRanges", "signet/keyset.names", "internal/bytealg.MaxLen"], apart := false, laid := [("unicode/utf8.acceptRanges", laid_unicode_utf8_acceptRanges), ("signet/keyset.names", laid_signet_keyset_names), ("unicode/utf8.first", laid_unicode_utf8_first)], narrowed := true }
def HeaderNoneUptoSaid : Prop := headerNoneUptoRow.holds Tryd.pinned (OpenSpec.upto headerNoneSpec)

/-- 'signetlaw17.HeaderTyp', WHERE WHAT IT READS IS OF BULK AT MOST 1048576: true; the input reads as it did. -/
def headerTypUptoRow : OpenClaim := { program := "yticplgndjpljiaadoor", sum := "32f27876ea2b332d4b06f4842da09b605b058903a2c3da04e2bd34bc0b66274f", func := "signet/signetlaw17.HeaderTyp", spec := "headerTyp", inPlace := ["internal/bytealg.IndexByteString", "internal/bytealg.IndexString", "internal/abi.NoEscape"], unfollowed := true, recurses := true, named := ["unicode/utf8.first", "unicode/utf8.acceptRanges", "signet/keyset.names", "internal/bytealg.MaxLen"], apart := false, laid := [("unicode/utf8.acceptRanges", laid_unicode_utf8_acceptRanges), ("signet/keyset.names", laid_signet_keyset_names), ("unicode/utf8.first", laid_unicode_utf8_first)], narrowed := true }
def HeaderTypUptoSaid : Prop := headerTypUptoRow.holds Tryd.pinned (OpenSpec.upto headerTypSpec)

/-- 'signetlaw17.HeaderBack', WHERE WHAT IT READS IS OF BULK AT MOST 1048576: true; the input reads as it did. -/
def headerBackUptoRow : OpenClaim := { program := "yticplgndjpljiaadoor", sum := "32f27876ea2b332d4b06f4842da09b605b058903a2c3da04e2bd34bc0b66274f", func := "signet/signetlaw17.HeaderBack", spec := "headerBack", inPlace := ["internal/bytealg.IndexByteString", "internal/bytealg.IndexString", "internal/abi.NoEscape"], unfollowed := true, recurses := true, named := ["unicode/utf8.first", "unicode/utf8.acceptRanges", "signet/keyset.names", "internal/bytealg.MaxLen"], apart := false, laid := [("unicode/utf8.acceptRanges", laid_unicode_utf8_acceptRanges), ("signet/keyset.names", laid_signet_keyset_names), ("unicode/utf8.first", laid_unicode_utf8_first)], narrowed := true }
def HeaderBackUptoSaid : Prop := headerBackUptoRow.holds Tryd.pinned (OpenSpec.upto headerBackSpec)

/-- 'signetlaw17.HeaderClosed', WHERE WHAT IT READS IS OF BULK AT MOST 1048576: true; the input reads as it did. -/
def headerClosedUptoRow : OpenClaim := { program := "yticplgndjpljiaadoor", sum := "32f27876ea2b332d4b06f4842da09b605b058903a2c3da04e2bd34bc0b66274f", func := "signet/signetlaw17.HeaderClosed", spec := "headerClosed", inPlace := ["internal/bytealg.IndexByteString", "internal/bytealg.IndexString", "internal/abi.NoEscape"], unfollowed := true, recurses := true, named := ["unicode/utf8.first", "unicode/utf8.acceptRanges", "signet/keyset.names", "internal/bytealg.MaxLen"], apart := false, laid := [("unicode/utf8.acceptRanges", laid_unicode_utf8_acceptRanges), ("signet/keyset.names", laid_signet_keyset_names), ("unicode/utf8.first", laid_unicode_utf8_first)], narrowed := true }
def HeaderClosedUptoSaid : Prop := headerClosedUptoRow.holds Tryd.pinned (OpenSpec.upto headerClosedSpec)

/-- 'signetlaw19.ClaimsParses', WHERE WHAT IT READS IS OF BULK AT MOST 1048576: true; the input reads as it did. -/
def claimsParsesUptoRow : OpenClaim := { program := "yticplgndjpljiaadoor", sum := "32f27876ea2b332d4b06f4842da09b605b058903a2c3da04e2bd34bc0b66274f", func := "signet/signetlaw19.ClaimsParses", spec := "claimsParses", inPlace := ["internal/bytealg.IndexByteString", "internal/bytealg.IndexString"], recurses := true, named := ["unicode/utf8.first", "unicode/utf8.acceptRanges", "internal/bytealg.MaxLen"], apart := false, laid := [("unicode/utf8.acceptRanges", laid_unicode_utf8_acceptRanges), ("unicode/utf8.first", laid_unicode_utf8_first)], narrowed := true }
def ClaimsParsesUptoSaid : Prop := claimsParsesUptoRow.holds Tryd.pinned (OpenSpec.upto claimsParsesSpec)

/-- 'signetlaw19.ClaimsSaid', WHERE WHAT IT READS IS OF BULK AT MOST 1048576: true; the input reads as it did. -/
def claimsSaidUptoRow : OpenClaim := { program := "yticplgndjpljiaadoor", sum := "32f27876ea2b332d4b06f4842da09b605b058903a2c3da04e2bd34bc0b66274f", func := "signet/signetlaw19.ClaimsSaid", spec := "claimsSaid", inPlace := ["internal/bytealg.IndexByteString", "internal/bytealg.IndexString"], named := ["unicode/utf8.first", "unicode/utf8.acceptRanges", "internal/bytealg.MaxLen"], apart := false, laid := [("unicode/utf8.acceptRanges", laid_unicode_utf8_acceptRanges), ("unicode/utf8.first", laid_unicode_utf8_first)], narrowed := true }
def ClaimsSaidUptoSaid : Prop := claimsSaidUptoRow.holds Tryd.pinned (OpenSpec.upto claimsSaidSpec)

/-- 'signetlaw19.ClaimsEach', WHERE WHAT IT READS IS OF BULK AT MOST 1048576: true; the input reads as it did. -/
def claimsEachUptoRow : OpenClaim := { program := "yticplgndjpljiaadoor", sum := "32f27876ea2b332d4b06f4842da09b605b058903a2c3da04e2bd34bc0b66274f", func := "signet/signetlaw19.ClaimsEach", spec := "claimsEach", inPlace := ["internal/bytealg.IndexByteString", "internal/bytealg.IndexString"], recurses := true, named := ["unicode/utf8.first", "unicode/utf8.acceptRanges", "internal/bytealg.MaxLen"], apart := false, laid := [("unicode/utf8.acceptRanges", laid_unicode_utf8_acceptRanges), ("unicode/utf8.first", laid_unicode_utf8_first)], narrowed := true }
def ClaimsEachUptoSaid : Prop := claimsEachUptoRow.holds Tryd.pinned (OpenSpec.upto claimsEachSpec)

/-- 'signetlaw19.ClaimsClock', WHERE WHAT IT READS IS OF BULK AT MOST 1048576: true; the input reads as it did. -/
def claimsClockUptoRow : OpenClaim := { program := "yticplgndjpljiaadoor", sum := "32f27876ea2b332d4b06f4842da09b605b058903a2c3da04e2bd34bc0b66274f", func := "signet/signetlaw19.ClaimsClock", spec := "claimsClock", inPlace := ["internal/bytealg.IndexByteString", "internal/bytealg.IndexString"], named := ["unicode/utf8.first", "unicode/utf8.acceptRanges", "internal/bytealg.MaxLen"], apart := false, laid := [("unicode/utf8.acceptRanges", laid_unicode_utf8_acceptRanges), ("unicode/utf8.first", laid_unicode_utf8_first)], narrowed := true }
def ClaimsClockUptoSaid : Prop := claimsClockUptoRow.holds Tryd.pinned (OpenSpec.upto claimsClockSpec)

/-- 'signetlaw19.ClaimsWritten', WHERE WHAT IT READS IS OF BULK AT MOST 1048576: true; the input reads as it did. -/
def claimsWrittenUptoRow : OpenClaim := { program := "yticplgndjpljiaadoor", sum := "32f27876ea2b332d4b06f4842da09b605b058903a2c3da04e2bd34bc0b66274f", func := "signet/signetlaw19.ClaimsWritten", spec := "claimsWritten", inPlace := ["internal/bytealg.IndexByteString", "internal/bytealg.IndexString", "internal/abi.NoEscape"], recurses := true, named := ["unicode/utf8.first", "unicode/utf8.acceptRanges", "internal/bytealg.MaxLen"], apart := false, laid := [("unicode/utf8.acceptRanges", laid_unicode_utf8_acceptRanges), ("unicode/utf8.first", laid_unicode_utf8_first)], narrowed := true }
def ClaimsWrittenUptoSaid : Prop := claimsWrittenUptoRow.holds Tryd.pinned (OpenSpec.upto claimsWrittenSpec)

/-- 'signettop.TopPolicy', WHERE WHAT IT READS IS OF BULK AT MOST 1048576: true; the input reads as it did. -/
def topPolicyUptoRow : OpenClaim := { program := "yticplgndjpljiaadoor", sum := "32f27876ea2b332d4b06f4842da09b605b058903a2c3da04e2bd34bc0b66274f", func := "signet/signettop.TopPolicy", spec := "topPolicy", inPlace := ["internal/bytealg.IndexByteString", "internal/bytealg.IndexString"], recurses := true, named := ["unicode/utf8.first", "unicode/utf8.acceptRanges", "internal/bytealg.MaxLen"], apart := false, laid := [("unicode/utf8.acceptRanges", laid_unicode_utf8_acceptRanges), ("unicode/utf8.first", laid_unicode_utf8_first)], narrowed := true }
def TopPolicyUptoSaid : Prop := topPolicyUptoRow.holds Tryd.pinned (OpenSpec.upto topPolicySpec)

end Rows
end Go.Proofs.YticplgndjpljiaaDoor
