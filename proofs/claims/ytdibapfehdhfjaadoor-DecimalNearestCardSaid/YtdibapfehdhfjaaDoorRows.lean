/-
  NARROWER THAN 'FOR EVERY INPUT', by the rows' own cells (each row's printed sentence says how): DecimalSays: laid · DecimalReads: laid · DecimalCompares: laid · DecimalNears: laid · DecimalOrders: laid · DecimalClimbs: laid · DecimalNearest: laid · DecimalBack: laid · DecimalWholes: laid · DecimalShifts: laid.
  DERIVED. THE GIVEN ROWS OF THIS SEAT. 10 by the template 'for every input the law returns true; each argument reads behind the call as it read before'; 0 by the template 'total and deterministic' (their statements: YtdibapfehdhfjaaDoorTotals.lean).
  GIVEN WITH THE SEED: the statements are not yours to turn. If you find one false, say at which input.
  Laid BY PROGRAM, IN A SANDBOX (cutbox-rows.mjs): the forced cells as the released guide's own fill.sh prints them over the translation 3a9b40a0266fceeb… (all of the seat's roots in one cut). By AI agents, Wed Nov 11 2026. No macro, syntax, notation, axiom, sorry.
-/
import Derived.Test.YtdibapfehdhfjaaDoorChecked
import GoSem.PinnedTables
import GoSem.Claim
import GoSem.ClaimJoined
import GoSem.ClaimMapViews
import Derived.JoinedTies
import Derived.KernelRfl
namespace Go.Proofs.YtdibapfehdhfjaaDoor
/- THE CELL 'sum', in the pinned program and in every row, IS THE sha256 OF THE DUMP (.gsa) THAT YtdibapfehdhfjaaDoorProg.lean LOADS. Nothing in Lean hashes anything: it is a label: what it is worth is what the hold of that sum in a sandbox is worth. -/
noncomputable def Tryd.pinned : Pinned := { name := "ytdibapfehdhfjaadoor", sum := "3a9b40a0266fceeb33370c77dc9a94cd1afcbd50c8f0fac762486c34906d3455", checked := Tryd.checked }
namespace Rows
def none {H : Type} : Left H := { results := [], args := [] }

/- WHAT THE LISTED PACKAGE-LEVEL VARIABLES READ AS WHEN THE CALL BEGINS. Each datum BY PROGRAM (the guide's laid-datum.mjs) off the statement by which the dump's own 'gosem.cut.vars' lays the variable. In a bare row this is a premise. The card (YtdibapfehdhfjaaDoorCards.lean) ties it to the program's text. -/
def laid_unicode_utf8_acceptRanges {H : Type} : DataW H := .agg [.agg [.lit (.int .u8 128), .lit (.int .u8 191)], .agg [.lit (.int .u8 160), .lit (.int .u8 191)], .agg [.lit (.int .u8 128), .lit (.int .u8 159)], .agg [.lit (.int .u8 144), .lit (.int .u8 191)], .agg [.lit (.int .u8 128), .lit (.int .u8 143)], .agg [.lit (.int .u8 0), .lit (.int .u8 0)], .agg [.lit (.int .u8 0), .lit (.int .u8 0)], .agg [.lit (.int .u8 0), .lit (.int .u8 0)], .agg [.lit (.int .u8 0), .lit (.int .u8 0)], .agg [.lit (.int .u8 0), .lit (.int .u8 0)], .agg [.lit (.int .u8 0), .lit (.int .u8 0)], .agg [.lit (.int .u8 0), .lit (.int .u8 0)], .agg [.lit (.int .u8 0), .lit (.int .u8 0)], .agg [.lit (.int .u8 0), .lit (.int .u8 0)], .agg [.lit (.int .u8 0), .lit (.int .u8 0)], .agg [.lit (.int .u8 0), .lit (.int .u8 0)]]
/-- One of Go's own tables, pinned by name: the form's constant. -/
def laid_unicode_utf8_first : DataW Unit := Go.Pinned.utf8First
def laid_math_bits_deBruijn32tab {H : Type} : DataW H := .agg [.lit (.int .u8 0), .lit (.int .u8 1), .lit (.int .u8 28), .lit (.int .u8 2), .lit (.int .u8 29), .lit (.int .u8 14), .lit (.int .u8 24), .lit (.int .u8 3), .lit (.int .u8 30), .lit (.int .u8 22), .lit (.int .u8 20), .lit (.int .u8 15), .lit (.int .u8 25), .lit (.int .u8 17), .lit (.int .u8 4), .lit (.int .u8 8), .lit (.int .u8 31), .lit (.int .u8 27), .lit (.int .u8 13), .lit (.int .u8 23), .lit (.int .u8 21), .lit (.int .u8 19), .lit (.int .u8 16), .lit (.int .u8 7), .lit (.int .u8 26), .lit (.int .u8 12), .lit (.int .u8 18), .lit (.int .u8 6), .lit (.int .u8 11), .lit (.int .u8 5), .lit (.int .u8 10), .lit (.int .u8 9)]
def laid_math_bits_deBruijn64tab {H : Type} : DataW H := .agg [.lit (.int .u8 0), .lit (.int .u8 1), .lit (.int .u8 56), .lit (.int .u8 2), .lit (.int .u8 57), .lit (.int .u8 49), .lit (.int .u8 28), .lit (.int .u8 3), .lit (.int .u8 61), .lit (.int .u8 58), .lit (.int .u8 42), .lit (.int .u8 50), .lit (.int .u8 38), .lit (.int .u8 29), .lit (.int .u8 17), .lit (.int .u8 4), .lit (.int .u8 62), .lit (.int .u8 47), .lit (.int .u8 59), .lit (.int .u8 36), .lit (.int .u8 45), .lit (.int .u8 43), .lit (.int .u8 51), .lit (.int .u8 22), .lit (.int .u8 53), .lit (.int .u8 39), .lit (.int .u8 33), .lit (.int .u8 30), .lit (.int .u8 24), .lit (.int .u8 18), .lit (.int .u8 12), .lit (.int .u8 5), .lit (.int .u8 63), .lit (.int .u8 55), .lit (.int .u8 48), .lit (.int .u8 27), .lit (.int .u8 60), .lit (.int .u8 41), .lit (.int .u8 37), .lit (.int .u8 16), .lit (.int .u8 46), .lit (.int .u8 35), .lit (.int .u8 44), .lit (.int .u8 21), .lit (.int .u8 52), .lit (.int .u8 32), .lit (.int .u8 23), .lit (.int .u8 11), .lit (.int .u8 54), .lit (.int .u8 26), .lit (.int .u8 40), .lit (.int .u8 15), .lit (.int .u8 34), .lit (.int .u8 20), .lit (.int .u8 31), .lit (.int .u8 10), .lit (.int .u8 25), .lit (.int .u8 14), .lit (.int .u8 19), .lit (.int .u8 9), .lit (.int .u8 13), .lit (.int .u8 8), .lit (.int .u8 7), .lit (.int .u8 6)]
def laid_internal_strconv_uint64pow10 {H : Type} : DataW H := .agg [.lit (.int .u64 1), .lit (.int .u64 10), .lit (.int .u64 100), .lit (.int .u64 1000), .lit (.int .u64 10000), .lit (.int .u64 100000), .lit (.int .u64 1000000), .lit (.int .u64 10000000), .lit (.int .u64 100000000), .lit (.int .u64 1000000000), .lit (.int .u64 10000000000), .lit (.int .u64 100000000000), .lit (.int .u64 1000000000000), .lit (.int .u64 10000000000000), .lit (.int .u64 100000000000000), .lit (.int .u64 1000000000000000), .lit (.int .u64 10000000000000000), .lit (.int .u64 100000000000000000), .lit (.int .u64 1000000000000000000), .lit (.int .u64 10000000000000000000)]

/-- 'signetlaw2.DecimalSays': WHATEVER THE INPUT: true; the input reads as it did. -/
def decimalSaysSpec : ChangeSpec := { name := "decimalSays", fn := fun _ => fun
  | [d] => { results := [.lit (.bool true)], args := [d] }
  | _ => none }
def decimalSaysRow : OpenClaim := { program := "ytdibapfehdhfjaadoor", sum := "3a9b40a0266fceeb33370c77dc9a94cd1afcbd50c8f0fac762486c34906d3455", func := "signet/signetlaw2.DecimalSays", spec := "decimalSays", inPlace := ["internal/abi.NoEscape", "internal/bytealg.IndexByteString", "internal/bytealg.IndexString"], named := ["unicode/utf8.first", "unicode/utf8.acceptRanges", "internal/bytealg.MaxLen"], apart := false, laid := [("unicode/utf8.acceptRanges", laid_unicode_utf8_acceptRanges), ("unicode/utf8.first", laid_unicode_utf8_first)] }
def DecimalSaysSaid : Prop := decimalSaysRow.holds Tryd.pinned (OpenSpec.ofChange decimalSaysSpec)

/-- ITS FALSE NEIGHBOUR: 'it returns false'. Refute it at one input. -/
def decimalSaysWrong : ChangeSpec := { name := "decimalSays", fn := fun _ => fun
  | [d] => { results := [.lit (.bool false)], args := [d] }
  | _ => none }
def DecimalSaysWrongFalsely : Prop := decimalSaysRow.holds Tryd.pinned (OpenSpec.ofChange decimalSaysWrong)

/-- 'signetlaw2.DecimalReads': WHATEVER THE INPUT: true; the input reads as it did. -/
def decimalReadsSpec : ChangeSpec := { name := "decimalReads", fn := fun _ => fun
  | [d] => { results := [.lit (.bool true)], args := [d] }
  | _ => none }
def decimalReadsRow : OpenClaim := { program := "ytdibapfehdhfjaadoor", sum := "3a9b40a0266fceeb33370c77dc9a94cd1afcbd50c8f0fac762486c34906d3455", func := "signet/signetlaw2.DecimalReads", spec := "decimalReads", inPlace := ["internal/bytealg.IndexByteString", "internal/bytealg.IndexString"], named := ["unicode/utf8.first", "unicode/utf8.acceptRanges", "internal/bytealg.MaxLen"], apart := false, laid := [("unicode/utf8.acceptRanges", laid_unicode_utf8_acceptRanges), ("unicode/utf8.first", laid_unicode_utf8_first)] }
def DecimalReadsSaid : Prop := decimalReadsRow.holds Tryd.pinned (OpenSpec.ofChange decimalReadsSpec)

/-- ITS FALSE NEIGHBOUR: 'it returns false'. Refute it at one input. -/
def decimalReadsWrong : ChangeSpec := { name := "decimalReads", fn := fun _ => fun
  | [d] => { results := [.lit (.bool false)], args := [d] }
  | _ => none }
def DecimalReadsWrongFalsely : Prop := decimalReadsRow.holds Tryd.pinned (OpenSpec.ofChange decimalReadsWrong)

/-- 'signetlaw2.DecimalCompares': WHATEVER THE INPUT: true; the input reads as it did. -/
def decimalComparesSpec : ChangeSpec := { name := "decimalCompares", fn := fun _ => fun
  | [d1, d2] => { results := [.lit (.bool true)], args := [d1, d2] }
  | _ => none }
def decimalComparesRow : OpenClaim := { program := "ytdibapfehdhfjaadoor", sum := "3a9b40a0266fceeb33370c77dc9a94cd1afcbd50c8f0fac762486c34906d3455", func := "signet/signetlaw2.DecimalCompares", spec := "decimalCompares", inPlace := ["internal/bytealg.IndexByteString", "internal/bytealg.IndexString", "internal/bytealg.abigen_runtime_cmpstring"], named := ["unicode/utf8.first", "unicode/utf8.acceptRanges", "internal/bytealg.MaxLen"], apart := false, laid := [("unicode/utf8.acceptRanges", laid_unicode_utf8_acceptRanges), ("unicode/utf8.first", laid_unicode_utf8_first)] }
def DecimalComparesSaid : Prop := decimalComparesRow.holds Tryd.pinned (OpenSpec.ofChange decimalComparesSpec)

/-- ITS FALSE NEIGHBOUR: 'it returns false'. Refute it at one input. -/
def decimalComparesWrong : ChangeSpec := { name := "decimalCompares", fn := fun _ => fun
  | [d1, d2] => { results := [.lit (.bool false)], args := [d1, d2] }
  | _ => none }
def DecimalComparesWrongFalsely : Prop := decimalComparesRow.holds Tryd.pinned (OpenSpec.ofChange decimalComparesWrong)

/-- 'signetlaw2.DecimalNears': WHATEVER THE INPUT: true; the input reads as it did. -/
def decimalNearsSpec : ChangeSpec := { name := "decimalNears", fn := fun _ => fun
  | [d] => { results := [.lit (.bool true)], args := [d] }
  | _ => none }
def decimalNearsRow : OpenClaim := { program := "ytdibapfehdhfjaadoor", sum := "3a9b40a0266fceeb33370c77dc9a94cd1afcbd50c8f0fac762486c34906d3455", func := "signet/signetlaw2.DecimalNears", spec := "decimalNears", inPlace := ["internal/bytealg.IndexByteString", "internal/bytealg.IndexString", "math.Float32bits", "internal/abi.NoEscape", "internal/bytealg.abigen_runtime_cmpstring"], named := ["unicode/utf8.first", "unicode/utf8.acceptRanges", "internal/bytealg.MaxLen"], apart := false, laid := [("unicode/utf8.acceptRanges", laid_unicode_utf8_acceptRanges), ("unicode/utf8.first", laid_unicode_utf8_first)] }
def DecimalNearsSaid : Prop := decimalNearsRow.holds Tryd.pinned (OpenSpec.ofChange decimalNearsSpec)

/-- ITS FALSE NEIGHBOUR: 'it returns false'. Refute it at one input. -/
def decimalNearsWrong : ChangeSpec := { name := "decimalNears", fn := fun _ => fun
  | [d] => { results := [.lit (.bool false)], args := [d] }
  | _ => none }
def DecimalNearsWrongFalsely : Prop := decimalNearsRow.holds Tryd.pinned (OpenSpec.ofChange decimalNearsWrong)

/-- 'signetlaw2.DecimalOrders': WHATEVER THE INPUT: true; the input reads as it did. -/
def decimalOrdersSpec : ChangeSpec := { name := "decimalOrders", fn := fun _ => fun
  | [d1, d2, d3] => { results := [.lit (.bool true)], args := [d1, d2, d3] }
  | _ => none }
def decimalOrdersRow : OpenClaim := { program := "ytdibapfehdhfjaadoor", sum := "3a9b40a0266fceeb33370c77dc9a94cd1afcbd50c8f0fac762486c34906d3455", func := "signet/signetlaw2.DecimalOrders", spec := "decimalOrders", inPlace := ["internal/bytealg.IndexByteString", "internal/bytealg.IndexString", "internal/bytealg.abigen_runtime_cmpstring", "math.Float32bits", "internal/abi.NoEscape"], named := ["unicode/utf8.first", "unicode/utf8.acceptRanges", "internal/bytealg.MaxLen"], apart := false, laid := [("unicode/utf8.acceptRanges", laid_unicode_utf8_acceptRanges), ("unicode/utf8.first", laid_unicode_utf8_first)] }
def DecimalOrdersSaid : Prop := decimalOrdersRow.holds Tryd.pinned (OpenSpec.ofChange decimalOrdersSpec)

/-- ITS FALSE NEIGHBOUR: 'it returns false'. Refute it at one input. -/
def decimalOrdersWrong : ChangeSpec := { name := "decimalOrders", fn := fun _ => fun
  | [d1, d2, d3] => { results := [.lit (.bool false)], args := [d1, d2, d3] }
  | _ => none }
def DecimalOrdersWrongFalsely : Prop := decimalOrdersRow.holds Tryd.pinned (OpenSpec.ofChange decimalOrdersWrong)

/-- 'signetlaw2.DecimalClimbs': WHATEVER THE INPUT: true; the input reads as it did. -/
def decimalClimbsSpec : ChangeSpec := { name := "decimalClimbs", fn := fun _ => fun
  | [d1, d2] => { results := [.lit (.bool true)], args := [d1, d2] }
  | _ => none }
def decimalClimbsRow : OpenClaim := { program := "ytdibapfehdhfjaadoor", sum := "3a9b40a0266fceeb33370c77dc9a94cd1afcbd50c8f0fac762486c34906d3455", func := "signet/signetlaw2.DecimalClimbs", spec := "decimalClimbs", inPlace := ["internal/bytealg.IndexByteString", "internal/bytealg.IndexString", "internal/bytealg.abigen_runtime_cmpstring", "math.Float32bits", "internal/abi.NoEscape"], named := ["unicode/utf8.first", "unicode/utf8.acceptRanges", "internal/bytealg.MaxLen"], apart := false, laid := [("unicode/utf8.acceptRanges", laid_unicode_utf8_acceptRanges), ("unicode/utf8.first", laid_unicode_utf8_first)] }
def DecimalClimbsSaid : Prop := decimalClimbsRow.holds Tryd.pinned (OpenSpec.ofChange decimalClimbsSpec)

/-- ITS FALSE NEIGHBOUR: 'it returns false'. Refute it at one input. -/
def decimalClimbsWrong : ChangeSpec := { name := "decimalClimbs", fn := fun _ => fun
  | [d1, d2] => { results := [.lit (.bool false)], args := [d1, d2] }
  | _ => none }
def DecimalClimbsWrongFalsely : Prop := decimalClimbsRow.holds Tryd.pinned (OpenSpec.ofChange decimalClimbsWrong)

/-- 'signetlaw2.DecimalNearest': WHATEVER THE INPUT: true; the input reads as it did. -/
def decimalNearestSpec : ChangeSpec := { name := "decimalNearest", fn := fun _ => fun
  | [d] => { results := [.lit (.bool true)], args := [d] }
  | _ => none }
def decimalNearestRow : OpenClaim := { program := "ytdibapfehdhfjaadoor", sum := "3a9b40a0266fceeb33370c77dc9a94cd1afcbd50c8f0fac762486c34906d3455", func := "signet/signetlaw2.DecimalNearest", spec := "decimalNearest", inPlace := ["internal/bytealg.IndexByteString", "internal/bytealg.IndexString", "internal/bytealg.abigen_runtime_cmpstring", "math.Float32bits", "internal/abi.NoEscape"], named := ["unicode/utf8.first", "unicode/utf8.acceptRanges", "internal/bytealg.MaxLen"], apart := false, laid := [("unicode/utf8.acceptRanges", laid_unicode_utf8_acceptRanges), ("unicode/utf8.first", laid_unicode_utf8_first)] }
def DecimalNearestSaid : Prop := decimalNearestRow.holds Tryd.pinned (OpenSpec.ofChange decimalNearestSpec)

/-- ITS FALSE NEIGHBOUR: 'it returns false'. Refute it at one input. -/
def decimalNearestWrong : ChangeSpec := { name := "decimalNearest", fn := fun _ => fun
  | [d] => { results := [.lit (.bool false)], args := [d] }
  | _ => none }
def DecimalNearestWrongFalsely : Prop := decimalNearestRow.holds Tryd.pinned (OpenSpec.ofChange decimalNearestWrong)

/-- 'signetlaw2.DecimalBack': WHATEVER THE INPUT: true; the input reads as it did. -/
def decimalBackSpec : ChangeSpec := { name := "decimalBack", fn := fun _ => fun
  | [d] => { results := [.lit (.bool true)], args := [d] }
  | _ => none }
def decimalBackRow : OpenClaim := { program := "ytdibapfehdhfjaadoor", sum := "3a9b40a0266fceeb33370c77dc9a94cd1afcbd50c8f0fac762486c34906d3455", func := "signet/signetlaw2.DecimalBack", spec := "decimalBack", inPlace := ["internal/bytealg.IndexByteString", "internal/bytealg.IndexString", "internal/bytealg.abigen_runtime_cmpstring", "math.Float32bits", "internal/abi.NoEscape"], named := ["unicode/utf8.first", "unicode/utf8.acceptRanges", "internal/bytealg.MaxLen"], apart := false, laid := [("unicode/utf8.acceptRanges", laid_unicode_utf8_acceptRanges), ("unicode/utf8.first", laid_unicode_utf8_first)] }
def DecimalBackSaid : Prop := decimalBackRow.holds Tryd.pinned (OpenSpec.ofChange decimalBackSpec)

/-- ITS FALSE NEIGHBOUR: 'it returns false'. Refute it at one input. -/
def decimalBackWrong : ChangeSpec := { name := "decimalBack", fn := fun _ => fun
  | [d] => { results := [.lit (.bool false)], args := [d] }
  | _ => none }
def DecimalBackWrongFalsely : Prop := decimalBackRow.holds Tryd.pinned (OpenSpec.ofChange decimalBackWrong)

/-- 'signetlaw2.DecimalWholes': WHATEVER THE INPUT: true; the input reads as it did. -/
def decimalWholesSpec : ChangeSpec := { name := "decimalWholes", fn := fun _ => fun
  | [d1, d2] => { results := [.lit (.bool true)], args := [d1, d2] }
  | _ => none }
def decimalWholesRow : OpenClaim := { program := "ytdibapfehdhfjaadoor", sum := "3a9b40a0266fceeb33370c77dc9a94cd1afcbd50c8f0fac762486c34906d3455", func := "signet/signetlaw2.DecimalWholes", spec := "decimalWholes", inPlace := ["internal/bytealg.IndexByteString", "internal/bytealg.IndexString", "internal/bytealg.abigen_runtime_cmpstring", "math.Float32bits", "internal/abi.NoEscape"], named := ["unicode/utf8.first", "unicode/utf8.acceptRanges", "internal/strconv.uint64pow10", "math/bits.deBruijn32tab", "math/bits.deBruijn64tab", "internal/bytealg.MaxLen"], apart := false, laid := [("math/bits.deBruijn32tab", laid_math_bits_deBruijn32tab), ("math/bits.deBruijn64tab", laid_math_bits_deBruijn64tab), ("internal/strconv.uint64pow10", laid_internal_strconv_uint64pow10), ("unicode/utf8.acceptRanges", laid_unicode_utf8_acceptRanges), ("unicode/utf8.first", laid_unicode_utf8_first)] }
def DecimalWholesSaid : Prop := decimalWholesRow.holds Tryd.pinned (OpenSpec.ofChange decimalWholesSpec)

/-- ITS FALSE NEIGHBOUR: 'it returns false'. Refute it at one input. -/
def decimalWholesWrong : ChangeSpec := { name := "decimalWholes", fn := fun _ => fun
  | [d1, d2] => { results := [.lit (.bool false)], args := [d1, d2] }
  | _ => none }
def DecimalWholesWrongFalsely : Prop := decimalWholesRow.holds Tryd.pinned (OpenSpec.ofChange decimalWholesWrong)

/-- 'signetlaw2.DecimalShifts': WHATEVER THE INPUT: true; the input reads as it did. -/
def decimalShiftsSpec : ChangeSpec := { name := "decimalShifts", fn := fun _ => fun
  | [d1, d2] => { results := [.lit (.bool true)], args := [d1, d2] }
  | _ => none }
def decimalShiftsRow : OpenClaim := { program := "ytdibapfehdhfjaadoor", sum := "3a9b40a0266fceeb33370c77dc9a94cd1afcbd50c8f0fac762486c34906d3455", func := "signet/signetlaw2.DecimalShifts", spec := "decimalShifts", inPlace := ["internal/bytealg.IndexByteString", "internal/bytealg.IndexString", "internal/bytealg.abigen_runtime_cmpstring", "math.Float32bits", "internal/abi.NoEscape"], named := ["unicode/utf8.first", "unicode/utf8.acceptRanges", "internal/strconv.uint64pow10", "math/bits.deBruijn32tab", "math/bits.deBruijn64tab", "internal/bytealg.MaxLen"], apart := false, laid := [("math/bits.deBruijn32tab", laid_math_bits_deBruijn32tab), ("math/bits.deBruijn64tab", laid_math_bits_deBruijn64tab), ("internal/strconv.uint64pow10", laid_internal_strconv_uint64pow10), ("unicode/utf8.acceptRanges", laid_unicode_utf8_acceptRanges), ("unicode/utf8.first", laid_unicode_utf8_first)] }
def DecimalShiftsSaid : Prop := decimalShiftsRow.holds Tryd.pinned (OpenSpec.ofChange decimalShiftsSpec)

/-- ITS FALSE NEIGHBOUR: 'it returns false'. Refute it at one input. -/
def decimalShiftsWrong : ChangeSpec := { name := "decimalShifts", fn := fun _ => fun
  | [d1, d2] => { results := [.lit (.bool false)], args := [d1, d2] }
  | _ => none }
def DecimalShiftsWrongFalsely : Prop := decimalShiftsRow.holds Tryd.pinned (OpenSpec.ofChange decimalShiftsWrong)

/- THE SECOND FORM. 'bulk': how many values and letters a reading holds, each counted each time it is reached (what is shared counts as often as it is met; a slice's spare places count too). A statement '..UptoSaid' is the law's where the arguments, and the package variables that the reading takes, are together of bulk at most 1048576: NARROWER than '..Said'. Prove '..Said' where nothing that the law and all that it calls make is longer than what came in: it says more and counts as full. Else prove '..UptoSaid'. A law counts once. -/
mutual
def uptoBulk {H : Type} : DataW H → Nat
  | .lit (.string bytes) => bytes.length + 1
  | .lit _ => 1
  | .nil => 1
  | .ptr d => uptoBulk d + 1
  | .slice elems spare => uptoBulkAll elems + uptoBulkAll spare + 1
  | .agg parts => uptoBulkAll parts + 1
  | .iface _ d => uptoBulk d + 1
  | .map entries => uptoBulkEntries entries + 1
  | .held _ => 1
def uptoBulkAll {H : Type} : List (DataW H) → Nat
  | [] => 0
  | d :: r => uptoBulk d + uptoBulkAll r
def uptoBulkEntries {H : Type} : List (Lit × DataW H) → Nat
  | [] => 0
  | x :: r => uptoBulkEntry x + uptoBulkEntries r
def uptoBulkEntry {H : Type} : Lit × DataW H → Nat
  | (.string bytes, d) => bytes.length + uptoBulk d + 1
  | (_, d) => uptoBulk d + 1
 end
def uptoSmall : (H : Type) → List (DataW H) → Bool := fun _ ds => decide (uptoBulkAll ds ≤ 1048576)
def OpenSpec.upto (s : _root_.Go.ChangeSpec) : _root_.Go.OpenSpec := { _root_.Go.OpenSpec.ofChange s with cond := some uptoSmall }

/-- 'signetlaw2.DecimalSays', WHERE WHAT IT READS IS OF BULK AT MOST 1048576: true; the input reads as it did. -/
def decimalSaysUptoRow : OpenClaim := { program := "ytdibapfehdhfjaadoor", sum := "3a9b40a0266fceeb33370c77dc9a94cd1afcbd50c8f0fac762486c34906d3455", func := "signet/signetlaw2.DecimalSays", spec := "decimalSays", inPlace := ["internal/abi.NoEscape", "internal/bytealg.IndexByteString", "internal/bytealg.IndexString"], named := ["unicode/utf8.first", "unicode/utf8.acceptRanges", "internal/bytealg.MaxLen"], apart := false, laid := [("unicode/utf8.acceptRanges", laid_unicode_utf8_acceptRanges), ("unicode/utf8.first", laid_unicode_utf8_first)], narrowed := true }
def DecimalSaysUptoSaid : Prop := decimalSaysUptoRow.holds Tryd.pinned (OpenSpec.upto decimalSaysSpec)

/-- 'signetlaw2.DecimalReads', WHERE WHAT IT READS IS OF BULK AT MOST 1048576: true; the input reads as it did. -/
def decimalReadsUptoRow : OpenClaim := { program := "ytdibapfehdhfjaadoor", sum := "3a9b40a0266fceeb33370c77dc9a94cd1afcbd50c8f0fac762486c34906d3455", func := "signet/signetlaw2.DecimalReads", spec := "decimalReads", inPlace := ["internal/bytealg.IndexByteString", "internal/bytealg.IndexString"], named := ["unicode/utf8.first", "unicode/utf8.acceptRanges", "internal/bytealg.MaxLen"], apart := false, laid := [("unicode/utf8.acceptRanges", laid_unicode_utf8_acceptRanges), ("unicode/utf8.first", laid_unicode_utf8_first)], narrowed := true }
def DecimalReadsUptoSaid : Prop := decimalReadsUptoRow.holds Tryd.pinned (OpenSpec.upto decimalReadsSpec)

/-- 'signetlaw2.DecimalCompares', WHERE WHAT IT READS IS OF BULK AT MOST 1048576: true; the input reads as it did. -/
def decimalComparesUptoRow : OpenClaim := { program := "ytdibapfehdhfjaadoor", sum := "3a9b40a0266fceeb33370c77dc9a94cd1afcbd50c8f0fac762486c34906d3455", func := "signet/signetlaw2.DecimalCompares", spec := "decimalCompares", inPlace := ["internal/bytealg.IndexByteString", "internal/bytealg.IndexString", "internal/bytealg.abigen_runtime_cmpstring"], named := ["unicode/utf8.first", "unicode/utf8.acceptRanges", "internal/bytealg.MaxLen"], apart := false, laid := [("unicode/utf8.acceptRanges", laid_unicode_utf8_acceptRanges), ("unicode/utf8.first", laid_unicode_utf8_first)], narrowed := true }
def DecimalComparesUptoSaid : Prop := decimalComparesUptoRow.holds Tryd.pinned (OpenSpec.upto decimalComparesSpec)

/-- 'signetlaw2.DecimalNears', WHERE WHAT IT READS IS OF BULK AT MOST 1048576: true; the input reads as it did. -/
def decimalNearsUptoRow : OpenClaim := { program := "ytdibapfehdhfjaadoor", sum := "3a9b40a0266fceeb33370c77dc9a94cd1afcbd50c8f0fac762486c34906d3455", func := "signet/signetlaw2.DecimalNears", spec := "decimalNears", inPlace := ["internal/bytealg.IndexByteString", "internal/bytealg.IndexString", "math.Float32bits", "internal/abi.NoEscape", "internal/bytealg.abigen_runtime_cmpstring"], named := ["unicode/utf8.first", "unicode/utf8.acceptRanges", "internal/bytealg.MaxLen"], apart := false, laid := [("unicode/utf8.acceptRanges", laid_unicode_utf8_acceptRanges), ("unicode/utf8.first", laid_unicode_utf8_first)], narrowed := true }
def DecimalNearsUptoSaid : Prop := decimalNearsUptoRow.holds Tryd.pinned (OpenSpec.upto decimalNearsSpec)

/-- 'signetlaw2.DecimalOrders', WHERE WHAT IT READS IS OF BULK AT MOST 1048576: true; the input reads as it did. -/
def decimalOrdersUptoRow : OpenClaim := { program := "ytdibapfehdhfjaadoor", sum := "3a9b40a0266fceeb33370c77dc9a94cd1afcbd50c8f0fac762486c34906d3455", func := "signet/signetlaw2.DecimalOrders", spec := "decimalOrders", inPlace := ["internal/bytealg.IndexByteString", "internal/bytealg.IndexString", "internal/bytealg.abigen_runtime_cmpstring", "math.Float32bits", "internal/abi.NoEscape"], named := ["unicode/utf8.first", "unicode/utf8.acceptRanges", "internal/bytealg.MaxLen"], apart := false, laid := [("unicode/utf8.acceptRanges", laid_unicode_utf8_acceptRanges), ("unicode/utf8.first", laid_unicode_utf8_first)], narrowed := true }
def DecimalOrdersUptoSaid : Prop := decimalOrdersUptoRow.holds Tryd.pinned (OpenSpec.upto decimalOrdersSpec)

/-- 'signetlaw2.DecimalClimbs', WHERE WHAT IT READS IS OF BULK AT MOST 1048576: true; the input reads as it did. -/
def decimalClimbsUptoRow : OpenClaim := { program := "ytdibapfehdhfjaadoor", sum := "3a9b40a0266fceeb33370c77dc9a94cd1afcbd50c8f0fac762486c34906d3455", func := "signet/signetlaw2.DecimalClimbs", spec := "decimalClimbs", inPlace := ["internal/bytealg.IndexByteString", "internal/bytealg.IndexString", "internal/bytealg.abigen_runtime_cmpstring", "math.Float32bits", "internal/abi.NoEscape"], named := ["unicode/utf8.first", "unicode/utf8.acceptRanges", "internal/bytealg.MaxLen"], apart := false, laid := [("unicode/utf8.acceptRanges", laid_unicode_utf8_acceptRanges), ("unicode/utf8.first", laid_unicode_utf8_first)], narrowed := true }
def DecimalClimbsUptoSaid : Prop := decimalClimbsUptoRow.holds Tryd.pinned (OpenSpec.upto decimalClimbsSpec)

/-- 'signetlaw2.DecimalNearest', WHERE WHAT IT READS IS OF BULK AT MOST 1048576: true; the input reads as it did. -/
def decimalNearestUptoRow : OpenClaim := { program := "ytdibapfehdhfjaadoor", sum := "3a9b40a0266fceeb33370c77dc9a94cd1afcbd50c8f0fac762486c34906d3455", func := "signet/signetlaw2.DecimalNearest", spec := "decimalNearest", inPlace := ["internal/bytealg.IndexByteString", "internal/bytealg.IndexString", "internal/bytealg.abigen_runtime_cmpstring", "math.Float32bits", "internal/abi.NoEscape"], named := ["unicode/utf8.first", "unicode/utf8.acceptRanges", "internal/bytealg.MaxLen"], apart := false, laid := [("unicode/utf8.acceptRanges", laid_unicode_utf8_acceptRanges), ("unicode/utf8.first", laid_unicode_utf8_first)], narrowed := true }
def DecimalNearestUptoSaid : Prop := decimalNearestUptoRow.holds Tryd.pinned (OpenSpec.upto decimalNearestSpec)

/-- 'signetlaw2.DecimalBack', WHERE WHAT IT READS IS OF BULK AT MOST 1048576: true; the input reads as it did. -/
def decimalBackUptoRow : OpenClaim := { program := "ytdibapfehdhfjaadoor", sum := "3a9b40a0266fceeb33370c77dc9a94cd1afcbd50c8f0fac762486c34906d3455", func := "signet/signetlaw2.DecimalBack", spec := "decimalBack", inPlace := ["internal/bytealg.IndexByteString", "internal/bytealg.IndexString", "internal/bytealg.abigen_runtime_cmpstring", "math.Float32bits", "internal/abi.NoEscape"], named := ["unicode/utf8.first", "unicode/utf8.acceptRanges", "internal/bytealg.MaxLen"], apart := false, laid := [("unicode/utf8.acceptRanges", laid_unicode_utf8_acceptRanges), ("unicode/utf8.first", laid_unicode_utf8_first)], narrowed := true }
def DecimalBackUptoSaid : Prop := decimalBackUptoRow.holds Tryd.pinned (OpenSpec.upto decimalBackSpec)

/-- 'signetlaw2.DecimalWholes', WHERE WHAT IT READS IS OF BULK AT MOST 1048576: true; the input reads as it did. -/
def decimalWholesUptoRow : OpenClaim := { program := "ytdibapfehdhfjaadoor", sum := "3a9b40a0266fceeb33370c77dc9a94cd1afcbd50c8f0fac762486c34906d3455", func := "signet/signetlaw2.DecimalWholes", spec := "decimalWholes", inPlace := ["internal/bytealg.IndexByteString", "internal/bytealg.IndexString", "internal/bytealg.abigen_runtime_cmpstring", "math.Float32bits", "internal/abi.NoEscape"], named := ["unicode/utf8.first", "unicode/utf8.acceptRanges", "internal/strconv.uint64pow10", "math/bits.deBruijn32tab", "math/bits.deBruijn64tab", "internal/bytealg.MaxLen"], apart := false, laid := [("math/bits.deBruijn32tab", laid_math_bits_deBruijn32tab), ("math/bits.deBruijn64tab", laid_math_bits_deBruijn64tab), ("internal/strconv.uint64pow10", laid_internal_strconv_uint64pow10), ("unicode/utf8.acceptRanges", laid_unicode_utf8_acceptRanges), ("unicode/utf8.first", laid_unicode_utf8_first)], narrowed := true }
def DecimalWholesUptoSaid : Prop := decimalWholesUptoRow.holds Tryd.pinned (OpenSpec.upto decimalWholesSpec)

/-- 'signetlaw2.DecimalShifts', WHERE WHAT IT READS IS OF BULK AT MOST 1048576: true; the input reads as it did. -/
def decimalShiftsUptoRow : OpenClaim := { program := "ytdibapfehdhfjaadoor", sum := "3a9b40a0266fceeb33370c77dc9a94cd1afcbd50c8f0fac762486c34906d3455", func := "signet/signetlaw2.DecimalShifts", spec := "decimalShifts", inPlace := ["internal/bytealg.IndexByteString", "internal/bytealg.IndexString", "internal/bytealg.abigen_runtime_cmpstring", "math.Float32bits", "internal/abi.NoEscape"], named := ["unicode/utf8.first", "unicode/utf8.acceptRanges", "internal/strconv.uint64pow10", "math/bits.deBruijn32tab", "math/bits.deBruijn64tab", "internal/bytealg.MaxLen"], apart := false, laid := [("math/bits.deBruijn32tab", laid_math_bits_deBruijn32tab), ("math/bits.deBruijn64tab", laid_math_bits_deBruijn64tab), ("internal/strconv.uint64pow10", laid_internal_strconv_uint64pow10), ("unicode/utf8.acceptRanges", laid_unicode_utf8_acceptRanges), ("unicode/utf8.first", laid_unicode_utf8_first)], narrowed := true }
def DecimalShiftsUptoSaid : Prop := decimalShiftsUptoRow.holds Tryd.pinned (OpenSpec.upto decimalShiftsSpec)

end Rows
end Go.Proofs.YtdibapfehdhfjaaDoor
