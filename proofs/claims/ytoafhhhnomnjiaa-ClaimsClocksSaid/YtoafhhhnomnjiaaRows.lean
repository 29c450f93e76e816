/-
  No cell of these rows narrows 'for every input' (looked for: loops, veiled, ifaces, maps, wideKeys, modest, calm, conditions, laid).
  DERIVED. THE GIVEN ROWS OF THIS SEAT. 2 by the template 'for every input the law returns true; each argument reads behind the call as it read before'; 0 by the template 'total and deterministic' (their statements: YtoafhhhnomnjiaaTotals.lean).
  GIVEN WITH THE SEED: the statements are not yours to turn. If you find one false, say at which input.
  Laid BY PROGRAM, IN A SANDBOX (cutbox-rows.mjs): the forced cells as the released guide's own fill.sh prints them over the translation 097e7260ba71a9eb… (all of the seat's roots in one cut). By AI agents, Wed Nov 11 2026. No macro, syntax, notation, axiom, sorry.
-/
import Derived.Test.YtoafhhhnomnjiaaChecked
import GoSem.Claim
import GoSem.ClaimJoined
import GoSem.ClaimMapViews
import Derived.JoinedTies
import Derived.KernelRfl
namespace Go.Proofs.Ytoafhhhnomnjiaa
/- THE CELL 'sum', in the pinned program and in every row, IS THE sha256 OF THE DUMP (.gsa) THAT YtoafhhhnomnjiaaProg.lean LOADS. Nothing in Lean hashes anything: it is a label: what it is worth is what the hold of that sum in a sandbox is worth. -/
noncomputable def Try.pinned : Pinned := { name := "ytoafhhhnomnjiaa", sum := "097e7260ba71a9eb50b925c6c40954ef95fdf466b72fbfb647436d2f6893ccc3", checked := Try.checked }
namespace Rows
def none {H : Type} : Left H := { results := [], args := [] }

/-- 'signetlaw19.ClaimsClocks': WHATEVER THE INPUT: true; the input reads as it did. -/
def claimsClocksSpec : ChangeSpec := { name := "claimsClocks", fn := fun _ => fun
  | [d1, d2, d3] => { results := [.lit (.bool true)], args := [d1, d2, d3] }
  | _ => none }
def claimsClocksRow : OpenClaim := { program := "ytoafhhhnomnjiaa", sum := "097e7260ba71a9eb50b925c6c40954ef95fdf466b72fbfb647436d2f6893ccc3", func := "signet/signetlaw19.ClaimsClocks", spec := "claimsClocks", apart := false }
def ClaimsClocksSaid : Prop := claimsClocksRow.holds Try.pinned (OpenSpec.ofChange claimsClocksSpec)

/-- ITS FALSE NEIGHBOUR: 'it returns false'. Refute it at one input. -/
def claimsClocksWrong : ChangeSpec := { name := "claimsClocks", fn := fun _ => fun
  | [d1, d2, d3] => { results := [.lit (.bool false)], args := [d1, d2, d3] }
  | _ => none }
def ClaimsClocksWrongFalsely : Prop := claimsClocksRow.holds Try.pinned (OpenSpec.ofChange claimsClocksWrong)

/-- 'signetlaw19.ClaimsChecks': WHATEVER THE INPUT: true; the input reads as it did. -/
def claimsChecksSpec : ChangeSpec := { name := "claimsChecks", fn := fun _ => fun
  | [d1, d2] => { results := [.lit (.bool true)], args := [d1, d2] }
  | _ => none }
def claimsChecksRow : OpenClaim := { program := "ytoafhhhnomnjiaa", sum := "097e7260ba71a9eb50b925c6c40954ef95fdf466b72fbfb647436d2f6893ccc3", func := "signet/signetlaw19.ClaimsChecks", spec := "claimsChecks", recurses := true, apart := false }
def ClaimsChecksSaid : Prop := claimsChecksRow.holds Try.pinned (OpenSpec.ofChange claimsChecksSpec)

/-- ITS FALSE NEIGHBOUR: 'it returns false'. Refute it at one input. -/
def claimsChecksWrong : ChangeSpec := { name := "claimsChecks", fn := fun _ => fun
  | [d1, d2] => { results := [.lit (.bool false)], args := [d1, d2] }
  | _ => none }
def ClaimsChecksWrongFalsely : Prop := claimsChecksRow.holds Try.pinned (OpenSpec.ofChange claimsChecksWrong)

/- THE SECOND FORM. 'bulk': how many values and letters a reading holds, each counted each time it is reached (what is shared counts as often as it is met; a slice's spare places count too). A statement '..UptoSaid' is the law's where the arguments, and the package variables that the reading takes, are together of bulk at most 1048576: NARROWER than '..Said'. Prove '..Said' where nothing that the law and all that it calls make is longer than what came in: it says more and counts as full. Else prove '..UptoSaid'. A law counts once. -/
mutual
def uptoBulk {H : Type} : DataW H → Nat
  | .lit (.string bytes) => bytes.length + 1
  | .lit _ => 1
  | .nil => 1
  | .ptr d => uptoBulk d + 1
  | .slice elems spare => uptoBulkAll elems + uptoBulkAll spare + 1
  | .agg parts => uptoBulkAll parts + 1
  | .iface _ d => uptoBulk d + 1
  | .map entries => uptoBulkEntries entries + 1
  | .held _ => 1
def uptoBulkAll {H : Type} : List (DataW H) → Nat
  | [] => 0
  | d :: r => uptoBulk d + uptoBulkAll r
def uptoBulkEntries {H : Type} : List (Lit × DataW H) → Nat
  | [] => 0
  | x :: r => uptoBulkEntry x + uptoBulkEntries r
def uptoBulkEntry {H : Type} : Lit × DataW H → Nat
  | (.string bytes, d) => bytes.length + uptoBulk d + 1
  | (_, d) => uptoBulk d + 1
 end
def uptoSmall : (H : Type) → List (DataW H) → Bool := fun _ ds => decide (uptoBulkAll ds ≤ 1048576)
def OpenSpec.upto (s : _root_.Go.ChangeSpec) : _root_.Go.OpenSpec := { _root_.Go.OpenSpec.ofChange s with cond := some uptoSmall }

/-- 'signetlaw19.ClaimsClocks', WHERE WHAT IT READS IS OF BULK AT MOST 1048576: true; the input reads as it did. -/
def claimsClocksUptoRow : OpenClaim := { program := "ytoafhhhnomnjiaa", sum := "097e7260ba71a9eb50b925c6c40954ef95fdf466b72fbfb647436d2f6893ccc3", func := "signet/signetlaw19.ClaimsClocks", spec := "claimsClocks", apart := false, narrowed := true }
def ClaimsClocksUptoSaid : Prop := claimsClocksUptoRow.holds Try.pinned (OpenSpec.upto claimsClocksSpec)

/-- 'signetlaw19.ClaimsChecks', WHERE WHAT IT READS IS OF BULK AT MOST 1048576: true; the input reads as it did. -/
def claimsChecksUptoRow : OpenClaim := { program := "ytoafhhhnomnjiaa", sum := "097e7260ba71a9eb50b925c6c40954ef95fdf466b72fbfb647436d2f6893ccc3", func := "signet/signetlaw19.ClaimsChecks", spec := "claimsChecks", recurses := true, apart := false, narrowed := true }
def ClaimsChecksUptoSaid : Prop := claimsChecksUptoRow.holds Try.pinned (OpenSpec.upto claimsChecksSpec)

end Rows
end Go.Proofs.Ytoafhhhnomnjiaa
