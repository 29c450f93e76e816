/-
 unicode/utf8.FullRuneInString: what it answers of every text.
-/
import Derived.Test.YtekkjbomadoplaaDoorProg
import Derived.Shelf.Unicode.DecodeSlow
import Derived.WalkKit
import Derived.Below
import Derived.BigQuiet

namespace Go.Proofs.YtekkjbomadoplaaDoor
open Go.RowKit Go.Lib
set_option linter.unusedVariables false
set_option linter.unusedSimpArgs false

/-- What a text of n bytes answers that begins with these. -/
def fullN (n b0 b1 b2 : Nat) : Bool :=
 if n = 0 then false else if Lib.firstT b0 % 8 ≤ n then true else if 1 < n ∧ (b1 < Lib.accLo (Lib.firstT b0 / 16) ∨ Lib.accHi (Lib.firstT b0 / 16) < b1) then true else if 2 < n ∧ (b2 < 128 ∨ 191 < b2) then true else false
structure HidF (p : Prop) : Prop where
 out : p
end Go.Proofs.YtekkjbomadoplaaDoor
