/-
  DecimalNears: its call returns true.
-/
import Derived.Test.YtdibapfehdhfjaaDoorPDecNear2
import Derived.Test.YtdibapfehdhfjaaDoorLow
namespace Go.Proofs.YtdibapfehdhfjaaDoor
open Go.Eng
set_option linter.unusedVariables false
set_option linter.unusedSimpArgs false

theorem decimalNears_walk (s0 : ByteArray) (W : World) (h0 : s0.size ≤ 100000000) : Calls Tryd.prog 6 #[.string s0] W fun e w' => e = .returned (.bool true) ∧ LowB W w' := by
  refine callS signetlaw2_DecimalNears_val (args := [.c (.o (.val (.string s0)))]) (v := .c (.o (.val (.bool true)))) ?_ rfl rfl W [.string s0] rfl
  show ((signetlaw2_DecimalNears_s s0).bind fun r => some ((.c (.o (.val (.bool r))), []) : SV × List SB)) = _
  rw [decimalNears_plain s0 (by omega)]
  rfl
end Go.Proofs.YtdibapfehdhfjaaDoor
