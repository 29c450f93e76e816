/-
  DecimalNearest: its call returns true.
-/
import Derived.Test.YtdibapfehdhfjaaDoorPDecNearest
import Derived.Test.YtdibapfehdhfjaaDoorLow
namespace Go.Proofs.YtdibapfehdhfjaaDoor
open Go.Eng
set_option linter.unusedVariables false
set_option linter.unusedSimpArgs false

theorem decimalNearest_walk (s0 : ByteArray) (W : World) (h0 : s0.size ≤ 140737488351232) : Calls Tryd.prog 9 #[.string s0] W fun e w' => e = .returned (.bool true) ∧ LowB W w' := by
  refine callS signetlaw2_DecimalNearest_val (args := [.c (.o (.val (.string s0)))]) (v := .c (.o (.val (.bool true)))) ?_ rfl rfl W (show tabOK noX W from trivial) [.string s0] rfl
  show ((signetlaw2_DecimalNearest_s s0).bind fun r => some ((.c (.o (.val (.bool r))), []) : SV × List SB)) = _
  rw [decimalNearest_plain s0 (by omega)]
  rfl
end Go.Proofs.YtdibapfehdhfjaaDoor
