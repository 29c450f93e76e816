/-
  DecimalClimbs: its call returns true.
-/
import Derived.Test.YtdibapfehdhfjaaDoorPDecOrders
import Derived.Test.YtdibapfehdhfjaaDoorLow
namespace Go.Proofs.YtdibapfehdhfjaaDoor
open Go.Eng
set_option linter.unusedVariables false
set_option linter.unusedSimpArgs false

theorem decimalClimbs_walk (s0 : ByteArray) (s1 : ByteArray) (W : World) (h0 : s0.size ≤ 140737488351232) (h1 : s1.size ≤ 140737488351232) : Calls Tryd.prog 8 #[.string s0, .string s1] W fun e w' => e = .returned (.bool true) ∧ LowB W w' := by
  refine callS signetlaw2_DecimalClimbs_val (args := [.c (.o (.val (.string s0))), .c (.o (.val (.string s1)))]) (v := .c (.o (.val (.bool true)))) ?_ rfl rfl W [.string s0, .string s1] rfl
  show ((signetlaw2_DecimalClimbs_s s0 s1).bind fun r => some ((.c (.o (.val (.bool r))), []) : SV × List SB)) = _
  rw [decimalClimbs_plain s0 s1 (by omega) (by omega)]
  rfl
end Go.Proofs.YtdibapfehdhfjaaDoor
