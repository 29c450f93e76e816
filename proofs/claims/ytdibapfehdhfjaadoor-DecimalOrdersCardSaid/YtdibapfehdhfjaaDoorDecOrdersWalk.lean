/-
  DecimalOrders: its call returns true.
-/
import Derived.Test.YtdibapfehdhfjaaDoorPDecOrders
import Derived.Test.YtdibapfehdhfjaaDoorLow
namespace Go.Proofs.YtdibapfehdhfjaaDoor
open Go.Eng
set_option linter.unusedVariables false
set_option linter.unusedSimpArgs false

theorem decimalOrders_walk (s0 : ByteArray) (s1 : ByteArray) (s2 : ByteArray) (W : World) (h0 : s0.size ≤ 140737488351232) (h1 : s1.size ≤ 140737488351232) (h2 : s2.size ≤ 140737488351232) : Calls Tryd.prog 7 #[.string s0, .string s1, .string s2] W fun e w' => e = .returned (.bool true) ∧ LowB W w' := by
  refine callS signetlaw2_DecimalOrders_val (args := [.c (.o (.val (.string s0))), .c (.o (.val (.string s1))), .c (.o (.val (.string s2)))]) (v := .c (.o (.val (.bool true)))) ?_ rfl rfl W [.string s0, .string s1, .string s2] rfl
  show ((signetlaw2_DecimalOrders_s s0 s1 s2).bind fun r => some ((.c (.o (.val (.bool r))), []) : SV × List SB)) = _
  rw [decimalOrders_plain s0 s1 s2 (by omega) (by omega) (by omega)]
  rfl
end Go.Proofs.YtdibapfehdhfjaaDoor
