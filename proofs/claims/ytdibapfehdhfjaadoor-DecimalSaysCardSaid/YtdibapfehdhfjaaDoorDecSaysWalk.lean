/-
  DecimalSays: its call returns true.
-/
import Derived.Test.YtdibapfehdhfjaaDoorPDecSays
import Derived.Test.YtdibapfehdhfjaaDoorLow
namespace Go.Proofs.YtdibapfehdhfjaaDoor
open Go.Eng
set_option linter.unusedVariables false
set_option linter.unusedSimpArgs false

theorem decimalSays_walk (b : Int) (W : World) (hb : 0 ≤ b ∧ b ≤ 4294967295) : Calls Tryd.prog 3 #[.int .u32 b] W fun e w' => e = .returned (.bool true) ∧ LowB W w' := by
  obtain ⟨n, rfl⟩ := Int.eq_ofNat_of_zero_le hb.1
  refine callS signetlaw2_DecimalSays_val (args := [.c (.o (.val (.int .u32 n)))]) (v := .c (.o (.val (.bool true)))) ?_ rfl rfl W [.int .u32 n] rfl
  show ((signetlaw2_DecimalSays_s n).bind fun r => some ((.c (.o (.val (.bool r))), []) : SV × List SB)) = _
  rw [decimalSays_plain (by omega)]
  rfl
end Go.Proofs.YtdibapfehdhfjaaDoor
