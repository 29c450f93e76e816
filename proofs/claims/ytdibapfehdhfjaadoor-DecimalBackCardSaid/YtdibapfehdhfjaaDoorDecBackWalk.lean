/-
  DecimalBack: its call returns true.
-/
import Derived.Test.YtdibapfehdhfjaaDoorPDecBack
import Derived.Test.YtdibapfehdhfjaaDoorLow
namespace Go.Proofs.YtdibapfehdhfjaaDoor
open Go.Eng
set_option linter.unusedVariables false
set_option linter.unusedSimpArgs false

theorem decimalBack_walk (i0 : Int) (W : World) (h0 : 0 ≤ i0 ∧ i0 ≤ 4294967295) : Calls Tryd.prog 10 #[.int .u32 i0] W fun e w' => e = .returned (.bool true) ∧ LowB W w' := by
  obtain ⟨n0, rfl⟩ := Int.eq_ofNat_of_zero_le h0.1
  refine callS signetlaw2_DecimalBack_val (args := [.c (.o (.val (.int .u32 n0)))]) (v := .c (.o (.val (.bool true)))) ?_ rfl rfl W [.int .u32 n0] rfl
  show ((signetlaw2_DecimalBack_s n0).bind fun r => some ((.c (.o (.val (.bool r))), []) : SV × List SB)) = _
  rw [decimalBack_plain (by omega)]
  rfl
end Go.Proofs.YtdibapfehdhfjaaDoor
