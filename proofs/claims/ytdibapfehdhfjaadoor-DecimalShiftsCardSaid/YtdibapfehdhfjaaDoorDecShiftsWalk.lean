/-
  DecimalShifts: its call returns true.
-/
import Derived.Test.YtdibapfehdhfjaaDoorPDecShifts
import Derived.Test.YtdibapfehdhfjaaDoorLow
import Derived.Test.YtdibapfehdhfjaaDoorRows
namespace Go.Proofs.YtdibapfehdhfjaaDoor
open Go.Eng
set_option linter.unusedVariables false
set_option linter.unusedSimpArgs false

theorem decimalShifts_tabs {W : World} (h : laidMetH Tryd.prog Rows.decimalShiftsRow.laid W) : tabOK noX W := by
  have h' : laidMet Tryd.prog Rows.decimalShiftsRow.laid W := h
  obtain ⟨ps, ⟨_, _, _, _, _, q1, _, _, _, _, h1, _⟩, _⟩ := h'
  obtain ⟨_, _, _, _, _, q2, _, _, _, _, h2, _⟩ := h1
  obtain ⟨g', t', cs, fuel, p, q, hg', ht', hvar, hd, _, _⟩ := h2
  obtain rfl := Option.some.inj (tab_named.symm.trans hg')
  have hty : (Tryd.prog.globals[1]?).map (·.type) = some 102 := by kernel_rfl
  obtain rfl := Option.some.inj (hty.symm.trans ht')
  refine ⟨?_, fun h => h⟩
  unfold Lib.TabIs
  rw [hvar, ← Lib.cells_of_tab (t := 102) (e := 47) (n := 20) (k := .u64) (zs := Lib.pow10Tab) (by kernel_rfl) (by kernel_rfl) (by kernel_rfl) (by kernel_rfl) hd]
theorem decimalShifts_walk (s0 : ByteArray) (i1 : Int) (W : World) (h0 : s0.size ≤ 140737488351232) (h1 : -9223372036854775808 ≤ i1 ∧ i1 ≤ 9223372036854775807) (hT : tabOK noX W) : Calls Tryd.prog 12 #[.string s0, .int .i64 i1] W fun e w' => e = .returned (.bool true) ∧ LowB W w' := by
  refine callS signetlaw2_DecimalShifts_val (args := [.c (.o (.val (.string s0))), .c (.o (.val (.int .i64 i1)))]) (v := .c (.o (.val (.bool true)))) ?_ rfl rfl W hT [.string s0, .int .i64 i1] rfl
  show ((signetlaw2_DecimalShifts_s s0 i1).bind fun r => some ((.c (.o (.val (.bool r))), []) : SV × List SB)) = _
  rw [decimalShifts_plain s0 i1 (by omega) (by unfold InI64; omega)]
  rfl
end Go.Proofs.YtdibapfehdhfjaaDoor
