/-
  JsonFinds: its call returns true.
-/
import Derived.Test.YtdcoiccdbgcpaaaDoorPFinds2
import Derived.Test.YtdcoiccdbgcpaaaDoorOpenV
namespace Go.Proofs.YtdcoiccdbgcpaaaDoor
open Go.Eng
set_option linter.unusedVariables false
set_option linter.unusedSimpArgs false

theorem jsonFinds_tabs {W : World} (h : laidMetH Tryd.prog Rows.jsonFindsUptoRow.laid W) : tabOK noX W := by
  have h' : laidMet Tryd.prog Rows.jsonFindsUptoRow.laid W := h
  obtain ⟨ps, ⟨_, _, _, _, _, q1, _, _, _, _, h1, _⟩, _⟩ := h'
  obtain ⟨_, _, _, _, _, q2, _, _, _, _, h2, _⟩ := h1
  obtain ⟨g', t', cs, fuel, p, q, hg', ht', hvar, hd, _, _⟩ := h2
  obtain rfl := Option.some.inj (tab_named.symm.trans hg')
  have hty : (Tryd.prog.globals[13]?).map (·.type) = some 226 := by kernel_rfl
  obtain rfl := Option.some.inj (hty.symm.trans ht')
  refine ⟨?_, fun h => h⟩
  unfold Lib.TabIs
  rw [hvar, ← Lib.cells_of_tab (t := 226) (e := 135) (n := 20) (k := .u64) (zs := Lib.pow10Tab) (by kernel_rfl) (by kernel_rfl) (by kernel_rfl) (by kernel_rfl) hd]
theorem jsonFinds_walk (v0 : Value) (x0 : List Eng.Node) (a1 : Int) (s2 : ByteArray) (W : World) (h0 : ViewAt noX W W .node v0 x0 ∧ (∀ n ∈ x0, NodeB 1048576 n) ∧ x0.length ≤ 1048576) (h1 : -9223372036854775808 ≤ a1 ∧ a1 ≤ 9223372036854775807) (h2 : s2.size ≤ 1048576) (hT : tabOK noX W) :
    Calls Tryd.prog 5 #[v0, .int .i64 a1, .string s2] W fun e w' => e = .returned (.bool true) ∧ LowB W w' := by
  refine callV signetlaw3_JsonFinds_val (args := [.c (.o (.own 0)), .c (.o (.val (.int .i64 a1))), .c (.o (.val (.string s2)))]) (hp := [.view .node x0]) (hp' := [.view .node x0]) (v := .c (.o (.val (.bool true)))) ?_ ?_ rfl W (views_sat (vs := [v0]) ⟨h0.1, trivial⟩ hT) [v0, .int .i64 a1, .string s2] rfl
  · show ((signetlaw3_JsonFinds_s x0 a1 s2).bind fun r => some ((.c (.o (.val (.bool r))), [.view .node x0]) : SV × List SB)) = _
    rw [jsonFinds_plain x0 a1 s2 h0.2.2 (fun n hn => ⟨(h0.2.1 n hn).key, (h0.2.1 n hn).text, (h0.2.1 n hn).kids⟩) h2]
    rfl
  · intro x hx
    simp only [List.mem_cons, List.not_mem_nil, or_false] at hx
    rcases hx with rfl | rfl | rfl
    · exact Nat.zero_lt_one
    · trivial
    · trivial
end Go.Proofs.YtdcoiccdbgcpaaaDoor
