/-
 JsonWrites: its call returns true.
-/
import Derived.Test.YtdcoiccdbgcpaaaDoorPWrites
import Derived.Test.YtdcoiccdbgcpaaaDoorOpenV
import Derived.Test.YtdcoiccdbgcpaaaDoorUtf8Tabs
namespace Go.Proofs.YtdcoiccdbgcpaaaDoor
open Go.Eng
set_option linter.unusedVariables false
set_option linter.unusedSimpArgs false

theorem jsonWrites_tabs {W : World} (h : laidMetH Tryd.prog Rows.jsonWritesUptoRow.laid W) : tabOK noX W := by
 have h' : laidMet Tryd.prog Rows.jsonWritesUptoRow.laid W := h
 exact utf8_tabs (Lib.laidMet.reads h' (List.mem_cons_of_mem _ List.mem_cons_self)) (Lib.laidMet.reads h' List.mem_cons_self)
theorem jsonWrites_walk (v0 : Value) (x0 : List Eng.Node) (W : World) (h0 : ViewAt noX W W .node v0 x0 ∧ (∀ n ∈ x0, NodeB 1048576 n) ∧ x0.length ≤ 1048576) (hT : tabOK noX W) :
  Calls Tryd.prog 7 #[v0] W fun e w' => e = .returned (.bool true) ∧ LowB W w' := by
 refine callV zam_val (args := [.c (.o (.own 0))]) (hp := [.view .node x0]) (hp' := [.view .node x0]) (v := .c (.o (.val (.bool true)))) ?_ ?_ rfl W (views_sat (vs := [v0]) ⟨h0.1, trivial⟩ hT) [v0] rfl
 ·show ((zam_s x0).bind fun r => some ((.c (.o (.val (.bool r))), [.view .node x0]) : SV × List SB)) = _
  rw [jsonWrites_plain x0 h0.2.2 (fun n hn => ⟨(h0.2.1 n hn).key, (h0.2.1 n hn).text, (h0.2.1 n hn).kids⟩)]
  rfl
 ·intro x hx
  simp only [List.mem_cons, List.not_mem_nil, or_false] at hx
  rcases hx with rfl
  exact Nat.zero_lt_one
end Go.Proofs.YtdcoiccdbgcpaaaDoor
