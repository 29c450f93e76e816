/-
  JsonBack: its call returns true.
-/
import Derived.Test.YtdcoiccdbgcpaaaDoorUtf8Tabs
namespace Go.Proofs.YtdcoiccdbgcpaaaDoor
open Go.Eng
set_option linter.unusedVariables false
set_option linter.unusedSimpArgs false
theorem jsonBack_tabs {W:World} (h:laidMetH Tryd.prog Rows.jsonBackUptoRow.laid W):tabOK noX W:=by
 have h':laidMet Tryd.prog Rows.jsonBackUptoRow.laid W:=h
 exact utf8_tabs (Lib.laidMet.reads h' (List.mem_cons_of_mem _ List.mem_cons_self)) (Lib.laidMet.reads h' List.mem_cons_self)
theorem jsonBack_walk (v0:Value) (x0:List Eng.Node) (s1:ByteArray) (W:World) (h0:qEz noX W W .node v0 x0∧(∀n∈x0,NodeB 1048576 n)∧x0.length≤1048576) (h1:s1.size≤1048576) (hT:tabOK noX W) :
  Calls Tryd.prog 9 #[v0,.string s1] W fun e w'=>e=.returned (.bool true)∧LowB W w':=by
 refine callV zbk_val (args:=[.c (.o (.own 0)),.c (.o (.val (.string s1)))]) (hp:=[.view .node x0]) (hp':=[.view .node x0]) (v:=.c (.o (.val (.bool true)))) ?_ ?_ rfl W (views_sat (vs:=[v0]) ⟨h0.1,trivial⟩ hT) [v0,.string s1] rfl
 ·show ((zbk_s x0 s1).bind fun r=>some ((.c (.o (.val (.bool r))),[.view .node x0]):SV × List SB))=_
  rw [jsonBack_plain x0 ⟨by omega,fun n hn=>⟨by have:=(h0.2.1 n hn).key; omega,by have:=(h0.2.1 n hn).text; omega,(h0.2.1 n hn).kids⟩⟩ s1]
  rfl
 ·intro x hx
  simp only [List.mem_cons,List.not_mem_nil,or_false] at hx
  rcases hx with rfl | rfl
  ·exact Nat.zero_lt_one
  ·trivial
end Go.Proofs.YtdcoiccdbgcpaaaDoor
