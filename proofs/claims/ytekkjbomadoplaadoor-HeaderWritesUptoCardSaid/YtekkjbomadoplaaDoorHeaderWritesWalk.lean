/-
 HeaderWrites: its call returns true.
-/
import Derived.Test.YtekkjbomadoplaaDoorPHeader
import Derived.Test.YtekkjbomadoplaaDoorOpenVS
import Derived.Test.YtekkjbomadoplaaDoorUtf8NTabs
namespace Go.Proofs.YtekkjbomadoplaaDoor
open Go.Eng
set_option linter.unusedVariables false
set_option linter.unusedSimpArgs false

theorem headerWrites_tabs {W : World} (h : laidMetH Tryd.prog Rows.headerWritesUptoRow.laid W) : tabOK noX W := by
 have h' : laidMet Tryd.prog Rows.headerWritesUptoRow.laid W := h
 exact utf8N_tabs (Lib.laidMet.reads h' (List.mem_cons_of_mem _ (List.mem_cons_of_mem _ List.mem_cons_self))) (Lib.laidMet.reads h' List.mem_cons_self) (Lib.laidMet.reads h' (List.mem_cons_of_mem _ List.mem_cons_self))
theorem headerWrites_walk (alg : Int) (kid : ByteArray) (typ : ByteArray) (hasTyp : Bool) (W : World) (h0 : -9223372036854775808 ≤ alg ∧ alg ≤ 9223372036854775807) (h1 : kid.size ≤ 1048576) (h2 : typ.size ≤ 1048576) (hT : tabOK noX W) :
  Calls Tryd.prog 5 #[.agg #[.int .i64 alg, .string kid, .string typ, .bool hasTyp]] W fun e w' => e = .returned (.bool true) ∧ LowB W w' := by
 refine callV zan_val (args := [.c (.agg [.val (.int .i64 alg), .val (.string kid), .val (.string typ), .val (.bool hasTyp)])]) (hp := []) (hp' := []) (v := .c (.o (.val (.bool true)))) ?_ ?_ rfl W (views_sat (vs := []) trivial hT) _ rfl
 ·show ((zan_s ⟨alg, kid, typ, hasTyp⟩).bind fun r => some ((.c (.o (.val (.bool r))), []) : SV × List SB)) = _
  rw [headerWrites_plain ⟨alg, kid, typ, hasTyp⟩ h0 h1 h2]
  rfl
 ·intro x hx
  simp only [List.mem_cons, List.not_mem_nil, or_false] at hx
  rcases hx with rfl
  intro y hy
  simp only [List.mem_cons, List.not_mem_nil, or_false] at hy
  rcases hy with rfl | rfl | rfl | rfl <;> exact True.intro
end Go.Proofs.YtekkjbomadoplaaDoor
