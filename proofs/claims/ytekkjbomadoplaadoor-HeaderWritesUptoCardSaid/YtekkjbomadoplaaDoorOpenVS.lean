/-
 Structs that hold slices, opened as the engine's views (printed by structsV.py).
-/
import Derived.Test.YtekkjbomadoplaaDoorOpenV
namespace Go.Proofs.YtekkjbomadoplaaDoor
open Go.RowKit Go.ChangeShapes Go.WideShapes Go.Deep Go.Eng
set_option linter.unusedVariables false
set_option maxRecDepth 100000
section
variable {H : Type} {enc : TypeId × Value → H} {W : World} {sp : Nat → Bool} {held : Bool} {r : Reach} {b0 : Nat}
theorem bulk_str {B : Nat} {s : ByteArray} (h : Rows.uptoBulk (H := H) (.lit (.string s.data.toList)) ≤ B) : s.size ≤ B := by
 simp only [Rows.uptoBulk, Array.length_toList] at h
 have : s.size = s.data.size := rfl
 omega

theorem openVS_header {B : Nat} {v : Value} {d : DataW H} {p : List MemPlace} (hv : Value.okWide Tryd.prog W r b0 48 v) (h : DataW.Trod enc Tryd.prog W 0 sp held 48 v d p) (hz : Rows.uptoBulk d ≤ B) :
  ∃ (alg : Int) (kid : ByteArray) (typ : ByteArray) (hasTyp : Bool), v = .agg #[.int .i64 alg, .string kid, .string typ, .bool hasTyp] ∧
   (-9223372036854775808 ≤ alg ∧ alg ≤ 9223372036854775807) ∧ kid.size ≤ B ∧ typ.size ≤ B := by
 obtain ⟨cs, rfl, hsz⟩ := okWide_struct Tryd.underlying48 hv
 obtain ⟨l⟩ := cs
 have hC : Tryd.prog.cellsOf 48 = 4 := by kernel_rfl
 match l, hsz.trans hC with
 | [c0, c1, c2, c3], _ =>
  obtain ⟨fuel, hf⟩ := h
  obtain ⟨xs, n, _, hx, _, hlen, hg⟩ := DataW.trod_struct Tryd.underlying48 hf
  match xs, hlen with
  | [y0, y1, y2, y3], _ =>
   simp only [Prod.mk.injEq, List.map_cons, List.map_nil] at hx
   obtain ⟨rfl, _⟩ := hx
   simp only [Rows.uptoBulk, Rows.uptoBulkAll] at hz
   have g0 : DataW.trod enc Tryd.prog W 0 sp held n 46 [c0] = some y0 := by simpa [show Tryd.prog.cellsOf 46 = 1 by kernel_rfl, Value.cells] using hg 0 _ rfl
   have z0 : Rows.uptoBulk y0.1 ≤ B := by omega
   have g1 : DataW.trod enc Tryd.prog W 0 sp held n 9 [c1] = some y1 := by simpa [show Tryd.prog.cellsOf 9 = 1 by kernel_rfl, Value.cells] using hg 1 _ rfl
   have z1 : Rows.uptoBulk y1.1 ≤ B := by omega
   have g2 : DataW.trod enc Tryd.prog W 0 sp held n 9 [c2] = some y2 := by simpa [show Tryd.prog.cellsOf 9 = 1 by kernel_rfl, Value.cells] using hg 2 _ rfl
   have z2 : Rows.uptoBulk y2.1 ≤ B := by omega
   have g3 : DataW.trod enc Tryd.prog W 0 sp held n 4 [c3] = some y3 := by simpa [show Tryd.prog.cellsOf 4 = 1 by kernel_rfl, Value.cells] using hg 3 _ rfl
   have z3 : Rows.uptoBulk y3.1 ≤ B := by omega
   clear hz hg
   obtain ⟨alg, e0, rfl, i0⟩ := DataW.trod_int Tryd.underlying46 g0
   simp only [List.cons.injEq, and_true] at e0
   subst e0
   obtain ⟨kid, e1, rfl, i1⟩ := DataW.trod_string Tryd.underlying9 g1
   simp only [List.cons.injEq, and_true] at e1
   subst e1
   obtain ⟨typ, e2, rfl, i2⟩ := DataW.trod_string Tryd.underlying9 g2
   simp only [List.cons.injEq, and_true] at e2
   subst e2
   obtain ⟨hasTyp, e3, rfl⟩ := DataW.trod_bool Tryd.underlying4 g3
   simp only [List.cons.injEq, and_true] at e3
   subst e3
   exact ⟨alg, kid, typ, hasTyp, rfl, Go.Eng.i64_of_wf i0, bulk_str z1, bulk_str z2⟩

end
end Go.Proofs.YtekkjbomadoplaaDoor
