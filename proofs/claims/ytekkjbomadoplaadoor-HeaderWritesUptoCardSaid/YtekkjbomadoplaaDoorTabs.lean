/-
 What is known of the package's variables at the start of a call, and stays: the two tables of unicode/utf8, the algorithms' names. (In the place of Tabs.)
-/
import Derived.Test.YtekkjbomadoplaaDoorEng
import Derived.Test.YtekkjbomadoplaaDoorNames
import Derived.Test.YtekkjbomadoplaaDoorProg
import Derived.Lib.DecodeN
namespace Go.Eng
open Go.Proofs
set_option linter.unusedVariables false
def tabOK (X : Nat → Prop) (w : World) : Prop :=
 ((∀ c, c < 256 → w.cell? ⟨1, c, none⟩ = some (.int .u8 (Lib.firstT c))) ∧
  (∀ i, i < 16 → w.cell? ⟨2, 2 * i, none⟩ = some (.int .u8 (Lib.accLo i)) ∧ w.cell? ⟨2, 2 * i + 1, none⟩ = some (.int .u8 (Lib.accHi i)))) ∧
 (∀ k, k < 13 → w.cell? ⟨0, k, none⟩ = some (.string (algAt k))) ∧
 ¬ X 1 ∧ ¬ X 2 ∧ ¬ X 0
theorem cell_heap {w : World} {a : Addr} {v : Value} (h : w.cell? a = some v) : a.block < w.heap.size := by
 rcases Nat.lt_or_ge a.block w.heap.size with h' | h'
 ·exact h'
 ·unfold World.cell? at h
  simp [Array.getElem?_eq_none h'] at h
theorem cell_same {w w' : World} {a : Addr} (h : w'.heap[a.block]? = w.heap[a.block]?) : w'.cell? a = w.cell? a := by
 unfold World.cell?
 rw [h]
theorem tab_stable {X X' : Nat → Prop} {w0 w : World} (h : tabOK X w0) (hb : ∀ k, k < w0.heap.size → ¬ X k → w.heap[k]? = w0.heap[k]?) (hX : ∀ k, k < w0.heap.size → X' k → X k) : tabOK X' w := by
 obtain ⟨⟨h1, h2⟩, h0, h3, h4, h5⟩ := h
 have l1 := cell_heap (h1 0 (by omega))
 have l2 := cell_heap (h2 0 (by omega)).1
 have l3 := cell_heap (h0 0 (by omega))
 refine ⟨⟨fun c hc => ?_, fun i hi => ⟨?_, ?_⟩⟩, fun k hk => ?_, fun h => h3 (hX _ l1 h), fun h => h4 (hX _ l2 h), fun h => h5 (hX _ l3 h)⟩
 ·exact (cell_same (a := ⟨1, c, none⟩) (hb _ l1 h3)).trans (h1 c hc)
 ·exact (cell_same (a := ⟨2, 2 * i, none⟩) (hb _ l2 h4)).trans (h2 i hi).1
 ·exact (cell_same (a := ⟨2, 2 * i + 1, none⟩) (hb _ l2 h4)).trans (h2 i hi).2
 ·exact (cell_same (a := ⟨0, k, none⟩) (hb _ l3 h5)).trans (h0 k hk)
end Go.Eng
