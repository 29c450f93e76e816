/-
  What is known of the package's variables at the start of a call, and stays: the table of powers of ten of internal/strconv. (In the place of Tabs.)
-/
import Derived.Test.YtdcoiccdbgcpaaaDoorEng
import Derived.Test.YtdcoiccdbgcpaaaDoorProg
import Derived.Lib.LaidTab
import Derived.Lib.ItoaMem
namespace Go.Eng
open Go.Proofs
set_option linter.unusedVariables false
def tabOK (X : Nat → Prop) (w : World) : Prop := Lib.TabIs Tryd.prog w "internal/strconv.uint64pow10" .u64 Lib.pow10Tab ∧ ¬ X 13
theorem tab_named : Tryd.prog.globalNamed "internal/strconv.uint64pow10" = some 13 := by kernel_rfl
theorem tab_stable {X X' : Nat → Prop} {w0 w : World} (h : tabOK X w0) (hb : ∀ k, k < w0.heap.size → ¬ X k → w.heap[k]? = w0.heap[k]?) (hX : ∀ k, k < w0.heap.size → X' k → X k) : tabOK X' w := by
  obtain ⟨h1, h2⟩ := h
  have hlt : 13 < w0.heap.size := by
    rcases Nat.lt_or_ge 13 w0.heap.size with h' | h'
    · exact h'
    · unfold Lib.TabIs World.var? at h1
      simp only [tab_named, Option.bind_some] at h1
      rw [Array.getElem?_eq_none h'] at h1
      simp at h1
  refine ⟨?_, fun h => h2 (hX _ hlt h)⟩
  unfold Lib.TabIs World.var? at h1 ⊢
  simp only [tab_named, Option.bind_some] at h1 ⊢
  rw [hb _ hlt h2]
  exact h1
end Go.Eng
