/-
  What is known of the package's variables at the start of a call, and stays: here nothing. (Another text of this name tells tables: TabsPow10.)
-/
import Derived.Test.YtdcoiccdbgcpaaaEng
namespace Go.Eng
set_option linter.unusedVariables false
def tabOK (X : Nat → Prop) (w : World) : Prop := True
theorem tab_stable {X X' : Nat → Prop} {w0 w : World} (h : tabOK X w0) (hb : ∀ k, k < w0.heap.size → ¬ X k → w.heap[k]? = w0.heap[k]?) (hX : ∀ k, k < w0.heap.size → X' k → X k) : tabOK X' w := trivial
end Go.Eng
