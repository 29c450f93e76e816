/-
  How two numbers are compared. No program.
-/
import Derived.Test.YtdibapfehdhfjaaDoorDecLaw
namespace Go.Proofs.YtdibapfehdhfjaaDoor
open Go.Eng
set_option linter.unusedVariables false
set_option linter.unusedSimpArgs false

/-- The sum that both read: digits from the top down, no bound. -/
def ap (D : Nat → Int) (e : Int) : Nat → Int
  | 0 => e
  | k + 1 => ap D (10 * e + D k) k
def clampS (b e : Int) : Int := if e > b then b else if e < -b then -b else e
/-- The sum with the program's bound; with the document's. -/
def apP (D : Nat → Int) (e : Int) : Nat → Int
  | 0 => e
  | k + 1 => if 72057594037927936 < 10 * e + D k ∨ 10 * e + D k < -72057594037927936 then clampS 72057594037927936 (10 * e + D k) else apP D (10 * e + D k) k
/-- The document's: the sum, or the bound that it passed. -/
def apR (D : Nat → Int) (o : Int) (e : Int) : Nat → Int
  | 0 => e + o
  | k + 1 => if 1000000000000000 < 10 * e + D k then 1000000000000000 else if 10 * e + D k < -1000000000000000 then -1000000000000000 else apR D o (10 * e + D k) k
theorem ap_big {D : Nat → Int} (hD : ∀ i, -510 ≤ D i ∧ D i ≤ 510) : ∀ (k : Nat) (e : Int), (1000000000000000 < e → 1000000000000000 < ap D e k) ∧ (e < -1000000000000000 → ap D e k < -1000000000000000)
  | 0, e => ⟨id, id⟩
  | k + 1, e => by
    have h := ap_big hD k (10 * e + D k)
    have hd := hD k
    constructor
    · intro h1; exact h.1 (by omega)
    · intro h1; exact h.2 (by omega)
def sgn (x : Int) : Int := if x < 0 then -1 else if 0 < x then 1 else 0
theorem apP_sgn {D : Nat → Int} (hD : ∀ i, -510 ≤ D i ∧ D i ≤ 510) (o : Int) (ho : -900000000000000 ≤ o ∧ o ≤ 900000000000000) : ∀ (k : Nat) (e : Int), sgn (apP D e k + o) = sgn (ap D e k + o)
  | 0, e => rfl
  | k + 1, e => by
    have h := ap_big hD k (10 * e + D k)
    simp only [apP, ap]
    split
    · rename_i hc
      rcases hc with hc | hc
      · have h1 := h.1 (by omega)
        have h2 : clampS 72057594037927936 (10 * e + D k) = 72057594037927936 := by unfold clampS; split <;> first | rfl | omega
        rw [h2]
        unfold sgn
        split <;> split <;> first | rfl | omega | (split <;> first | rfl | omega | (split <;> first | rfl | omega))
      · have h1 := h.2 (by omega)
        have h2 : clampS 72057594037927936 (10 * e + D k) = -72057594037927936 := by unfold clampS; split <;> first | omega | (split <;> first | rfl | omega)
        rw [h2]
        unfold sgn
        split <;> split <;> first | rfl | omega | (split <;> first | rfl | omega | (split <;> first | rfl | omega))
    · exact apP_sgn hD o ho k _
theorem apR_sgn {D : Nat → Int} (hD : ∀ i, -510 ≤ D i ∧ D i ≤ 510) (o : Int) (ho : -100000000000 ≤ o ∧ o ≤ 100000000000) : ∀ (k : Nat) (e : Int), sgn (apR D o e k) = sgn (ap D e k + o)
  | 0, e => rfl
  | k + 1, e => by
    have h := ap_big hD k (10 * e + D k)
    simp only [apR, ap]
    split
    · rename_i hc
      have h1 := h.1 (by omega)
      unfold sgn
      split <;> split <;> first | rfl | omega | (split <;> first | rfl | omega | (split <;> first | rfl | omega))
    · split
      · rename_i hc
        have h1 := h.2 (by omega)
        unfold sgn
        split <;> split <;> first | rfl | omega | (split <;> first | rfl | omega | (split <;> first | rfl | omega))
      · exact apR_sgn hD o ho k _
theorem ap_neg (D : Nat → Int) : ∀ (k : Nat) (e : Int), ap (fun i => -D i) (-e) k = -ap D e k
  | 0, e => rfl
  | k + 1, e => by
    simp only [ap]
    rw [show 10 * -e + -D k = -(10 * e + D k) by omega]
    exact ap_neg D k _
theorem sgn_neg (x : Int) : sgn (-x) = -sgn x := by
  unfold sgn
  split <;> split <;> first | rfl | omega | (split <;> first | rfl | omega | (split <;> first | rfl | omega))
end Go.Proofs.YtdibapfehdhfjaaDoor
