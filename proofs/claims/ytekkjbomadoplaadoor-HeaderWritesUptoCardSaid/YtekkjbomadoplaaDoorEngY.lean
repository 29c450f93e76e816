/-
 What a call makes, and what it is handed to read: carried between the heap of the caller and that of the callee. No program.
-/
import Derived.Test.YtekkjbomadoplaaDoorEngX
namespace Go.Eng
set_option linter.unusedVariables false
set_option linter.unusedSimpArgs false

/-- A slice that came back: nil, or a row of the callee's heap. -/
def Back (hp : List SB) (x : S0 × SB) : Prop :=
 (x.1 = .val (.slice none 0 0) ∧ ∃ t e, x.2 = .row t e []) ∨ ∃ i t e l, x.1 = .own i ∧ x.2 = .row t e l ∧ hp[i]? = some (.row t e l)

/-- A slice of the caller's, as its callee may read it. -/
theorem HpSat.viewOf {X : Nat → Prop} {w0 w : World} {ρ : Nat → Value} {hp : List SB} (h : HpSat X w0 w ρ hp) (hf : Stays X w0 w) {i : Nat} {t : ET} {l : List t.T} (hsb : (∃ e, hp[i]? = some (.row t e l)) ∨ hp[i]? = some (.view t l)) : ViewAt noX w w t (ρ i) l := by
 rcases hsb with ⟨e, hsb⟩ | hsb
 ·obtain ⟨h1, h2⟩ := h.sat i _ hsb
  rcases h1.2 with ⟨hv, hn⟩ | ⟨g, cap, cur, hv, hb, hg, hnc, hcm, hcs, htake⟩
  ·have hnil : l = [] := List.eq_nil_of_length_eq_zero hn
   subst hnil
   exact ⟨none, 0, hv, Nat.le_refl _, fun j u hu => by simp at hu⟩
  ·refine ⟨_, cap, hv, hnc, fun j u hu => ⟨_, rfl, World.ownsRow.cells h1 (g := g) (by rw [hv]; rfl) j u hu, (Array.getElem?_eq_some_iff.1 hg).1, id⟩⟩
 ·obtain ⟨a, cap, hv, hc, h1⟩ := h.sat i _ hsb
  refine ⟨a, cap, hv, hc, fun j u hu => ?_⟩
  obtain ⟨ad, ha, h2, h3, h4⟩ := h1 j u hu
  exact ⟨ad, ha, h2, Nat.lt_of_lt_of_le h3 hf.size, id⟩

/-- A heap of slices that are read. -/
theorem HpSat.views {w : World} {ρ : Nat → Value} {hp : List SB} (ht : tabOK noX w) (h : ∀ (i : Nat) (sb : SB), hp[i]? = some sb → ∃ (t : ET) (l : List t.T), sb = .view t l ∧ ViewAt noX w w t (ρ i) l) : HpSat noX w w ρ hp := by
 refine ⟨fun i hi => ?_, fun i sb hi => ?_, fun i sb hi => ?_, fun i j sb1 sb2 b _ hi _ e1 => ?_, ht⟩
 ·obtain ⟨t, l, _, a, cap, hv, _⟩ := h i _ (List.getElem?_eq_getElem hi)
  rw [hv]; trivial
 ·obtain ⟨t, l, rfl, hv⟩ := h i sb hi
  exact hv
 ·obtain ⟨t, l, rfl, hv⟩ := h i sb hi
  trivial
 ·obtain ⟨t, l, rfl, hv⟩ := h i sb1 hi
  cases e1

/-- A row or a view, as a list. -/
def rowOf (t : ET) : Option SB → Option (List t.T)
 | some (.row t' _ l) => if h : t' = t then some (h ▸ l) else none
 | some (.view t' l) => if h : t' = t then some (h ▸ l) else none
 | _ => none
end Go.Eng
