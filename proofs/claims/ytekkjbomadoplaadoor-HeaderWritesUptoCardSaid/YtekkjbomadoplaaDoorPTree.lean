/-
 Lists of nodes as trees. No program.
-/
import Derived.Test.YtekkjbomadoplaaDoorEngS
namespace Go.Proofs.YtekkjbomadoplaaDoor
open Go.Eng
set_option linter.unusedVariables false
set_option linter.unusedSimpArgs false

/-- From place a on stand k values, one behind the other; they end at e. -/
inductive Trees (v : List Eng.Node) : Nat → Nat → Nat → Prop
 | nil (a : Nat) : a ≤ v.length → Trees v 0 a a
 | cons {k a b e : Nat} (n : Eng.Node) : v[a]? = some n → 0 ≤ n.kids → Trees v n.kids.toNat (a + 1) b → Trees v k b e → Trees v (k + 1) a e
/-- The value at a place ends at e. -/
def Tree (v : List Eng.Node) (a e : Nat) : Prop := Trees v 1 a e

theorem Trees.le {v : List Eng.Node} {k a e : Nat} (h : Trees v k a e) : a + k ≤ e ∧ e ≤ v.length := by
 induction h with
 | nil a ha => exact ⟨by omega, ha⟩
 | cons n hn h0 h1 h2 i1 i2 => exact ⟨by omega, i2.2⟩
theorem Trees.zero {v : List Eng.Node} {a e : Nat} (h : Trees v 0 a e) : e = a := by
 cases h
 rfl
theorem Trees.succ {v : List Eng.Node} {k a e : Nat} (h : Trees v (k + 1) a e) : ∃ n b, v[a]? = some n ∧ 0 ≤ n.kids ∧ Trees v n.kids.toNat (a + 1) b ∧ Trees v k b e := by
 cases h with
 | cons n hn h0 h1 h2 => exact ⟨n, _, hn, h0, h1, h2⟩
theorem Trees.det {v : List Eng.Node} {k a e : Nat} (h : Trees v k a e) : ∀ {e'}, Trees v k a e' → e = e' := by
 induction h with
 | nil a ha => intro e' h'; exact h'.zero.symm
 | cons n hn h0 h1 h2 i1 i2 =>
  intro e' h'
  obtain ⟨n', b', hn', _, g1, g2⟩ := h'.succ
  rw [hn] at hn'
  cases hn'
  have := i1 g1
  subst this
  exact i2 g2
theorem Trees.app {v : List Eng.Node} {k a b : Nat} (h : Trees v k a b) : ∀ {m e}, Trees v m b e → Trees v (m + k) a e := by
 induction h with
 | nil a ha => intro m e h'; exact h'
 | cons n hn h0 h1 h2 i1 i2 =>
  intro m e h'
  exact Trees.cons n hn h0 h1 (i2 h')
theorem Trees.one {v : List Eng.Node} {k a e : Nat} (h : Trees v (k + 1) a e) : ∃ b, Tree v a b ∧ Trees v k b e := by
 obtain ⟨n, b, h1, h2, h3, h4⟩ := h.succ
 exact ⟨b, Trees.cons n h1 h2 h3 (Trees.nil b h3.le.2), h4⟩
theorem Tree.node {v : List Eng.Node} {a e : Nat} (h : Tree v a e) : ∃ n, v[a]? = some n ∧ 0 ≤ n.kids ∧ Trees v n.kids.toNat (a + 1) e := by
 obtain ⟨n, b, h1, h2, h3, h4⟩ := Trees.succ h
 have := h4.zero
 subst this
 exact ⟨n, h1, h2, h3⟩
theorem Tree.mk {v : List Eng.Node} {a e : Nat} {n : Eng.Node} (h1 : v[a]? = some n) (h2 : 0 ≤ n.kids) (h3 : Trees v n.kids.toNat (a + 1) e) : Tree v a e := Trees.cons n h1 h2 h3 (Trees.nil e h3.le.2)
/-- Each place in a value is a value's. -/
theorem Trees.sub {v : List Eng.Node} {k a e : Nat} (h : Trees v k a e) : ∀ {p : Nat}, a ≤ p → p < e → ∃ e', Tree v p e' ∧ e' ≤ e := by
 induction h with
 | nil a ha => intro p h1 h2; omega
 | @cons k a b e n hn h0 h1 h2 i1 i2 =>
  intro p hp1 hp2
  rcases Nat.lt_or_ge p b with hb | hb
  ·rcases Nat.eq_or_lt_of_le hp1 with hq | hq
   ·subst hq
    exact ⟨b, Tree.mk hn h0 h1, h2.le.1 |> fun h => by omega⟩
   ·obtain ⟨e', j1, j2⟩ := i1 (p := p) hq hb
    exact ⟨e', j1, by have := h2.le.1; omega⟩
  ·exact i2 hb hp2
/-- The places of k values from a on. -/
def placesT (v : List Eng.Node) : Nat → Nat → List Nat → Nat → Prop
 | 0, a, l, e => l = [] ∧ e = a
 | k + 1, a, l, e => ∃ b r, l = a :: r ∧ Tree v a b ∧ placesT v k b r e
theorem Trees.places {v : List Eng.Node} : ∀ {k a e : Nat}, Trees v k a e → ∃ l, placesT v k a l e
 | 0, a, e, h => ⟨[], rfl, h.zero⟩
 | k + 1, a, e, h => by
  obtain ⟨b, h1, h2⟩ := h.one
  obtain ⟨l, hl⟩ := h2.places
  exact ⟨a :: l, b, l, rfl, h1, hl⟩
theorem placesT.len {v : List Eng.Node} : ∀ {k a e : Nat} {l : List Nat}, placesT v k a l e → l.length = k
 | 0, a, e, l, h => by rw [h.1]; rfl
 | k + 1, a, e, l, h => by
  obtain ⟨b, r, rfl, _, h2⟩ := h
  simp [h2.len]
end Go.Proofs.YtekkjbomadoplaaDoor
