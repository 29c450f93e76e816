/-
  More small lemmas without a program.
-/
import Derived.Test.YtoafhhhnomnjiaaDoorCommon
namespace Go.Proofs.YtoafhhhnomnjiaaDoor
open Go.RowKit

theorem own_room {w : World} {base : Nat} {e : TypeId} {size n g c : Nat} {xs : List Value} (h : w.ownsRow base e size (.slice (some ⟨g, 0, none⟩) n c) n xs) : n ≤ c := by
  rcases h.2 with ⟨h, _⟩ | ⟨g', cap, cur, h, _, _, hnc, _⟩
  · cases h
  · injection h with _ _ h3
    omega

theorem grown_trans {a b c : World} {row : Option Nat} (h : a.grownBy b row) (k : b.grownBy c row) : a.grownBy c row :=
  ⟨k.os.trans h.os, k.tape.trans h.tape, k.output.trans h.output, Nat.le_trans h.size k.size, fun i hi hne => (k.block i (Nat.lt_of_lt_of_le hi h.size) hne).trans (h.block i hi hne)⟩

/-- A row of texts that the call owns, handed on as an argument. -/
theorem strsArg_of_own {w : World} {base g cap n N : Nat} {e : TypeId} {xs : List ByteArray} {rest : List Value} (h : w.ownsRow base e 1 (.slice (some ⟨g, 0, none⟩) N cap) N (xs.map Value.string ++ rest))
    (hl : (xs.map Value.string).length = n * 1) (hz : n * 16 ≤ RB) (hs : ∀ s ∈ xs, s.size ≤ RB) : StrsArg w (some ⟨g, 0, none⟩) n cap xs := by
  have hN : n ≤ N := by have := h.1; simp only [List.length_append, hl] at this; omega
  refine ⟨⟨hl, fun _ => ⟨g, 0, rfl, (own_lt h).2, fun j u hu => ?_⟩⟩, Nat.le_trans hN (own_room h), hz, ?_, hs⟩
  · rw [Nat.zero_add]
    exact own_cell h j u (by rw [List.getElem?_append_left (List.getElem?_eq_some_iff.1 hu).1]; exact hu)
  · rcases h.2 with ⟨h, _⟩ | ⟨g', cap', cur, h, _, _, _, hm, _⟩
    · cases h
    · injection h with _ _ h3
      omega

end Go.Proofs.YtoafhhhnomnjiaaDoor
