/-
  Texts: bytes, digits, beginnings and ends. No program.
-/
import Derived.Test.YtdibapfehdhfjaaDoorEngN
import Derived.Lib.Bytealg
namespace Go.Proofs.YtdibapfehdhfjaaDoor
open Go.Eng
set_option linter.unusedVariables false
set_option linter.unusedSimpArgs false

theorem bAt_in {s : ByteArray} {k : Nat} (h : k < s.size) : bAt s k = (s[k].toNat : Int) := by
  simp [bAt, h]
theorem bAt_range (s : ByteArray) (i : Int) : -1 ≤ bAt s i ∧ bAt s i ≤ 255 := by
  unfold bAt
  split
  · split
    · rename_i b _
      have := b.toNat_lt
      omega
    · omega
  · omega
theorem lt_of_bAt {s : ByteArray} {i : Int} (h : 0 ≤ bAt s i) : 0 ≤ i ∧ i < s.size := by
  unfold bAt at h
  split at h
  · split at h
    · rename_i h0 b hb
      have : i.toNat < s.size := by
        rcases Nat.lt_or_ge i.toNat s.size with h' | h'
        · exact h'
        · rw [getElem?_neg s i.toNat (Nat.not_lt.2 h')] at hb
          cases hb
      omega
    · omega
  · omega
theorem bAt_out {s : ByteArray} {i : Int} (h : ¬ i < s.size) : bAt s i = -1 := by
  have := (bAt_range s i).1
  rcases Int.lt_or_le (bAt s i) 0 with h' | h'
  · omega
  · exact (h (lt_of_bAt h').2).elim
theorem bAt_nn {s : ByteArray} {i : Int} (h0 : 0 ≤ i) (h : i < s.size) : 0 ≤ bAt s i := by
  have h1 : i.toNat < s.size := by omega
  have := bAt_in h1
  rw [Int.toNat_of_nonneg h0] at this
  rw [this]
  omega
/-- A digit. -/
def digS (s : ByteArray) (i : Int) : Bool := decide (48 ≤ bAt s i) && decide (bAt s i ≤ 57)
theorem digS_lt {s : ByteArray} {i : Int} (h : digS s i = true) : i < s.size := by simp only [digS, Bool.and_eq_true, decide_eq_true_eq] at h; exact (lt_of_bAt (by omega)).2
/-- The place behind all digits from a place on. -/
def manyS (s : ByteArray) (i : Nat) : Nat := if h : digS s i = true then manyS s (i + 1) else i
  termination_by s.size - i
  decreasing_by have := digS_lt h; omega
theorem manyS_yes {s : ByteArray} {i : Nat} (h : digS s i = true) : manyS s i = manyS s (i + 1) := by rw [manyS, dif_pos h]
theorem manyS_no {s : ByteArray} {i : Nat} (h : digS s i = false) : manyS s i = i := by rw [manyS, dif_neg (by simp [h])]
theorem manyS_ge (s : ByteArray) (k : Nat) : k ≤ manyS s k := by
  by_cases h : digS s k = true
  · rw [manyS_yes h]
    have := manyS_ge s (k + 1)
    omega
  · rw [manyS_no (by simpa using h)]
    exact Nat.le_refl _
termination_by s.size - k
decreasing_by have := digS_lt h; omega
theorem manyS_le (s : ByteArray) (k : Nat) (hk : k ≤ s.size) : manyS s k ≤ s.size := by
  by_cases h : digS s k = true
  · rw [manyS_yes h]
    exact manyS_le s (k + 1) (by have := digS_lt h; omega)
  · rw [manyS_no (by simpa using h)]
    exact hk
termination_by s.size - k
decreasing_by have := digS_lt h; omega
theorem bAt_extract (s : ByteArray) (a b : Nat) (i : Int) (h0 : 0 ≤ i) (hb : a + i < b) : bAt (s.extract a b) i = bAt s (a + i) := by
  by_cases h : a + i < s.size
  · have h1 : i.toNat < (s.extract a b).size := by rw [ByteArray.size_extract]; omega
    have h2 : a + i.toNat < s.size := by omega
    have e1 := bAt_in h1
    have e2 := bAt_in h2
    rw [Int.toNat_of_nonneg h0] at e1
    rw [show ((a + i.toNat : Nat) : Int) = a + i by omega] at e2
    rw [e1, e2, ByteArray.getElem_extract]
  · rw [bAt_out h, bAt_out]
    rw [ByteArray.size_extract]
    omega
theorem bAt_tail (s : ByteArray) (a : Nat) (i : Int) (h0 : 0 ≤ i) : bAt (s.extract a s.size) i = bAt s (a + i) := by
  by_cases h : a + i < s.size
  · exact bAt_extract s a s.size i h0 (by omega)
  · rw [bAt_out h, bAt_out]
    rw [ByteArray.size_extract]
    omega
theorem tail_size (s : ByteArray) (a : Nat) : (s.extract a s.size).size = s.size - a := by rw [ByteArray.size_extract]; omega
theorem tail_tail (s : ByteArray) (a b : Nat) : (s.extract a s.size).extract b (s.extract a s.size).size = s.extract (a + b) s.size := by
  rw [ByteArray.extract_extract, tail_size]
  by_cases h : a ≤ s.size
  · congr 1; omega
  · have h1 : s.extract (a + b) (min (a + (s.size - a)) s.size) = ByteArray.empty := ByteArray.extract_eq_empty_iff.2 (by omega)
    have h2 : s.extract (a + b) s.size = ByteArray.empty := ByteArray.extract_eq_empty_iff.2 (by omega)
    rw [h1, h2]
theorem head_tail (s : ByteArray) (a n : Nat) : (s.extract a s.size).extract 0 n = s.extract a (min (a + n) s.size) := by
  rw [ByteArray.extract_extract, Nat.add_zero]
theorem all_of (s : ByteArray) : s.extract 0 s.size = s := by simp
theorem none_of (s : ByteArray) : (s.extract s.size s.size) = ⟨#[]⟩ := by
  have : s.extract s.size s.size = ByteArray.empty := ByteArray.extract_eq_empty_iff.2 (by omega)
  rw [this]; rfl
theorem eq_none {s : ByteArray} : s = ⟨#[]⟩ ↔ s.size = 0 := by
  constructor
  · intro h; rw [h]; rfl
  · intro h
    have := all_of s
    rw [← this]
    have h2 : s.extract 0 s.size = ByteArray.empty := ByteArray.extract_eq_empty_iff.2 (by omega)
    rw [h2]; rfl
theorem ext_bAt {s t : ByteArray} (hz : s.size = t.size) (h : ∀ i : Nat, i < s.size → bAt s i = bAt t i) : s = t :=
  ByteArray.ext_getElem hz fun i h1 h2 => by
    have := h i h1
    rw [bAt_in h1, bAt_in h2] at this
    exact UInt8.toNat_inj.1 (by omega)

/-- A text's beginning. -/
def hasPre (s p : ByteArray) : Bool := decide (p.size ≤ s.size) && decide (s.extract 0 p.size = p)
def cutPre (s p : ByteArray) : ByteArray := if hasPre s p = true then s.extract p.size s.size else s
theorem hasPre_one {s p : ByteArray} (hp : p.size = 1) : hasPre s p = decide (bAt s 0 = bAt p 0) := by
  have hn : 0 ≤ bAt p 0 := bAt_nn (by omega) (by omega)
  unfold hasPre
  rw [hp]
  by_cases h : 1 ≤ s.size
  · have hz : (s.extract 0 1).size = p.size := by rw [ByteArray.size_extract]; omega
    simp only [h, decide_true, Bool.true_and]
    rw [decide_eq_decide]
    have hb : bAt (s.extract 0 1) 0 = bAt s 0 := by rw [bAt_extract s 0 1 0 (by omega) (by omega)]; rfl
    constructor
    · intro e; rw [← hb, e]
    · intro e
      refine ext_bAt hz fun i hi => ?_
      rw [hz, hp] at hi
      obtain rfl : i = 0 := by omega
      show bAt (s.extract 0 1) 0 = bAt p 0
      rw [hb, e]
  · have : bAt s 0 = -1 := bAt_out (by omega)
    simp [h, this]
    omega

theorem hasPre_le {s p : ByteArray} (h : hasPre s p = true) : p.size ≤ s.size := by
  simp only [hasPre, Bool.and_eq_true, decide_eq_true_eq] at h
  exact h.1
/-- The place behind all bytes b from a place on. -/
def leadB (s : ByteArray) (b : Int) (i : Nat) : Nat := if h : i < s.size ∧ bAt s i = b then leadB s b (i + 1) else i
  termination_by s.size - i
  decreasing_by omega
theorem leadB_yes {s : ByteArray} {b : Int} {i : Nat} (h : i < s.size ∧ bAt s i = b) : leadB s b i = leadB s b (i + 1) := by rw [leadB, dif_pos h]
theorem leadB_no {s : ByteArray} {b : Int} {i : Nat} (h : ¬ (i < s.size ∧ bAt s i = b)) : leadB s b i = i := by rw [leadB, dif_neg h]
def trimL (s : ByteArray) (b : Int) : ByteArray := s.extract (leadB s b 0) s.size
/-- The places that are left without the bytes b behind. -/
def backB (s : ByteArray) (b : Int) : Nat → Nat
  | 0 => 0
  | n + 1 => if bAt s n = b then backB s b n else n + 1
def trimR (s : ByteArray) (b : Int) : ByteArray := s.extract 0 (backB s b s.size)

end Go.Proofs.YtdibapfehdhfjaaDoor
