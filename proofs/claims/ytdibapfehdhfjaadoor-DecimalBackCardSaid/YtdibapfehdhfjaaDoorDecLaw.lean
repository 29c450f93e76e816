/-
  A decimal number as the program reads it (decimal.read). No program.
-/
import Derived.Test.YtdibapfehdhfjaaDoorReadLaw
namespace Go.Proofs.YtdibapfehdhfjaaDoor
open Go.Eng
set_option linter.unusedVariables false
set_option linter.unusedSimpArgs false

theorem digS_tail (s : ByteArray) (a : Nat) (i : Int) (h0 : 0 ≤ i) : digS (s.extract a s.size) i = digS s (a + i) := by
  unfold digS
  rw [bAt_tail s a i h0]
theorem manyS_tail (s : ByteArray) (a : Nat) (i : Nat) : a + manyS (s.extract a s.size) i = manyS s (a + i) := by
  have e := digS_tail s a i (by omega)
  by_cases h : digS (s.extract a s.size) i = true
  · have h' : digS s ((a + i : Nat) : Int) = true := by rw [← h, e]; congr 1
    rw [manyS_yes h, manyS_yes h', show a + i + 1 = a + (i + 1) by omega]
    exact manyS_tail s a (i + 1)
  · have h1 : digS (s.extract a s.size) i = false := by simpa using h
    have h' : digS s ((a + i : Nat) : Int) = false := by rw [← h1, e]; congr 1
    rw [manyS_no h1, manyS_no h']
termination_by s.size - i
decreasing_by
  have := digS_lt h
  rw [tail_size] at this
  omega
/-- How many digits a text begins with. -/
def runS (s : ByteArray) : Nat := manyS s 0
theorem runS_tail (s : ByteArray) (a : Nat) : runS (s.extract a s.size) = manyS s a - a := by
  have := manyS_tail s a 0
  unfold runS
  simp only [Nat.add_zero] at this
  omega
theorem tail_none (s : ByteArray) (a : Nat) : s.extract a s.size = ⟨#[]⟩ ↔ s.size ≤ a := by
  rw [eq_none, tail_size]
  omega

/-- A number as the program keeps it. -/
structure PNum where
  minus : Bool
  int : ByteArray
  digits : ByteArray
  off : Int
  plain : Bool
  down : Bool
  exp : ByteArray
def fracS (s : ByteArray) : ByteArray := if dotS s = true then s.extract (atB s + 1) (atK s) else ⟨#[]⟩
/-- What follows the exponent's sign. -/
def expT (s : ByteArray) : ByteArray := s.extract (atE s) s.size
def progS (s : ByteArray) : PNum where
  minus := decide (bAt s 0 = 45)
  int := s.extract (atA s) (atB s)
  digits := trimR (trimL (s.extract (atA s) (atB s) ++ fracS s) 48) 48
  off := ((s.extract (atA s) (atB s)).size : Int) - ((s.extract (atA s) (atB s) ++ fracS s).size - (trimL (s.extract (atA s) (atB s) ++ fracS s) 48).size)
  plain := !dotS s && !expS s
  down := expS s && decide (bAt s (atC s + 1) = 45) && !decide (trimL (expT s) 48 = ⟨#[]⟩)
  exp := if expS s = true then trimL (expT s) 48 else ⟨#[]⟩
def badE (s : ByteArray) : Bool := expS s && (decide (s.size ≤ atE s) || decide (atF s ≠ s.size))
def progOk (s : ByteArray) : Bool := !badA s && !(dotS s && decide (atK s = atB s + 1)) && !badE s && (expS s || decide (s.size ≤ atC s))
theorem progOk_eq (s : ByteArray) : progOk s = readOk s := by
  unfold progOk readOk
  cases badA s
  · cases hd : (dotS s && decide (atK s = atB s + 1))
    · simp only [Bool.not_false, Bool.true_and]
      cases he : expS s
      · have h1 := atC_le s
        simp only [badE, he, Bool.false_and, Bool.not_false, Bool.true_and, Bool.false_or, atG, Bool.false_eq_true, if_false]
        rw [decide_eq_decide]
        omega
      · have h1 := atE_le he
        have h2 := atF_le he
        have h3 := atF_ge s
        simp only [badE, he, Bool.true_and, Bool.true_or, Bool.and_true, atG, if_true]
        by_cases hf : atF s = s.size
        · by_cases hz : s.size ≤ atE s
          · have : atF s = atE s := by omega
            simp [this]
            omega
          · have : ¬ atF s = atE s := by omega
            simp [hf, hz]
            omega
        · simp [hf]
    · simp
  · simp
/-- What read hands back, of whatever text. -/
def progAll (s : ByteArray) : PNum :=
  if badA s = true then ⟨decide (bAt s 0 = 45), ⟨#[]⟩, ⟨#[]⟩, 0, true, false, ⟨#[]⟩⟩
  else if (dotS s && decide (atK s = atB s + 1)) = true then ⟨decide (bAt s 0 = 45), s.extract (atA s) (atB s), ⟨#[]⟩, 0, true, false, ⟨#[]⟩⟩
  else if badE s = true then ⟨decide (bAt s 0 = 45), s.extract (atA s) (atB s), ⟨#[]⟩, 0, !dotS s, expS s && decide (bAt s (atC s + 1) = 45), ⟨#[]⟩⟩
  else progS s
theorem progAll_1 {s : ByteArray} (h1 : badA s = true) : progAll s = ⟨decide (bAt s 0 = 45), ⟨#[]⟩, ⟨#[]⟩, 0, true, false, ⟨#[]⟩⟩ := by simp [progAll, h1]
theorem progAll_2 {s : ByteArray} (h1 : badA s = false) (h2 : (dotS s && decide (atK s = atB s + 1)) = true) : progAll s = ⟨decide (bAt s 0 = 45), s.extract (atA s) (atB s), ⟨#[]⟩, 0, true, false, ⟨#[]⟩⟩ := by simp only [progAll, h1, h2]; rfl
theorem progAll_3 {s : ByteArray} (h1 : badA s = false) (h2 : (dotS s && decide (atK s = atB s + 1)) = false) (h3 : badE s = true) : progAll s = ⟨decide (bAt s 0 = 45), s.extract (atA s) (atB s), ⟨#[]⟩, 0, !dotS s, expS s && decide (bAt s (atC s + 1) = 45), ⟨#[]⟩⟩ := by simp only [progAll, h1, h2, h3]; rfl
theorem progAll_4 {s : ByteArray} (h1 : badA s = false) (h2 : (dotS s && decide (atK s = atB s + 1)) = false) (h3 : badE s = false) : progAll s = progS s := by simp only [progAll, h1, h2, h3]; rfl
theorem progAll_ok {s : ByteArray} (h : readOk s = true) : progAll s = progS s := by
  rw [← progOk_eq] at h
  unfold progOk at h
  simp only [Bool.and_eq_true, Bool.not_eq_true'] at h
  obtain ⟨⟨⟨h1, h2⟩, h3⟩, h4⟩ := h
  exact progAll_4 h1 h2 h3
end Go.Proofs.YtdibapfehdhfjaaDoor
