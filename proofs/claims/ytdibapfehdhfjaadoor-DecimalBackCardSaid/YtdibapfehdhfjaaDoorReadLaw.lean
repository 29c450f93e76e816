/-
  A decimal number as the document reads it (signetref2.Read). No program.
-/
import Derived.Test.YtdibapfehdhfjaaDoorTxt
namespace Go.Proofs.YtdibapfehdhfjaaDoor
open Go.Eng
set_option linter.unusedVariables false

/-- A digit's value, as the code reckons it. -/
def dV (s : ByteArray) (i : Nat) : Int := (bAt s i - 48) % 256
/-- The digits' values from place a on, n of them. -/
def dsFrom (s : ByteArray) (a n : Nat) : List Int := (List.range n).map fun i => dV s (a + i)
theorem dsFrom_length (s : ByteArray) (a n : Nat) : (dsFrom s a n).length = n := by simp [dsFrom]
theorem dsFrom_succ (s : ByteArray) (a n : Nat) : dsFrom s a (n + 1) = dsFrom s a n ++ [dV s (a + n)] := by simp [dsFrom, List.range_succ]
/-- Without the noughts ahead. -/
def lead (l : List Int) : List Int := l.dropWhile (· == 0)
theorem lead_nil : lead [] = [] := rfl
theorem lead_snoc (l : List Int) (d : Int) : lead (l ++ [d]) = if d ≠ 0 ∨ 0 < (lead l).length then lead l ++ [d] else [] := by
  unfold lead
  induction l with
  | nil =>
    by_cases h : d = 0
    · simp [h]
    · have : (d == 0) = false := by simpa using h
      simp [h, this]
  | cons x l ih =>
    by_cases h : x = 0
    · subst h
      simpa using ih
    · have hx : (x == 0) = false := by simpa using h
      simp [hx]
theorem lead_le (l : List Int) : (lead l).length ≤ l.length := by
  unfold lead
  exact (List.dropWhile_sublist _).length_le
/-- Without the noughts behind. -/
def trail : List Int → List Int
  | [] => []
  | x :: l => match trail l with
    | [] => if x = 0 then [] else [x]
    | y :: r => x :: y :: r
theorem trail_snoc_zero (l : List Int) : trail (l ++ [0]) = trail l := by
  induction l with
  | nil => rfl
  | cons x l ih => simp only [List.cons_append, trail, ih]
theorem trail_snoc (l : List Int) (d : Int) (h : d ≠ 0) : trail (l ++ [d]) = l ++ [d] := by
  induction l with
  | nil => simp [trail, h]
  | cons x l ih =>
    simp only [List.cons_append, trail, ih]
    cases l <;> rfl
theorem trail_le (l : List Int) : (trail l).length ≤ l.length := by
  induction l with
  | nil => simp [trail]
  | cons x l ih =>
    simp only [trail]
    split
    · split <;> simp
    · rename_i h
      rw [h] at ih
      simp only [List.length_cons] at ih ⊢
      omega

def atA (s : ByteArray) : Nat := if bAt s 0 = 45 then 1 else 0
def atB (s : ByteArray) : Nat := manyS s (atA s)
def badA (s : ByteArray) : Bool := decide (atB s = atA s) || (decide (bAt s (atA s) = 48) && decide (atA s + 1 < atB s))
def dotS (s : ByteArray) : Bool := decide (bAt s (atB s) = 46)
def atK (s : ByteArray) : Nat := manyS s (atB s + 1)
def atC (s : ByteArray) : Nat := if dotS s = true then atK s else atB s
def allS (s : ByteArray) : ByteArray := if dotS s = true then s.extract (atA s) (atB s) ++ s.extract (atB s + 1) (atK s) else s.extract (atA s) (atB s)
def expS (s : ByteArray) : Bool := decide (bAt s (atC s) = 101) || decide (bAt s (atC s) = 69)
def sgnS (s : ByteArray) : Bool := decide (bAt s (atC s + 1) = 43) || decide (bAt s (atC s + 1) = 45)
def atE (s : ByteArray) : Nat := if sgnS s = true then atC s + 2 else atC s + 1
def atF (s : ByteArray) : Nat := manyS s (atE s)
def atG (s : ByteArray) : Nat := if expS s = true then atF s else atC s

/-- A number as it has been read. -/
structure RNum where
  minus : Bool
  digits : List Int
  off : Int
  down : Bool
  exp : List Int
  plain : Bool
  text : ByteArray
def readOk (s : ByteArray) : Bool := !badA s && !(dotS s && decide (atK s = atB s + 1)) && !(expS s && decide (atF s = atE s)) && decide (atG s = s.size)
def readS (s : ByteArray) : RNum where
  minus := decide (bAt s 0 = 45)
  digits := trail (lead (dsFrom (allS s) 0 (allS s).size))
  off := (atB s : Int) - atA s - ((allS s).size - (lead (dsFrom (allS s) 0 (allS s).size)).length)
  down := expS s && decide (bAt s (atC s + 1) = 45)
  exp := if expS s = true then lead (dsFrom s (atE s) (atF s - atE s)) else []
  plain := !dotS s && !expS s
  text := s.extract (atA s) (atB s)

/-- What Read hands back, of whatever text. -/
def readAll (s : ByteArray) : RNum :=
  if badA s = true then ⟨decide (bAt s 0 = 45), [], 0, false, [], true, ⟨#[]⟩⟩
  else if (dotS s && decide (atK s = atB s + 1)) = true then ⟨decide (bAt s 0 = 45), [], (atB s : Int) - atA s, false, [], false, s.extract (atA s) (atB s)⟩
  else if (expS s && decide (atF s = atE s)) = true then ⟨decide (bAt s 0 = 45), [], (atB s : Int) - atA s, (readS s).down, [], false, s.extract (atA s) (atB s)⟩
  else if decide (atG s = s.size) = false then ⟨decide (bAt s 0 = 45), [], (atB s : Int) - atA s, (readS s).down, (readS s).exp, !dotS s && !expS s, s.extract (atA s) (atB s)⟩
  else readS s
theorem readAll_1 {s : ByteArray} (h1 : badA s = true) : readAll s = ⟨decide (bAt s 0 = 45), [], 0, false, [], true, ⟨#[]⟩⟩ := by simp [readAll, h1]
theorem readAll_2 {s : ByteArray} (h1 : badA s = false) (h2 : (dotS s && decide (atK s = atB s + 1)) = true) : readAll s = ⟨decide (bAt s 0 = 45), [], (atB s : Int) - atA s, false, [], false, s.extract (atA s) (atB s)⟩ := by simp only [readAll, h1, h2]; rfl
theorem readAll_3 {s : ByteArray} (h1 : badA s = false) (h2 : (dotS s && decide (atK s = atB s + 1)) = false) (h3 : (expS s && decide (atF s = atE s)) = true) : readAll s = ⟨decide (bAt s 0 = 45), [], (atB s : Int) - atA s, (readS s).down, [], false, s.extract (atA s) (atB s)⟩ := by simp only [readAll, h1, h2, h3]; rfl
theorem readAll_4 {s : ByteArray} (h1 : badA s = false) (h2 : (dotS s && decide (atK s = atB s + 1)) = false) (h3 : (expS s && decide (atF s = atE s)) = false) (h4 : decide (atG s = s.size) = false) : readAll s = ⟨decide (bAt s 0 = 45), [], (atB s : Int) - atA s, (readS s).down, (readS s).exp, !dotS s && !expS s, s.extract (atA s) (atB s)⟩ := by simp only [readAll, h1, h2, h3, h4]; rfl
theorem readAll_ok {s : ByteArray} (h : readOk s = true) : readAll s = readS s := by
  unfold readOk at h
  simp only [Bool.and_eq_true, Bool.not_eq_true'] at h
  obtain ⟨⟨⟨h1, h2⟩, h3⟩, h4⟩ := h
  simp [readAll, h1, h2, h3, h4]
theorem readS_len (s : ByteArray) : (readS s).digits.length ≤ 2 * s.size ∧ (readS s).exp.length ≤ s.size := by
  constructor
  · have h1 := trail_le (lead (dsFrom (allS s) 0 (allS s).size))
    have h2 := lead_le (dsFrom (allS s) 0 (allS s).size)
    rw [dsFrom_length] at h2
    have h3 : (allS s).size ≤ s.size + s.size := by
      unfold allS
      split <;> simp <;> omega
    show (trail (lead (dsFrom (allS s) 0 (allS s).size))).length ≤ _
    omega
  · show (if expS s = true then lead (dsFrom s (atE s) (atF s - atE s)) else []).length ≤ _
    split
    · have h2 := lead_le (dsFrom s (atE s) (atF s - atE s))
      rw [dsFrom_length] at h2
      have := manyS_le s (atE s)
      have : atF s ≤ s.size ∨ s.size < atE s := by
        by_cases h : atE s ≤ s.size
        · exact .inl (this h)
        · omega
      rcases this with h | h
      · omega
      · have : atF s = atE s := manyS_no (by
          cases hd : digS s (atE s) with
          | false => rfl
          | true => have := digS_lt hd; omega)
        omega
    · simp

theorem atA_le (s : ByteArray) : atA s ≤ s.size := by
  unfold atA
  split
  · have := lt_of_bAt (s := s) (i := 0) (by omega)
    omega
  · omega
theorem atB_le (s : ByteArray) : atB s ≤ s.size := manyS_le s _ (atA_le s)
theorem atA_le_atB (s : ByteArray) : atA s ≤ atB s := manyS_ge s _
theorem atB_lt {s : ByteArray} (h : dotS s = true) : atB s < s.size := by
  unfold dotS at h
  have h1 := of_decide_eq_true h
  have := lt_of_bAt (s := s) (i := atB s) (by omega)
  omega
theorem atK_le {s : ByteArray} (h : dotS s = true) : atK s ≤ s.size := manyS_le s _ (atB_lt h)
theorem atK_ge (s : ByteArray) : atB s + 1 ≤ atK s := manyS_ge s _
theorem atC_le (s : ByteArray) : atC s ≤ s.size := by
  unfold atC
  split
  · exact atK_le (by assumption)
  · exact atB_le s
theorem atC_lt {s : ByteArray} (h : expS s = true) : atC s < s.size := by
  unfold expS at h
  simp only [Bool.or_eq_true, decide_eq_true_eq] at h
  have := lt_of_bAt (s := s) (i := atC s) (by omega)
  omega
theorem sgn_lt {s : ByteArray} (h : sgnS s = true) : atC s + 1 < s.size := by
  unfold sgnS at h
  simp only [Bool.or_eq_true, decide_eq_true_eq] at h
  have := lt_of_bAt (s := s) (i := (atC s : Int) + 1) (by omega)
  omega
theorem atE_le {s : ByteArray} (h : expS s = true) : atE s ≤ s.size := by
  have h1 := atC_lt h
  unfold atE
  split
  · have := sgn_lt (s := s) (by assumption); omega
  · omega
theorem atF_le {s : ByteArray} (h : expS s = true) : atF s ≤ s.size := manyS_le s _ (atE_le h)
theorem atF_ge (s : ByteArray) : atE s ≤ atF s := manyS_ge s _
theorem atG_le (s : ByteArray) : atG s ≤ s.size := by
  unfold atG
  split
  · exact atF_le (by assumption)
  · exact atC_le s

end Go.Proofs.YtdibapfehdhfjaaDoor
