/-
 Texts: bytes, digits, beginnings and ends. No program.
-/
import Derived.Test.YtekkjbomadoplaaDoorEngN
import Derived.Lib.Bytealg
namespace Go.Proofs.YtekkjbomadoplaaDoor
open Go.Eng
set_option linter.unusedVariables false
set_option linter.unusedSimpArgs false

theorem bAt_in {s : ByteArray} {k : Nat} (h : k < s.size) : bAt s k = (s[k].toNat : Int) := by
 simp [bAt, h]
theorem bAt_range (s : ByteArray) (i : Int) : -1 ≤ bAt s i ∧ bAt s i ≤ 255 := by
 unfold bAt
 split
 ·split
  ·rename_i b _
   have := b.toNat_lt
   omega
  ·omega
 ·omega
theorem lt_of_bAt {s : ByteArray} {i : Int} (h : 0 ≤ bAt s i) : 0 ≤ i ∧ i < s.size := by
 unfold bAt at h
 split at h
 ·split at h
  ·rename_i h0 b hb
   have : i.toNat < s.size := by
    rcases Nat.lt_or_ge i.toNat s.size with h' | h'
    ·exact h'
    ·rw [getElem?_neg s i.toNat (Nat.not_lt.2 h')] at hb
     cases hb
   omega
  ·omega
 ·omega
theorem bAt_out {s : ByteArray} {i : Int} (h : ¬ i < s.size) : bAt s i = -1 := by
 have := (bAt_range s i).1
 rcases Int.lt_or_le (bAt s i) 0 with h' | h'
 ·omega
 ·exact (h (lt_of_bAt h').2).elim
theorem bAt_nn {s : ByteArray} {i : Int} (h0 : 0 ≤ i) (h : i < s.size) : 0 ≤ bAt s i := by
 have h1 : i.toNat < s.size := by omega
 have := bAt_in h1
 rw [Int.toNat_of_nonneg h0] at this
 rw [this]
 omega
/-- A digit. -/
def digS (s : ByteArray) (i : Int) : Bool := decide (48 ≤ bAt s i) && decide (bAt s i ≤ 57)
theorem digS_lt {s : ByteArray} {i : Int} (h : digS s i = true) : i < s.size := by simp only [digS, Bool.and_eq_true, decide_eq_true_eq] at h; exact (lt_of_bAt (by omega)).2
/-- The place behind all digits from a place on. -/
def manyS (s : ByteArray) (i : Nat) : Nat := if h : digS s i = true then manyS s (i + 1) else i
 termination_by s.size - i
 decreasing_by have := digS_lt h; omega
theorem manyS_yes {s : ByteArray} {i : Nat} (h : digS s i = true) : manyS s i = manyS s (i + 1) := by rw [manyS, dif_pos h]
theorem manyS_no {s : ByteArray} {i : Nat} (h : digS s i = false) : manyS s i = i := by rw [manyS, dif_neg (by simp [h])]
theorem manyS_ge (s : ByteArray) (k : Nat) : k ≤ manyS s k := by
 by_cases h : digS s k = true
 ·rw [manyS_yes h]
  have := manyS_ge s (k + 1)
  omega
 ·rw [manyS_no (by simpa using h)]
  exact Nat.le_refl _
termination_by s.size - k
decreasing_by have := digS_lt h; omega
theorem manyS_le (s : ByteArray) (k : Nat) (hk : k ≤ s.size) : manyS s k ≤ s.size := by
 by_cases h : digS s k = true
 ·rw [manyS_yes h]
  exact manyS_le s (k + 1) (by have := digS_lt h; omega)
 ·rw [manyS_no (by simpa using h)]
  exact hk
termination_by s.size - k
decreasing_by have := digS_lt h; omega
theorem bAt_extract (s : ByteArray) (a b : Nat) (i : Int) (h0 : 0 ≤ i) (hb : a + i < b) : bAt (s.extract a b) i = bAt s (a + i) := by
 by_cases h : a + i < s.size
 ·have h1 : i.toNat < (s.extract a b).size := by rw [ByteArray.size_extract]; omega
  have h2 : a + i.toNat < s.size := by omega
  have e1 := bAt_in h1
  have e2 := bAt_in h2
  rw [Int.toNat_of_nonneg h0] at e1
  rw [show ((a + i.toNat : Nat) : Int) = a + i by omega] at e2
  rw [e1, e2, ByteArray.getElem_extract]
 ·rw [bAt_out h, bAt_out]
  rw [ByteArray.size_extract]
  omega
theorem bAt_tail (s : ByteArray) (a : Nat) (i : Int) (h0 : 0 ≤ i) : bAt (s.extract a s.size) i = bAt s (a + i) := by
 by_cases h : a + i < s.size
 ·exact bAt_extract s a s.size i h0 (by omega)
 ·rw [bAt_out h, bAt_out]
  rw [ByteArray.size_extract]
  omega
theorem tail_size (s : ByteArray) (a : Nat) : (s.extract a s.size).size = s.size - a := by rw [ByteArray.size_extract]; omega
theorem tail_tail (s : ByteArray) (a b : Nat) : (s.extract a s.size).extract b (s.extract a s.size).size = s.extract (a + b) s.size := by
 rw [ByteArray.extract_extract, tail_size]
 by_cases h : a ≤ s.size
 ·congr 1; omega
 ·have h1 : s.extract (a + b) (min (a + (s.size - a)) s.size) = ByteArray.empty := ByteArray.extract_eq_empty_iff.2 (by omega)
  have h2 : s.extract (a + b) s.size = ByteArray.empty := ByteArray.extract_eq_empty_iff.2 (by omega)
  rw [h1, h2]
theorem head_tail (s : ByteArray) (a n : Nat) : (s.extract a s.size).extract 0 n = s.extract a (min (a + n) s.size) := by
 rw [ByteArray.extract_extract, Nat.add_zero]
theorem all_of (s : ByteArray) : s.extract 0 s.size = s := by simp
theorem eq_none {s : ByteArray} : s = ⟨#[]⟩ ↔ s.size = 0 := by
 constructor
 ·intro h; rw [h]; rfl
 ·intro h
  have := all_of s
  rw [← this]
  have h2 : s.extract 0 s.size = ByteArray.empty := ByteArray.extract_eq_empty_iff.2 (by omega)
  rw [h2]; rfl
theorem ext_bAt {s t : ByteArray} (hz : s.size = t.size) (h : ∀ i : Nat, i < s.size → bAt s i = bAt t i) : s = t :=
 ByteArray.ext_getElem hz fun i h1 h2 => by
  have := h i h1
  rw [bAt_in h1, bAt_in h2] at this
  exact UInt8.toNat_inj.1 (by omega)

/-- A text's beginning. -/
def hasPre (s p : ByteArray) : Bool := decide (p.size ≤ s.size) && decide (s.extract 0 p.size = p)
def cutPre (s p : ByteArray) : ByteArray := if hasPre s p = true then s.extract p.size s.size else s
theorem hasPre_one {s p : ByteArray} (hp : p.size = 1) : hasPre s p = decide (bAt s 0 = bAt p 0) := by
 have hn : 0 ≤ bAt p 0 := bAt_nn (by omega) (by omega)
 unfold hasPre
 rw [hp]
 by_cases h : 1 ≤ s.size
 ·have hz : (s.extract 0 1).size = p.size := by rw [ByteArray.size_extract]; omega
  simp only [h, decide_true, Bool.true_and]
  rw [decide_eq_decide]
  have hb : bAt (s.extract 0 1) 0 = bAt s 0 := by rw [bAt_extract s 0 1 0 (by omega) (by omega)]; rfl
  constructor
  ·intro e; rw [← hb, e]
  ·intro e
   refine ext_bAt hz fun i hi => ?_
   rw [hz, hp] at hi
   obtain rfl : i = 0 := by omega
   show bAt (s.extract 0 1) 0 = bAt p 0
   rw [hb, e]
 ·have : bAt s 0 = -1 := bAt_out (by omega)
  simp [h, this]
  omega

theorem hasPre_le {s p : ByteArray} (h : hasPre s p = true) : p.size ≤ s.size := by
 simp only [hasPre, Bool.and_eq_true, decide_eq_true_eq] at h
 exact h.1
/-- The place behind all bytes b from a place on. -/
def leadB (s : ByteArray) (b : Int) (i : Nat) : Nat := if h : i < s.size ∧ bAt s i = b then leadB s b (i + 1) else i
 termination_by s.size - i
 decreasing_by omega
theorem leadB_yes {s : ByteArray} {b : Int} {i : Nat} (h : i < s.size ∧ bAt s i = b) : leadB s b i = leadB s b (i + 1) := by rw [leadB, dif_pos h]
theorem leadB_no {s : ByteArray} {b : Int} {i : Nat} (h : ¬ (i < s.size ∧ bAt s i = b)) : leadB s b i = i := by rw [leadB, dif_neg h]
def trimL (s : ByteArray) (b : Int) : ByteArray := s.extract (leadB s b 0) s.size
/-- The places that are left without the bytes b behind. -/
def backB (s : ByteArray) (b : Int) : Nat → Nat
 | 0 => 0
 | n + 1 => if bAt s n = b then backB s b n else n + 1
def trimR (s : ByteArray) (b : Int) : ByteArray := s.extract 0 (backB s b s.size)

end Go.Proofs.YtekkjbomadoplaaDoor

/-
 A decimal number as the document reads it (signetref2.Read). No program.
-/
namespace Go.Proofs.YtekkjbomadoplaaDoor
open Go.Eng
set_option linter.unusedVariables false

/-- A digit's value, as the code reckons it. -/
def dV (s : ByteArray) (i : Nat) : Int := (bAt s i - 48) % 256
/-- The digits' values from place a on, n of them. -/
def dsFrom (s : ByteArray) (a n : Nat) : List Int := (List.range n).map fun i => dV s (a + i)
theorem dsFrom_length (s : ByteArray) (a n : Nat) : (dsFrom s a n).length = n := by simp [dsFrom]
theorem dsFrom_succ (s : ByteArray) (a n : Nat) : dsFrom s a (n + 1) = dsFrom s a n ++ [dV s (a + n)] := by simp [dsFrom, List.range_succ]
/-- Without the noughts ahead. -/
def lead (l : List Int) : List Int := l.dropWhile (· == 0)
theorem lead_snoc (l : List Int) (d : Int) : lead (l ++ [d]) = if d ≠ 0 ∨ 0 < (lead l).length then lead l ++ [d] else [] := by
 unfold lead
 induction l with
 | nil =>
  by_cases h : d = 0
  ·simp [h]
  ·have : (d == 0) = false := by simpa using h
   simp [h, this]
 | cons x l ih =>
  by_cases h : x = 0
  ·subst h
   simpa using ih
  ·have hx : (x == 0) = false := by simpa using h
   simp [hx]
theorem lead_le (l : List Int) : (lead l).length ≤ l.length := by
 unfold lead
 exact (List.dropWhile_sublist _).length_le
/-- Without the noughts behind. -/
def trail : List Int → List Int
 | [] => []
 | x :: l => match trail l with
  | [] => if x = 0 then [] else [x]
  | y :: r => x :: y :: r
theorem trail_snoc_zero (l : List Int) : trail (l ++ [0]) = trail l := by
 induction l with
 | nil => rfl
 | cons x l ih => simp only [List.cons_append, trail, ih]
theorem trail_snoc (l : List Int) (d : Int) (h : d ≠ 0) : trail (l ++ [d]) = l ++ [d] := by
 induction l with
 | nil => simp [trail, h]
 | cons x l ih =>
  simp only [List.cons_append, trail, ih]
  cases l <;> rfl
def atA (s : ByteArray) : Nat := if bAt s 0 = 45 then 1 else 0
def atB (s : ByteArray) : Nat := manyS s (atA s)
def badA (s : ByteArray) : Bool := decide (atB s = atA s) || (decide (bAt s (atA s) = 48) && decide (atA s + 1 < atB s))
def dotS (s : ByteArray) : Bool := decide (bAt s (atB s) = 46)
def atK (s : ByteArray) : Nat := manyS s (atB s + 1)
def atC (s : ByteArray) : Nat := if dotS s = true then atK s else atB s
def allS (s : ByteArray) : ByteArray := if dotS s = true then s.extract (atA s) (atB s) ++ s.extract (atB s + 1) (atK s) else s.extract (atA s) (atB s)
def expS (s : ByteArray) : Bool := decide (bAt s (atC s) = 101) || decide (bAt s (atC s) = 69)
def sgnS (s : ByteArray) : Bool := decide (bAt s (atC s + 1) = 43) || decide (bAt s (atC s + 1) = 45)
def atE (s : ByteArray) : Nat := if sgnS s = true then atC s + 2 else atC s + 1
def atF (s : ByteArray) : Nat := manyS s (atE s)
def atG (s : ByteArray) : Nat := if expS s = true then atF s else atC s

/-- A number as it has been read. -/
structure RNum where
 minus : Bool
 digits : List Int
 off : Int
 down : Bool
 exp : List Int
 plain : Bool
 text : ByteArray
def readOk (s : ByteArray) : Bool := !badA s && !(dotS s && decide (atK s = atB s + 1)) && !(expS s && decide (atF s = atE s)) && decide (atG s = s.size)
def readS (s : ByteArray) : RNum where
 minus := decide (bAt s 0 = 45)
 digits := trail (lead (dsFrom (allS s) 0 (allS s).size))
 off := (atB s : Int) - atA s - ((allS s).size - (lead (dsFrom (allS s) 0 (allS s).size)).length)
 down := expS s && decide (bAt s (atC s + 1) = 45)
 exp := if expS s = true then lead (dsFrom s (atE s) (atF s - atE s)) else []
 plain := !dotS s && !expS s
 text := s.extract (atA s) (atB s)

/-- What Read hands back, of whatever text. -/
def readAll (s : ByteArray) : RNum :=
 if badA s = true then ⟨decide (bAt s 0 = 45), [], 0, false, [], true, ⟨#[]⟩⟩
 else if (dotS s && decide (atK s = atB s + 1)) = true then ⟨decide (bAt s 0 = 45), [], (atB s : Int) - atA s, false, [], false, s.extract (atA s) (atB s)⟩
 else if (expS s && decide (atF s = atE s)) = true then ⟨decide (bAt s 0 = 45), [], (atB s : Int) - atA s, (readS s).down, [], false, s.extract (atA s) (atB s)⟩
 else if decide (atG s = s.size) = false then ⟨decide (bAt s 0 = 45), [], (atB s : Int) - atA s, (readS s).down, (readS s).exp, !dotS s && !expS s, s.extract (atA s) (atB s)⟩
 else readS s
theorem readAll_1 {s : ByteArray} (h1 : badA s = true) : readAll s = ⟨decide (bAt s 0 = 45), [], 0, false, [], true, ⟨#[]⟩⟩ := by simp [readAll, h1]
theorem readAll_2 {s : ByteArray} (h1 : badA s = false) (h2 : (dotS s && decide (atK s = atB s + 1)) = true) : readAll s = ⟨decide (bAt s 0 = 45), [], (atB s : Int) - atA s, false, [], false, s.extract (atA s) (atB s)⟩ := by simp only [readAll, h1, h2]; rfl
theorem readAll_3 {s : ByteArray} (h1 : badA s = false) (h2 : (dotS s && decide (atK s = atB s + 1)) = false) (h3 : (expS s && decide (atF s = atE s)) = true) : readAll s = ⟨decide (bAt s 0 = 45), [], (atB s : Int) - atA s, (readS s).down, [], false, s.extract (atA s) (atB s)⟩ := by simp only [readAll, h1, h2, h3]; rfl
theorem readAll_4 {s : ByteArray} (h1 : badA s = false) (h2 : (dotS s && decide (atK s = atB s + 1)) = false) (h3 : (expS s && decide (atF s = atE s)) = false) (h4 : decide (atG s = s.size) = false) : readAll s = ⟨decide (bAt s 0 = 45), [], (atB s : Int) - atA s, (readS s).down, (readS s).exp, !dotS s && !expS s, s.extract (atA s) (atB s)⟩ := by simp only [readAll, h1, h2, h3, h4]; rfl
theorem readAll_ok {s : ByteArray} (h : readOk s = true) : readAll s = readS s := by
 unfold readOk at h
 simp only [Bool.and_eq_true, Bool.not_eq_true'] at h
 obtain ⟨⟨⟨h1, h2⟩, h3⟩, h4⟩ := h
 simp [readAll, h1, h2, h3, h4]
theorem atA_le (s : ByteArray) : atA s ≤ s.size := by
 unfold atA
 split
 ·have := lt_of_bAt (s := s) (i := 0) (by omega)
  omega
 ·omega
theorem atB_le (s : ByteArray) : atB s ≤ s.size := manyS_le s _ (atA_le s)
theorem atA_le_atB (s : ByteArray) : atA s ≤ atB s := manyS_ge s _
theorem atB_lt {s : ByteArray} (h : dotS s = true) : atB s < s.size := by
 unfold dotS at h
 have h1 := of_decide_eq_true h
 have := lt_of_bAt (s := s) (i := atB s) (by omega)
 omega
theorem atK_le {s : ByteArray} (h : dotS s = true) : atK s ≤ s.size := manyS_le s _ (atB_lt h)
theorem atK_ge (s : ByteArray) : atB s + 1 ≤ atK s := manyS_ge s _
theorem atC_le (s : ByteArray) : atC s ≤ s.size := by
 unfold atC
 split
 ·exact atK_le (by assumption)
 ·exact atB_le s
theorem atC_lt {s : ByteArray} (h : expS s = true) : atC s < s.size := by
 unfold expS at h
 simp only [Bool.or_eq_true, decide_eq_true_eq] at h
 have := lt_of_bAt (s := s) (i := atC s) (by omega)
 omega
theorem sgn_lt {s : ByteArray} (h : sgnS s = true) : atC s + 1 < s.size := by
 unfold sgnS at h
 simp only [Bool.or_eq_true, decide_eq_true_eq] at h
 have := lt_of_bAt (s := s) (i := (atC s : Int) + 1) (by omega)
 omega
theorem atE_le {s : ByteArray} (h : expS s = true) : atE s ≤ s.size := by
 have h1 := atC_lt h
 unfold atE
 split
 ·have := sgn_lt (s := s) (by assumption); omega
 ·omega
theorem atF_le {s : ByteArray} (h : expS s = true) : atF s ≤ s.size := manyS_le s _ (atE_le h)
theorem atF_ge (s : ByteArray) : atE s ≤ atF s := manyS_ge s _
end Go.Proofs.YtekkjbomadoplaaDoor

/-
 A decimal number as the program reads it (decimal.read). No program.
-/
namespace Go.Proofs.YtekkjbomadoplaaDoor
open Go.Eng
set_option linter.unusedVariables false
set_option linter.unusedSimpArgs false

theorem digS_tail (s : ByteArray) (a : Nat) (i : Int) (h0 : 0 ≤ i) : digS (s.extract a s.size) i = digS s (a + i) := by
 unfold digS
 rw [bAt_tail s a i h0]
theorem manyS_tail (s : ByteArray) (a : Nat) (i : Nat) : a + manyS (s.extract a s.size) i = manyS s (a + i) := by
 have e := digS_tail s a i (by omega)
 by_cases h : digS (s.extract a s.size) i = true
 ·have h' : digS s ((a + i : Nat) : Int) = true := by rw [← h, e]; congr 1
  rw [manyS_yes h, manyS_yes h', show a + i + 1 = a + (i + 1) by omega]
  exact manyS_tail s a (i + 1)
 ·have h1 : digS (s.extract a s.size) i = false := by simpa using h
  have h' : digS s ((a + i : Nat) : Int) = false := by rw [← h1, e]; congr 1
  rw [manyS_no h1, manyS_no h']
termination_by s.size - i
decreasing_by
 have := digS_lt h
 rw [tail_size] at this
 omega
/-- How many digits a text begins with. -/
def runS (s : ByteArray) : Nat := manyS s 0
theorem runS_tail (s : ByteArray) (a : Nat) : runS (s.extract a s.size) = manyS s a - a := by
 have := manyS_tail s a 0
 unfold runS
 simp only [Nat.add_zero] at this
 omega
theorem tail_none (s : ByteArray) (a : Nat) : s.extract a s.size = ⟨#[]⟩ ↔ s.size ≤ a := by
 rw [eq_none, tail_size]
 omega

/-- A number as the program keeps it. -/
structure PNum where
 minus : Bool
 int : ByteArray
 digits : ByteArray
 off : Int
 plain : Bool
 down : Bool
 exp : ByteArray
def fracS (s : ByteArray) : ByteArray := if dotS s = true then s.extract (atB s + 1) (atK s) else ⟨#[]⟩
/-- What follows the exponent's sign. -/
def expT (s : ByteArray) : ByteArray := s.extract (atE s) s.size
def progS (s : ByteArray) : PNum where
 minus := decide (bAt s 0 = 45)
 int := s.extract (atA s) (atB s)
 digits := trimR (trimL (s.extract (atA s) (atB s) ++ fracS s) 48) 48
 off := ((s.extract (atA s) (atB s)).size : Int) - ((s.extract (atA s) (atB s) ++ fracS s).size - (trimL (s.extract (atA s) (atB s) ++ fracS s) 48).size)
 plain := !dotS s && !expS s
 down := expS s && decide (bAt s (atC s + 1) = 45) && !decide (trimL (expT s) 48 = ⟨#[]⟩)
 exp := if expS s = true then trimL (expT s) 48 else ⟨#[]⟩
def badE (s : ByteArray) : Bool := expS s && (decide (s.size ≤ atE s) || decide (atF s ≠ s.size))
def progOk (s : ByteArray) : Bool := !badA s && !(dotS s && decide (atK s = atB s + 1)) && !badE s && (expS s || decide (s.size ≤ atC s))
theorem progOk_eq (s : ByteArray) : progOk s = readOk s := by
 unfold progOk readOk
 cases badA s
 ·cases hd : (dotS s && decide (atK s = atB s + 1))
  ·simp only [Bool.not_false, Bool.true_and]
   cases he : expS s
   ·have h1 := atC_le s
    simp only [badE, he, Bool.false_and, Bool.not_false, Bool.true_and, Bool.false_or, atG, Bool.false_eq_true, if_false]
    rw [decide_eq_decide]
    omega
   ·have h1 := atE_le he
    have h2 := atF_le he
    have h3 := atF_ge s
    simp only [badE, he, Bool.true_and, Bool.true_or, Bool.and_true, atG, if_true]
    by_cases hf : atF s = s.size
    ·by_cases hz : s.size ≤ atE s
     ·have : atF s = atE s := by omega
      simp [this]
      omega
     ·have : ¬ atF s = atE s := by omega
      simp [hf, hz]
      omega
    ·simp [hf]
  ·simp
 ·simp
/-- What read hands back, of whatever text. -/
def progAll (s : ByteArray) : PNum :=
 if badA s = true then ⟨decide (bAt s 0 = 45), ⟨#[]⟩, ⟨#[]⟩, 0, true, false, ⟨#[]⟩⟩
 else if (dotS s && decide (atK s = atB s + 1)) = true then ⟨decide (bAt s 0 = 45), s.extract (atA s) (atB s), ⟨#[]⟩, 0, true, false, ⟨#[]⟩⟩
 else if badE s = true then ⟨decide (bAt s 0 = 45), s.extract (atA s) (atB s), ⟨#[]⟩, 0, !dotS s, expS s && decide (bAt s (atC s + 1) = 45), ⟨#[]⟩⟩
 else progS s
theorem progAll_1 {s : ByteArray} (h1 : badA s = true) : progAll s = ⟨decide (bAt s 0 = 45), ⟨#[]⟩, ⟨#[]⟩, 0, true, false, ⟨#[]⟩⟩ := by simp [progAll, h1]
theorem progAll_2 {s : ByteArray} (h1 : badA s = false) (h2 : (dotS s && decide (atK s = atB s + 1)) = true) : progAll s = ⟨decide (bAt s 0 = 45), s.extract (atA s) (atB s), ⟨#[]⟩, 0, true, false, ⟨#[]⟩⟩ := by simp only [progAll, h1, h2]; rfl
theorem progAll_3 {s : ByteArray} (h1 : badA s = false) (h2 : (dotS s && decide (atK s = atB s + 1)) = false) (h3 : badE s = true) : progAll s = ⟨decide (bAt s 0 = 45), s.extract (atA s) (atB s), ⟨#[]⟩, 0, !dotS s, expS s && decide (bAt s (atC s + 1) = 45), ⟨#[]⟩⟩ := by simp only [progAll, h1, h2, h3]; rfl
theorem progAll_4 {s : ByteArray} (h1 : badA s = false) (h2 : (dotS s && decide (atK s = atB s + 1)) = false) (h3 : badE s = false) : progAll s = progS s := by simp only [progAll, h1, h2, h3]; rfl
theorem progAll_ok {s : ByteArray} (h : readOk s = true) : progAll s = progS s := by
 rw [← progOk_eq] at h
 unfold progOk at h
 simp only [Bool.and_eq_true, Bool.not_eq_true'] at h
 obtain ⟨⟨⟨h1, h2⟩, h3⟩, h4⟩ := h
 exact progAll_4 h1 h2 h3
end Go.Proofs.YtekkjbomadoplaaDoor

/-
 How two numbers are compared. No program.
-/
namespace Go.Proofs.YtekkjbomadoplaaDoor
open Go.Eng
set_option linter.unusedVariables false
set_option linter.unusedSimpArgs false

/-- The sum that both read: digits from the top down, no bound. -/
def ap (D : Nat → Int) (e : Int) : Nat → Int
 | 0 => e
 | k + 1 => ap D (10 * e + D k) k
def clampS (b e : Int) : Int := if e > b then b else if e < -b then -b else e
/-- The sum with the program's bound; with the document's. -/
def apP (D : Nat → Int) (e : Int) : Nat → Int
 | 0 => e
 | k + 1 => if 72057594037927936 < 10 * e + D k ∨ 10 * e + D k < -72057594037927936 then clampS 72057594037927936 (10 * e + D k) else apP D (10 * e + D k) k
/-- The document's: the sum, or the bound that it passed. -/
def apR (D : Nat → Int) (o : Int) (e : Int) : Nat → Int
 | 0 => e + o
 | k + 1 => if 1000000000000000 < 10 * e + D k then 1000000000000000 else if 10 * e + D k < -1000000000000000 then -1000000000000000 else apR D o (10 * e + D k) k
def sgn (x : Int) : Int := if x < 0 then -1 else if 0 < x then 1 else 0
end Go.Proofs.YtekkjbomadoplaaDoor

/-
 What the program keeps of a number, beside what the document keeps. No program.
-/
namespace Go.Proofs.YtekkjbomadoplaaDoor
open Go.Eng
set_option linter.unusedVariables false
set_option linter.unusedSimpArgs false

def dvB (x : UInt8) : Int := ((x.toNat : Int) - 48) % 256
/-- A text's bytes as digits. -/
def dl (b : ByteArray) : List Int := b.data.toList.map dvB
/-- Without the bytes 48 behind. -/
def trailB : List UInt8 → List UInt8
 | [] => []
 | x :: l => match trailB l with
  | [] => if x = 48 then [] else [x]
  | y :: r => x :: y :: r
/-- Lists compared place by place, a shorter one being less. -/
def lexI : List Int → List Int → Int
 | [], [] => 0
 | [], _ :: _ => -1
 | _ :: _, [] => 1
 | a :: l, b :: m => if a < b then -1 else if b < a then 1 else lexI l m
end Go.Proofs.YtekkjbomadoplaaDoor
