/-
  Times: what the clock and the window are, in numbers without a bound; numbers of two words. No program.
-/
import Derived.Test.YtoafhhhnomnjiaaCommon
namespace Go.Proofs.Ytoafhhhnomnjiaa
open Go.RowKit
set_option linter.unusedVariables false

def minI : Int := -9223372036854775808
def maxI : Int := 9223372036854775807
/-- a + b, cut at the ends. -/
def plusV (a b : Int) : Int := if 0 < b ∧ maxI - b < a then maxI else if b < 0 ∧ a < minI - b then minI else a + b
/-- The clock's answer. -/
def clockS (eh : Bool) (e : Int) (nh : Bool) (n : Int) (ih : Bool) (i : Int) (L now : Int) : Int :=
  if L < 0 ∨ 600 < L then 12 else if eh = true ∧ e + L ≤ now then 134 else if nh = true ∧ now < n - L then 135 else if ih = true ∧ now < i - L then 136 else 0
def toS (eh : Bool) (e L : Int) : Int := if eh = true then (if e + L - 1 < maxI then e + L - 1 else maxI) else maxI
def upS (f : Int) (h : Bool) (t L : Int) : Int := if h = true ∧ f < t - L then t - L else f
def fromS (nh : Bool) (n : Int) (ih : Bool) (i L : Int) : Int := upS (upS minI nh n L) ih i L
structure Win where
  empty : Bool
  from_ : Int
  to_ : Int
  code : Int
def openS (eh : Bool) (e : Int) (nh : Bool) (n : Int) (ih : Bool) (i L : Int) : Win :=
  if L < 0 ∨ 600 < L then ⟨false, 0, 0, 12⟩ else if toS eh e L < fromS nh n ih i L then ⟨true, 0, 0, 0⟩ else ⟨false, fromS nh n ih i L, toS eh e L, 0⟩

theorem plus_range {a b : Int} (ha : I64 a) (hb : -600 ≤ b ∧ b ≤ 600) : I64 (plusV a b) := by
  unfold plusV minI maxI I64 at *
  obtain ⟨h1, h2⟩ := ha
  split
  · omega
  · split <;> omega
theorem plus_le {a b e : Int} (_ha : I64 a) (hb : 0 ≤ b ∧ b ≤ 600) (he : I64 e) : (e ≤ plusV a (-b) ∧ ¬ (a < minI + b ∧ e = minI)) ↔ e + b ≤ a := by
  unfold plusV minI maxI I64 at *
  split
  · omega
  · split <;> omega
theorem plus_lt {a b n : Int} (_ha : I64 a) (hb : 0 ≤ b ∧ b ≤ 600) (hn : I64 n) : n < plusV a (-b) ↔ n < a - b := by
  unfold plusV minI maxI I64 at *
  split
  · omega
  · split <;> omega

/-- The words of a number. -/
def hi32 (x : Int) : Int := x / 4294967296
def lo32 (x : Int) : Int := x % 4294967296
theorem words (x : Int) : hi32 x * 4294967296 + lo32 x = x := by unfold hi32 lo32; omega
def lessV (a b : Int) : Bool := decide (hi32 a < hi32 b) || (decide (hi32 a = hi32 b) && decide (lo32 a < lo32 b))
theorem less_iff (a b : Int) : lessV a b = decide (a < b) := by
  unfold lessV hi32 lo32
  rw [Bool.eq_iff_iff]
  simp only [Bool.or_eq_true, Bool.and_eq_true, decide_eq_true_eq]
  omega

def upV (f : Int) (h : Bool) (t L : Int) : Int := if h = true then (if f < plusV t (-L) then plusV t (-L) else f) else f
theorem upV_eq {f t L : Int} {h : Bool} (hf : minI ≤ f) (ht : I64 t) (hL : 0 ≤ L ∧ L ≤ 600) : upV f h t L = upS f h t L := by
  unfold upV upS plusV minI maxI I64 at *
  cases h
  · simp
  · simp only [if_true, true_and]
    repeat' split
    all_goals omega
theorem upS_ge {f t L : Int} {h : Bool} (hf : minI ≤ f) : minI ≤ upS f h t L := by
  unfold upS
  split <;> omega
theorem upS_le {f t L : Int} {h : Bool} (hf : f ≤ maxI) (ht : I64 t) (hL : 0 ≤ L) : upS f h t L ≤ maxI := by
  unfold upS maxI I64 at *
  split <;> omega
theorem to_eq {e L : Int} (he : I64 e) (hL : 0 ≤ L ∧ L ≤ 600) (hne : ¬ (e = minI ∧ L = 0)) : plusV e (L - 1) = toS true e L := by
  unfold plusV toS minI maxI I64 at *
  simp only [if_true]
  split
  · rw [if_neg (by omega)]
  · split
    · omega
    · split <;> omega
theorem to_empty {L : Int} {nh ih : Bool} {n i : Int} (hL : L = 0) : toS true minI L < fromS nh n ih i L := by
  have h := upS_ge (t := i) (L := L) (h := ih) (upS_ge (t := n) (L := L) (h := nh) (Int.le_refl minI))
  unfold toS fromS at *
  unfold minI maxI at *
  simp only [if_true]
  rw [if_pos (by omega)]
  omega

end Go.Proofs.Ytoafhhhnomnjiaa
