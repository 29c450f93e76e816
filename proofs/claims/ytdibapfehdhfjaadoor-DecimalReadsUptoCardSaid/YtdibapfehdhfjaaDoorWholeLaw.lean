/-
  The whole number that digits spell. No program.
-/
import Derived.Test.YtdibapfehdhfjaaDoorReadLaw
namespace Go.Proofs.YtdibapfehdhfjaaDoor
open Go.Eng
set_option linter.unusedVariables false

/-- The number that a list of digits spells. -/
def numV (l : List Int) : Int := l.foldl (fun v d => 10 * v + d) 0
theorem numV_snoc (l : List Int) (d : Int) : numV (l ++ [d]) = 10 * numV l + d := by simp [numV]
theorem numV_nil : numV [] = 0 := rfl
/-- The digits of a text's first k bytes. -/
def numK (t : ByteArray) (k : Nat) : Int := numV (dsFrom t 0 k)
theorem numK_zero (t : ByteArray) : numK t 0 = 0 := by simp [numK, dsFrom, numV]
theorem numK_succ (t : ByteArray) (k : Nat) : numK t (k + 1) = 10 * numK t k + dV t k := by
  unfold numK
  rw [dsFrom_succ, numV_snoc, Nat.zero_add]
theorem dV_nn (t : ByteArray) (k : Nat) : 0 ≤ dV t k ∧ dV t k ≤ 255 := by unfold dV; omega
theorem numK_nn (t : ByteArray) : ∀ k, 0 ≤ numK t k
  | 0 => by rw [numK_zero]; omega
  | k + 1 => by
    have := numK_nn t k
    have := dV_nn t k
    rw [numK_succ]
    omega
theorem numK_mono (t : ByteArray) (k : Nat) : ∀ n, numK t k ≤ numK t (k + n)
  | 0 => by simp
  | n + 1 => by
    have h1 := numK_mono t k n
    have h2 := numK_nn t (k + n)
    have h3 := dV_nn t (k + n)
    rw [show k + (n + 1) = k + n + 1 by omega, numK_succ]
    omega
theorem numK_le (t : ByteArray) {k n : Nat} (h : k ≤ n) : numK t k ≤ numK t n := by
  have := numK_mono t k (n - k)
  rwa [show k + (n - k) = n by omega] at this

/-- The whole number that a text is the spelling of. -/
def wholeS (s : ByteArray) : Option Int :=
  if (readOk s && (readS s).plain) = true then
    let n := numK (readS s).text (readS s).text.size
    if (readS s).minus = true then (if n ≤ 9223372036854775808 then some (-n) else none) else (if n < 9223372036854775808 then some n else none)
  else none
/-- Whole's results. -/
def wholeR (s : ByteArray) : List Value :=
  match wholeS s with
  | some n => [.int .i64 n, .bool true]
  | none => [.int .i64 0, .bool false]

theorem tdiv_neg10 {x : Int} (h : x ≤ 0) : x.tdiv 10 = -((-x) / 10) := by
  have h' : 0 ≤ -x := by omega
  have e : x = -(-x) := by omega
  rw [e, Int.neg_tdiv, Int.tdiv_eq_ediv_of_nonneg h']
  simp
end Go.Proofs.YtdibapfehdhfjaaDoor
