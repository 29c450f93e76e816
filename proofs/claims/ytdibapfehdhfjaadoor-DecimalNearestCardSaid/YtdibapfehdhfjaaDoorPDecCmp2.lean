/-
  DecimalCompares: the plain law. No program.
-/
import Derived.Test.YtdibapfehdhfjaaDoorPDecCmp
namespace Go.Proofs.YtdibapfehdhfjaaDoor
open Go.Eng
set_option linter.unusedVariables false
set_option linter.unusedSimpArgs false

theorem prog_sizes (s : ByteArray) : (progS s).exp.size ≤ s.size ∧ (progS s).digits.size ≤ 2 * s.size ∧ -(2 * (s.size : Int)) ≤ (progS s).off ∧ (progS s).off ≤ 2 * s.size := by
  have hA := atA_le s
  have hB := atB_le s
  have ha : (allS s).size ≤ s.size + s.size := by
    unfold allS
    split <;> simp <;> omega
  refine ⟨?_, ?_, ?_⟩
  · show (if expS s = true then trimL (expT s) 48 else ⟨#[]⟩).size ≤ _
    split
    · rw [trimL, ByteArray.size_extract, expT, ByteArray.size_extract]
      omega
    · exact Nat.zero_le _
  · show (trimR (trimL (s.extract (atA s) (atB s) ++ fracS s) 48) 48).size ≤ _
    rw [allS_eq, trimR, ByteArray.size_extract, trimL, ByteArray.size_extract]
    omega
  · show _ ≤ ((s.extract (atA s) (atB s)).size : Int) - ((s.extract (atA s) (atB s) ++ fracS s).size - (trimL (s.extract (atA s) (atB s) ++ fracS s) 48).size) ∧ ((s.extract (atA s) (atB s)).size : Int) - ((s.extract (atA s) (atB s) ++ fracS s).size - (trimL (s.extract (atA s) (atB s) ++ fracS s) 48).size) ≤ _
    rw [allS_eq]
    have hl : (trimL (allS s) 48).size ≤ (allS s).size := by rw [trimL, ByteArray.size_extract]; omega
    rw [ByteArray.size_extract]
    omega

section
variable (a b : ByteArray) (ha : a.size < 200000000000000) (hb : b.size < 200000000000000)
include ha hb
theorem p_size (m1 m2 : Bool) : decimal_size_s ⟨m1, (progS a).int, (progS a).digits, (progS a).off, (progS a).plain, (progS a).down, (progS a).exp⟩ ⟨m2, (progS b).int, (progS b).digits, (progS b).off, (progS b).plain, (progS b).down, (progS b).exp⟩ = some (sizeS a b) := by
  obtain ⟨x1, y1, o1, o1'⟩ := prog_sizes a
  obtain ⟨x2, y2, o2, o2'⟩ := prog_sizes b
  unfold decimal_size_s sizeS
  simp only
  by_cases h1 : (progS a).digits.size = 0
  · rw [decide_eq_true (eq_none.2 h1), Bool.true_or, cond_true, if_pos h1, gd_pos (by unfold InI64; split <;> split <;> omega)]
    refine congrArg some ?_
    by_cases h2 : (progS b).digits.size = 0
    · rw [if_pos h2]; split <;> split <;> omega
    · rw [if_neg h2]; split <;> split <;> omega
  · rw [decide_eq_false (fun h => h1 (eq_none.1 h)), Bool.false_or, if_neg h1]
    by_cases h2 : (progS b).digits.size = 0
    · rw [decide_eq_true (eq_none.2 h2), cond_true, if_pos h2, gd_pos (by unfold InI64; split <;> split <;> omega)]
      refine congrArg some ?_
      split <;> split <;> omega
    · rw [decide_eq_false (fun h => h2 (eq_none.1 h)), cond_false, if_neg h2]
      rw [p_apart _ _ (by simp only; omega) (by simp only; omega), Option.bind_some]
      simp only
      have hlo := difL_low (d1 := (progS a).down) (d2 := (progS b).down) (low_dl (progS a).exp) (low_dl (progS b).exp)
      have hs := apP_sgn (D := difS a b) hlo ((progS a).off - (progS b).off) (by omega) (max (progS a).exp.size (progS b).exp.size) 0
      have hbd : ∀ (D : Nat → Int), (∀ i, -510 ≤ D i ∧ D i ≤ 510) → ∀ (k : Nat) (e : Int), -72057594037927936 ≤ e ∧ e ≤ 72057594037927936 → -72057594037927936 ≤ apP D e k ∧ apP D e k ≤ 72057594037927936 := by
        intro D hD k
        induction k with
        | zero => intro e he; exact he
        | succ k ih =>
          intro e he
          simp only [apP]
          split
          · unfold clampS; split <;> first | omega | (split <;> omega)
          · exact ih _ (by omega)
      have hr := hbd (difS a b) hlo (max (progS a).exp.size (progS b).exp.size) 0 (by omega)
      change sgn _ = sgn (powS a b) at hs
      rw [show difL (progS a).down (dl (progS a).exp) (progS b).down (dl (progS b).exp) = difS a b from rfl]
      show gd (InI64 (apP (difS a b) 0 (max (progS a).exp.size (progS b).exp.size) + (progS a).off)) (gd (InI64 (apP (difS a b) 0 (max (progS a).exp.size (progS b).exp.size) + (progS a).off - (progS b).off)) (bif !decide (apP (difS a b) 0 (max (progS a).exp.size (progS b).exp.size) + (progS a).off - (progS b).off = 0) then _ else _)) = _
      rw [gd_pos (by unfold InI64; omega), gd_pos (by unfold InI64; omega), sgn_clamp]
      rw [show apP (difS a b) 0 (max (progS a).exp.size (progS b).exp.size) + (progS a).off - (progS b).off = apP (difS a b) 0 (max (progS a).exp.size (progS b).exp.size) + ((progS a).off - (progS b).off) by omega, hs]
      by_cases h3 : powS a b = 0
      · have : apP (difS a b) 0 (max (progS a).exp.size (progS b).exp.size) + ((progS a).off - (progS b).off) = 0 := by
          rw [h3] at hs
          exact sgn_zero.1 hs
        rw [decide_eq_true this, if_pos h3]
        simp only [Bool.not_true, cond_false]
        unfold strings_Compare_s internal_bytealg_CompareString_s
        simp only [Option.bind_some]
        rw [lex_dl _ _ (digits_low a) (digits_low b)]
        rfl
      · have : ¬ apP (difS a b) 0 (max (progS a).exp.size (progS b).exp.size) + ((progS a).off - (progS b).off) = 0 := fun h => by
          rw [h] at hs
          exact h3 (sgn_zero.1 hs.symm)
        rw [decide_eq_false this, if_neg h3]
        rfl
end

section
variable (a b : ByteArray) (ha : a.size < 1000000000) (hb : b.size < 1000000000) (ra : readOk a = true) (rb : readOk b = true)
include ha hb ra rb
end

theorem dig0 (d : ByteArray) (h : d = ⟨#[]⟩) (m : Bool) : (m && decide ((0 : Int) < (d.size : Int))) = false := by
  have := eq_none.1 h
  rw [this]
  simp
theorem dig1 (d : ByteArray) (h : ¬ d = ⟨#[]⟩) (m : Bool) : (m && decide ((0 : Int) < (d.size : Int))) = m := by
  have : ¬ d.size = 0 := fun h' => h (eq_none.2 h')
  have : (0 : Int) < (d.size : Int) := by omega
  rw [decide_eq_true this, Bool.and_true]
/-- Compare's answer of two numbers. -/
def cmpV (ua ub : Bool) (z : Int) : Int := if (ua && !ub) = true then -1 else if (!ua && ub) = true then 1 else if ua = true then -z else z
def upS (s : ByteArray) : Bool := (progS s).minus && decide ((0 : Int) < ((progS s).digits.size : Int))
section
variable (a b : ByteArray) (ha : a.size < 200000000000000) (hb : b.size < 200000000000000)
include ha hb
theorem p_Cmp1 (m1 m2 : Bool) : decimal_Compare_p1 m1 (progS a).int (progS a).digits (progS a).off (progS a).plain (progS a).down (progS a).exp m2 (progS b).int (progS b).digits (progS b).off (progS b).plain (progS b).down (progS b).exp = some (cmpV m1 m2 (sizeS a b), 0) := by
  unfold decimal_Compare_p1 cmpV
  rw [p_size a b ha hb, p_size b a hb ha, sizeS_neg a b]
  generalize sizeS a b = z
  cases m1 <;> cases m2 <;> rfl
theorem p_Cmp0 (m1 m2 : Bool) : decimal_Compare_p0 m1 (progS a).int (progS a).digits (progS a).off (progS a).plain (progS a).down (progS a).exp m2 (progS b).int (progS b).digits (progS b).off (progS b).plain (progS b).down (progS b).exp = some (cmpV m1 (m2 && decide ((0 : Int) < ((progS b).digits.size : Int))) (sizeS a b), 0) := by
  unfold decimal_Compare_p0
  by_cases h : (progS b).digits = ⟨#[]⟩
  · rw [decide_eq_true h, cond_true, p_Cmp1 a b ha hb, dig0 _ h]
    rfl
  · rw [decide_eq_false h, cond_false, p_Cmp1 a b ha hb, dig1 _ h]
    rfl
theorem p_Compare : decimal_Compare_s a b = some (if (readOk a && readOk b) = true then (cmpV (upS a) (upS b) (sizeS a b), 0) else (0, 30)) := by
  unfold decimal_Compare_s
  rw [p_read a (by omega), Option.bind_some, p_read b (by omega), Option.bind_some]
  cases ra : readOk a with
  | false => rfl
  | true =>
    cases rb : readOk b with
    | false => rfl
    | true =>
      rw [progAll_ok ra, progAll_ok rb]
      have c0 := p_Cmp0 a b ha hb
      generalize sizeS a b = z at c0 ⊢
      rw [Bool.and_true, if_pos rfl]
      unfold upS
      generalize progS a = pa at c0 ⊢
      generalize progS b = pb at c0 ⊢
      obtain ⟨m1, i1, d1, o1, p1, n1, x1⟩ := pa
      obtain ⟨m2, i2, d2, o2, p2, n2, x2⟩ := pb
      show (bif decide (d1 = (⟨#[]⟩ : ByteArray)) then ((decimal_Compare_p0 false i1 d1 o1 p1 n1 x1 m2 i2 d2 o2 p2 n2 x2).bind fun o7 => some (o7.1, o7.2)) else ((decimal_Compare_p0 m1 i1 d1 o1 p1 n1 x1 m2 i2 d2 o2 p2 n2 x2).bind fun o7 => some (o7.1, o7.2))) = some (cmpV (m1 && decide ((0 : Int) < (d1.size : Int))) (m2 && decide ((0 : Int) < (d2.size : Int))) z, 0)
      have c0' : ∀ m1, decimal_Compare_p0 m1 i1 d1 o1 p1 n1 x1 m2 i2 d2 o2 p2 n2 x2 = some (cmpV m1 (m2 && decide ((0 : Int) < (d2.size : Int))) z, 0) := fun m1 => c0 m1 m2
      by_cases h : d1 = ⟨#[]⟩
      · rw [decide_eq_true h, cond_true, c0', Option.bind_some, dig0 d1 h]
      · rw [decide_eq_false h, cond_false, c0', Option.bind_some, dig1 d1 h]
end
section
variable (a b : ByteArray) (ha : a.size < 1000000000) (hb : b.size < 1000000000)
include ha hb
end
end Go.Proofs.YtdibapfehdhfjaaDoor
