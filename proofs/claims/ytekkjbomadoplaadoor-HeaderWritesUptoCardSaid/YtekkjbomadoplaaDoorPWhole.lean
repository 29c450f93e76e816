/-
 Whether a text is a number, and the whole number that it is: the program and the document say the same of every text. No program.
-/
import Derived.Test.YtekkjbomadoplaaDoorPDec
import Derived.Test.YtekkjbomadoplaaDoorPDecRef
namespace Go.Proofs.YtekkjbomadoplaaDoor
open Go.Eng
set_option linter.unusedVariables false
set_option linter.unusedSimpArgs false

theorem p_Valid (s : ByteArray) (hs : s.size ≤ 3000000) : zaa_s s = some (readOk s) := by
 unfold zaa_s
 rw [p_read s (by omega)]
 rfl
theorem r_Valid (s : ByteArray) (hs : s.size ≤ 3000000) : zat_s s = some (readOk s) := by
 unfold zat_s
 rw [p_Read s (by omega)]
 rfl
theorem tdiv_neg (x : Int) (h : 0 ≤ x) : Int.tdiv (-x) 10 = -(x / 10) := by
 rw [Int.neg_tdiv, Int.tdiv_eq_ediv_of_nonneg h]
theorem whole_pair (t : ByteArray) (hs : t.size ≤ 3000000) : ∀ (j i : Nat) (v : Int), i + j = t.size → 0 ≤ v ∧ v ≤ 9223372036854775808 →
  (zab_p0 v (t.size : Int) (i : Int) t = some (.inl (0, false)) ∧ zau_p0 (-v) (i : Int) t = some (.inl (0, false))) ∨
  (∃ u : Int, (0 ≤ u ∧ u ≤ 9223372036854775808) ∧ zab_p0 v (t.size : Int) (i : Int) t = some (.inr u) ∧ zau_p0 (-v) (i : Int) t = some (.inr (-u)))
 | 0, i, v, h, hv => by
  refine .inr ⟨v, hv, ?_, ?_⟩
  ·unfold zab_p0
   refine whileO_inr ?_
   unfold zab_p0_step
   dsimp only
   rw [decide_eq_false (by omega), cond_false]
  ·unfold zau_p0
   refine whileO_inr ?_
   unfold zau_p0_step
   dsimp only
   rw [decide_eq_false (by omega), cond_false]
 | j + 1, i, v, h, hv => by
  obtain ⟨d, hd⟩ : ∃ d, d = (bAt t i - 48) % 256 := ⟨_, rfl⟩
  have hd2 : 0 ≤ d ∧ d < 256 := by omega
  have hq : Int.tdiv (-9223372036854775808 + d) 10 = -((9223372036854775808 - d) / 10) := by
   rw [show (-9223372036854775808 + d) = -(9223372036854775808 - d) by omega]
   exact tdiv_neg _ (by omega)
  have e1 : (9223372036854775808 - d % 18446744073709551616) % 18446744073709551616 = 9223372036854775808 - d := by omega
  have s1 : zab_p0_step v (t.size : Int) (i : Int) t = if (9223372036854775808 - d) / 10 < v then some (.inr (.inl (0, false))) else some (.inl (10 * v + d, ((i + 1 : Nat) : Int))) := by
   unfold zab_p0_step
   rw [← hd, decide_eq_true (by omega), cond_true]
   refine (gd_pos (by omega) _).trans ?_
   rw [e1]
   refine (gd_pos (by omega) _).trans ?_
   by_cases hl : (9223372036854775808 - d) / 10 < v
   ·rw [decide_eq_true hl, cond_true, if_pos hl]
   ·rw [decide_eq_false hl, cond_false, if_neg hl]
    refine (gd_pos (by unfold InI64; omega) _).trans ?_
    rw [show (10 * v % 18446744073709551616 + d % 18446744073709551616) % 18446744073709551616 = 10 * v + d by omega]
    rfl
  have s2 : zau_p0_step (-v) (i : Int) t = if (9223372036854775808 - d) / 10 < v then some (.inr (.inl (0, false))) else some (.inl (-(10 * v + d), ((i + 1 : Nat) : Int))) := by
   unfold zau_p0_step
   rw [← hd, decide_eq_true (by omega), cond_true]
   refine (gd_pos (by omega) _).trans ?_
   refine (gd_pos (by unfold InI64; omega) _).trans ?_
   refine (gd_pos (by unfold InI64; omega) _).trans ?_
   refine (gd_pos ⟨by decide, by unfold InI64; omega⟩ _).trans ?_
   rw [hq]
   by_cases hl : (9223372036854775808 - d) / 10 < v
   ·rw [decide_eq_true (by omega), cond_true, if_pos hl]
   ·rw [decide_eq_false (by omega), cond_false, if_neg hl]
    refine (gd_pos (by unfold InI64; omega) _).trans ?_
    refine (gd_pos (by unfold InI64; omega) _).trans ?_
    refine (gd_pos (by unfold InI64; omega) _).trans ?_
    rw [show 10 * -v - d = -(10 * v + d) by omega]
    rfl
  by_cases hl : (9223372036854775808 - d) / 10 < v
  ·rw [if_pos hl] at s1 s2
   refine .inl ⟨?_, ?_⟩
   ·unfold zab_p0
    exact whileO_inr s1
   ·unfold zau_p0
    exact whileO_inr s2
  ·rw [if_neg hl] at s1 s2
   have ih := whole_pair t hs j (i + 1) (10 * v + d) (by omega) (by omega)
   have w1 : zab_p0 v (t.size : Int) (i : Int) t = zab_p0 (10 * v + d) (t.size : Int) ((i + 1 : Nat) : Int) t := by
    unfold zab_p0
    exact whileO_inl s1
   have w2 : zau_p0 (-v) (i : Int) t = zau_p0 (-(10 * v + d)) ((i + 1 : Nat) : Int) t := by
    unfold zau_p0
    exact whileO_inl s2
   rw [w1, w2]
   exact ih
/-- The whole number of a text, as both say it. -/
theorem whole_eq (s : ByteArray) (hs : s.size ≤ 3000000) : ∃ r, zab_s s = some r ∧ zau_s s = some r := by
 unfold zab_s zau_s
 rw [p_read s (by omega), p_Read s (by omega), obS, obS]
 cases hr : readOk s with
 | false => exact ⟨(0, false), rfl, rfl⟩
 | true =>
  rw [progAll_ok hr, readAll_ok hr]
  have hp : (num (progS s)).plain = (rnum (readS s)).plain := rfl
  simp only [Bool.not_true, Bool.false_or]
  rw [hp]
  cases hpl : (rnum (readS s)).plain with
  | false => exact ⟨(0, false), rfl, rfl⟩
  | true =>
   simp only [Bool.not_true, cond_false]
   have ht : (num (progS s)).whole = (rnum (readS s)).text := rfl
   have hm : (num (progS s)).minus = (rnum (readS s)).minus := rfl
   rw [ht, hm]
   have hz : (rnum (readS s)).text.size ≤ 3000000 := by
    show (s.extract _ _).size ≤ _
    rw [ByteArray.size_extract]; omega
   have := whole_pair (rnum (readS s)).text hz (rnum (readS s)).text.size 0 0 (by omega) (by omega)
   rw [show (-0 : Int) = 0 from rfl, show ((0 : Nat) : Int) = 0 from rfl] at this
   rcases this with ⟨h1, h2⟩ | ⟨u, hu, h1, h2⟩
   ·exact ⟨(0, false), by rw [h1]; rfl, by rw [h2]; rfl⟩
   ·rw [h1, h2, obS, obS]
    simp only [Sum.elim_inr]
    cases (rnum (readS s)).minus with
    | true =>
     refine ⟨(-u, true), ?_, rfl⟩
     simp only [Bool.not_true, Bool.false_and, cond_false, cond_true]
     unfold w64
     rw [IntKind.wrap_i64]
     congr 2
     omega
    | false =>
     simp only [Bool.not_false, Bool.true_and, cond_false]
     by_cases h0 : u = 9223372036854775808
     ·refine ⟨(0, false), ?_, ?_⟩
      ·rw [decide_eq_true h0, cond_true]
      ·rw [decide_eq_true (by omega), cond_true]
     ·refine ⟨(u, true), ?_, ?_⟩
      ·rw [decide_eq_false h0, cond_false]
       unfold w64
       rw [IntKind.wrap_i64]
       congr 2
       omega
      ·rw [decide_eq_false (by omega), cond_false]
       refine (gd_pos (by unfold InI64; omega) _).trans ?_
       rw [show 0 - -u = u by omega]
end Go.Proofs.YtekkjbomadoplaaDoor
