/-
  DecimalCompares: the plain law. No program.
-/
import Derived.Test.YtdibapfehdhfjaaDoorPDecCmp
namespace Go.Proofs.YtdibapfehdhfjaaDoor
open Go.Eng
set_option linter.unusedVariables false
set_option linter.unusedSimpArgs false

theorem prog_sizes (s : ByteArray) : (progS s).exp.size ≤ s.size ∧ (progS s).digits.size ≤ 2 * s.size ∧ -(2 * (s.size : Int)) ≤ (progS s).off ∧ (progS s).off ≤ 2 * s.size := by
  have hA := atA_le s
  have hB := atB_le s
  have ha : (allS s).size ≤ s.size + s.size := by
    unfold allS
    split <;> simp <;> omega
  refine ⟨?_, ?_, ?_⟩
  · show (if expS s = true then trimL (expT s) 48 else ⟨#[]⟩).size ≤ _
    split
    · rw [trimL, ByteArray.size_extract, expT, ByteArray.size_extract]
      omega
    · exact Nat.zero_le _
  · show (trimR (trimL (s.extract (atA s) (atB s) ++ fracS s) 48) 48).size ≤ _
    rw [allS_eq, trimR, ByteArray.size_extract, trimL, ByteArray.size_extract]
    omega
  · show _ ≤ ((s.extract (atA s) (atB s)).size : Int) - ((s.extract (atA s) (atB s) ++ fracS s).size - (trimL (s.extract (atA s) (atB s) ++ fracS s) 48).size) ∧ ((s.extract (atA s) (atB s)).size : Int) - ((s.extract (atA s) (atB s) ++ fracS s).size - (trimL (s.extract (atA s) (atB s) ++ fracS s) 48).size) ≤ _
    rw [allS_eq]
    have hl : (trimL (allS s) 48).size ≤ (allS s).size := by rw [trimL, ByteArray.size_extract]; omega
    rw [ByteArray.size_extract]
    omega

section
variable (a b : ByteArray) (ha : a.size < 200000000000000) (hb : b.size < 200000000000000)
include ha hb
theorem p_size (m1 m2 : Bool) : decimal_size_s ⟨m1, (progS a).int, (progS a).digits, (progS a).off, (progS a).plain, (progS a).down, (progS a).exp⟩ ⟨m2, (progS b).int, (progS b).digits, (progS b).off, (progS b).plain, (progS b).down, (progS b).exp⟩ = some (sizeS a b) := by
  obtain ⟨x1, y1, o1, o1'⟩ := prog_sizes a
  obtain ⟨x2, y2, o2, o2'⟩ := prog_sizes b
  unfold decimal_size_s sizeS
  simp only
  by_cases h1 : (progS a).digits.size = 0
  · rw [decide_eq_true (eq_none.2 h1), Bool.true_or, cond_true, if_pos h1, gd_pos (by unfold InI64; split <;> split <;> omega)]
    refine congrArg some ?_
    by_cases h2 : (progS b).digits.size = 0
    · rw [if_pos h2]; split <;> split <;> omega
    · rw [if_neg h2]; split <;> split <;> omega
  · rw [decide_eq_false (fun h => h1 (eq_none.1 h)), Bool.false_or, if_neg h1]
    by_cases h2 : (progS b).digits.size = 0
    · rw [decide_eq_true (eq_none.2 h2), cond_true, if_pos h2, gd_pos (by unfold InI64; split <;> split <;> omega)]
      refine congrArg some ?_
      split <;> split <;> omega
    · rw [decide_eq_false (fun h => h2 (eq_none.1 h)), cond_false, if_neg h2]
      rw [p_apart _ _ (by simp only; omega) (by simp only; omega), Option.bind_some]
      simp only
      have hlo := difL_low (d1 := (progS a).down) (d2 := (progS b).down) (low_dl (progS a).exp) (low_dl (progS b).exp)
      have hs := apP_sgn (D := difS a b) hlo ((progS a).off - (progS b).off) (by omega) (max (progS a).exp.size (progS b).exp.size) 0
      have hbd : ∀ (D : Nat → Int), (∀ i, -510 ≤ D i ∧ D i ≤ 510) → ∀ (k : Nat) (e : Int), -72057594037927936 ≤ e ∧ e ≤ 72057594037927936 → -72057594037927936 ≤ apP D e k ∧ apP D e k ≤ 72057594037927936 := by
        intro D hD k
        induction k with
        | zero => intro e he; exact he
        | succ k ih =>
          intro e he
          simp only [apP]
          split
          · unfold clampS; split <;> first | omega | (split <;> omega)
          · exact ih _ (by omega)
      have hr := hbd (difS a b) hlo (max (progS a).exp.size (progS b).exp.size) 0 (by omega)
      change sgn _ = sgn (powS a b) at hs
      rw [show difL (progS a).down (dl (progS a).exp) (progS b).down (dl (progS b).exp) = difS a b from rfl]
      show gd (InI64 (apP (difS a b) 0 (max (progS a).exp.size (progS b).exp.size) + (progS a).off)) (gd (InI64 (apP (difS a b) 0 (max (progS a).exp.size (progS b).exp.size) + (progS a).off - (progS b).off)) (bif !decide (apP (difS a b) 0 (max (progS a).exp.size (progS b).exp.size) + (progS a).off - (progS b).off = 0) then _ else _)) = _
      rw [gd_pos (by unfold InI64; omega), gd_pos (by unfold InI64; omega), sgn_clamp]
      rw [show apP (difS a b) 0 (max (progS a).exp.size (progS b).exp.size) + (progS a).off - (progS b).off = apP (difS a b) 0 (max (progS a).exp.size (progS b).exp.size) + ((progS a).off - (progS b).off) by omega, hs]
      by_cases h3 : powS a b = 0
      · have : apP (difS a b) 0 (max (progS a).exp.size (progS b).exp.size) + ((progS a).off - (progS b).off) = 0 := by
          rw [h3] at hs
          exact sgn_zero.1 hs
        rw [decide_eq_true this, if_pos h3]
        simp only [Bool.not_true, cond_false]
        unfold strings_Compare_s internal_bytealg_CompareString_s
        simp only [Option.bind_some]
        rw [lex_dl _ _ (digits_low a) (digits_low b)]
        rfl
      · have : ¬ apP (difS a b) 0 (max (progS a).exp.size (progS b).exp.size) + ((progS a).off - (progS b).off) = 0 := fun h => by
          rw [h] at hs
          exact h3 (sgn_zero.1 hs.symm)
        rw [decide_eq_false this, if_neg h3]
        rfl
end

theorem p_Size0 (l m : List Int) (hl : l.length < 4000000000) (hm : m.length < 4000000000) : signetref2_Size_p0 0 l m = some (if lexI l m = 0 then .inr () else .inl (lexI l m)) := by
  unfold signetref2_Size_p0
  rw [whileO_rule (fun x : Int => ∃ k : Nat, x = (k : Int) ∧ k ≤ l.length ∧ k ≤ m.length ∧ lexI (l.drop k) (m.drop k) = lexI l m) (fun x => l.length - x.toNat) (fun _ => if lexI l m = 0 then .inr () else .inl (lexI l m)) ?_ (x := (0 : Int)) ⟨0, rfl, by omega, by omega, rfl⟩]
  rintro _ ⟨k, rfl, hk1, hk2, hx⟩
  unfold signetref2_Size_p0_step
  by_cases h1 : k < l.length
  · by_cases h2 : k < m.length
    · have e1 : l.drop k = l[k] :: l.drop (k + 1) := List.drop_eq_getElem_cons h1
      have e2 : m.drop k = m[k] :: m.drop (k + 1) := List.drop_eq_getElem_cons h2
      have g1 : l.getD (Int.toNat (k : Int)) (ET.dft .i64) = l[k] := by rw [Int.toNat_natCast, List.getD_eq_getElem?_getD, List.getElem?_eq_getElem h1]; rfl
      have g2 : m.getD (Int.toNat (k : Int)) (ET.dft .i64) = m[k] := by rw [Int.toNat_natCast, List.getD_eq_getElem?_getD, List.getElem?_eq_getElem h2]; rfl
      rw [e1, e2] at hx
      simp only [lexI] at hx
      rw [g1, g2, decide_eq_true (show (k : Int) < (l.length : Int) by omega), Bool.true_or, cond_true, decide_eq_false (by omega), cond_false, decide_eq_false (by omega), cond_false]
      rw [gd_pos (by omega), gd_pos (by omega), gd_pos (by omega), gd_pos (by omega)]
      by_cases c1 : l[k] < m[k]
      · right
        rw [decide_eq_true c1, cond_true]
        rw [if_pos c1] at hx
        rw [← hx]
        rfl
      · rw [decide_eq_false c1, cond_false, gd_pos (by omega), gd_pos (by omega), gd_pos (by omega), gd_pos (by omega)]
        rw [if_neg c1] at hx
        by_cases c2 : m[k] < l[k]
        · right
          rw [decide_eq_true c2, cond_true]
          rw [if_pos c2] at hx
          rw [← hx]
          rfl
        · left
          rw [decide_eq_false c2, cond_false, gd_pos (by unfold InI64; omega)]
          rw [if_neg c2] at hx
          exact ⟨((k + 1 : Nat) : Int), rfl, ⟨k + 1, rfl, by omega, by omega, hx⟩, by omega, rfl⟩
    · right
      have e1 : l.drop k = l[k] :: l.drop (k + 1) := List.drop_eq_getElem_cons h1
      have e2 : m.drop k = [] := List.drop_eq_nil_of_le (by omega)
      rw [e1, e2] at hx
      simp only [lexI] at hx
      rw [decide_eq_true (show (k : Int) < (l.length : Int) by omega), Bool.true_or, cond_true, decide_eq_false (by omega), cond_false, decide_eq_true (by omega), cond_true, ← hx]
      rfl
  · have e1 : l.drop k = [] := List.drop_eq_nil_of_le (by omega)
    right
    rw [decide_eq_false (show ¬ (k : Int) < (l.length : Int) by omega), Bool.false_or]
    by_cases h2 : k < m.length
    · have e2 : m.drop k = m[k] :: m.drop (k + 1) := List.drop_eq_getElem_cons h2
      rw [e1, e2] at hx
      simp only [lexI] at hx
      rw [decide_eq_true (by omega), cond_true, decide_eq_true (by omega), cond_true, ← hx]
      rfl
    · have e2 : m.drop k = [] := List.drop_eq_nil_of_le (by omega)
      rw [e1, e2] at hx
      simp only [lexI] at hx
      rw [decide_eq_false (by omega), cond_false, ← hx]
      rfl

section
variable (a b : ByteArray) (ha : a.size < 1000000000) (hb : b.size < 1000000000) (ra : readOk a = true) (rb : readOk b = true)
include ha hb ra rb
omit ha hb ra rb in
theorem difR (x y : ByteArray) (rx : readOk x = true) (ry : readOk y = true) : difL (readS x).down (readS x).exp (readS y).down (readS y).exp = difS x y := by
  have one : ∀ (s : ByteArray), readOk s = true → ∀ i, sgI (readS s).down (atL (readS s).exp i) = sgI (progS s).down (atL (dl (progS s).exp) i) := fun s hs i => by
    rw [ref_exp hs]
    by_cases h : (progS s).exp = ⟨#[]⟩
    · rw [h]
      show sgI _ 0 = sgI _ 0
      rw [sgI_zero, sgI_zero]
    · have : (progS s).down = (readS s).down := by
        show (expS s && decide (bAt s (atC s + 1) = 45) && !decide (trimL (expT s) 48 = ⟨#[]⟩)) = (expS s && decide (bAt s (atC s + 1) = 45))
        have he : (progS s).exp = if expS s = true then trimL (expT s) 48 else ⟨#[]⟩ := rfl
        rw [he] at h
        cases hx : expS s with
        | false => rfl
        | true =>
          rw [hx, if_pos rfl] at h
          simp [h]
      rw [this]
  funext i
  unfold difL
  rw [one x rx i, one y ry i]
  rfl
theorem p_Size : signetref2_Size_s (rnum (readS a)) (rnum (readS b)) = some (sizeS a b) := by
  obtain ⟨x1, y1, o1, o1'⟩ := prog_sizes a
  obtain ⟨x2, y2, o2, o2'⟩ := prog_sizes b
  have da := ref_digits a
  have db := ref_digits b
  have ea := ref_exp ra
  have eb := ref_exp rb
  unfold signetref2_Size_s sizeS rnum
  simp only [da, db, dl_length]
  by_cases h1 : (progS a).digits.size = 0
  · by_cases h2 : (progS b).digits.size = 0
    · simp [h1, h2]
    · have : ¬ ((progS b).digits.size : Int) = 0 := by omega
      simp [h1, h2]
  · rw [decide_eq_false (show ¬ ((progS a).digits.size : Int) = 0 by omega), Bool.false_and, cond_false, cond_false, if_neg h1]
    by_cases h2 : (progS b).digits.size = 0
    · simp [h2]
    · rw [decide_eq_false (show ¬ ((progS b).digits.size : Int) = 0 by omega), cond_false, if_neg h2]
      rw [p_Apart _ _ (by rw [ea]; exact low_dl _) (by rw [eb]; exact low_dl _) (by rw [ea, dl_length]; omega) (by rw [eb, dl_length]; omega) (by simp only [ref_off]; omega) (by simp only [ref_off]; omega), Option.bind_some]
      simp only
      rw [difR a b ra rb, ref_off, ref_off, ea, eb, dl_length, dl_length]
      have hlo := difL_low (d1 := (progS a).down) (d2 := (progS b).down) (low_dl (progS a).exp) (low_dl (progS b).exp)
      have hs := apR_sgn (D := difS a b) hlo ((progS a).off - (progS b).off) (by omega) (max (progS a).exp.size (progS b).exp.size) 0
      change sgn _ = sgn (powS a b) at hs
      generalize apR (difS a b) ((progS a).off - (progS b).off) 0 (max (progS a).exp.size (progS b).exp.size) = z at hs
      by_cases h3 : powS a b = 0
      · rw [if_pos h3]
        rw [h3] at hs
        have hz : z = 0 := sgn_zero.1 hs
        subst hz
        simp only [Int.lt_irrefl, decide_false, cond_false]
        rw [p_Size0 _ _ (by rw [dl_length]; omega) (by rw [dl_length]; omega), Option.bind_some]
        split
        · rename_i h
          rw [h]
          rfl
        · rfl
      · rw [if_neg h3, ← hs]
        have hz : z ≠ 0 := fun h => h3 (sgn_zero.1 (by rw [← hs, h]; rfl))
        unfold sgn
        by_cases c1 : z < 0
        · simp [c1]
        · have c2 : 0 < z := by omega
          simp [c1, c2]
end

theorem dig0 (d : ByteArray) (h : d = ⟨#[]⟩) (m : Bool) : (m && decide ((0 : Int) < (d.size : Int))) = false := by
  have := eq_none.1 h
  rw [this]
  simp
theorem dig1 (d : ByteArray) (h : ¬ d = ⟨#[]⟩) (m : Bool) : (m && decide ((0 : Int) < (d.size : Int))) = m := by
  have : ¬ d.size = 0 := fun h' => h (eq_none.2 h')
  have : (0 : Int) < (d.size : Int) := by omega
  rw [decide_eq_true this, Bool.and_true]
/-- Compare's answer of two numbers. -/
def cmpV (ua ub : Bool) (z : Int) : Int := if (ua && !ub) = true then -1 else if (!ua && ub) = true then 1 else if ua = true then -z else z
def upS (s : ByteArray) : Bool := (progS s).minus && decide ((0 : Int) < ((progS s).digits.size : Int))
section
variable (a b : ByteArray) (ha : a.size < 200000000000000) (hb : b.size < 200000000000000)
include ha hb
theorem p_Cmp1 (m1 m2 : Bool) : decimal_Compare_p1 m1 (progS a).int (progS a).digits (progS a).off (progS a).plain (progS a).down (progS a).exp m2 (progS b).int (progS b).digits (progS b).off (progS b).plain (progS b).down (progS b).exp = some (cmpV m1 m2 (sizeS a b), 0) := by
  unfold decimal_Compare_p1 cmpV
  rw [p_size a b ha hb, p_size b a hb ha, sizeS_neg a b]
  generalize sizeS a b = z
  cases m1 <;> cases m2 <;> rfl
theorem p_Cmp0 (m1 m2 : Bool) : decimal_Compare_p0 m1 (progS a).int (progS a).digits (progS a).off (progS a).plain (progS a).down (progS a).exp m2 (progS b).int (progS b).digits (progS b).off (progS b).plain (progS b).down (progS b).exp = some (cmpV m1 (m2 && decide ((0 : Int) < ((progS b).digits.size : Int))) (sizeS a b), 0) := by
  unfold decimal_Compare_p0
  by_cases h : (progS b).digits = ⟨#[]⟩
  · rw [decide_eq_true h, cond_true, p_Cmp1 a b ha hb, dig0 _ h]
    rfl
  · rw [decide_eq_false h, cond_false, p_Cmp1 a b ha hb, dig1 _ h]
    rfl
theorem p_Compare : decimal_Compare_s a b = some (if (readOk a && readOk b) = true then (cmpV (upS a) (upS b) (sizeS a b), 0) else (0, 30)) := by
  unfold decimal_Compare_s
  rw [p_read a (by omega), Option.bind_some, p_read b (by omega), Option.bind_some]
  cases ra : readOk a with
  | false => rfl
  | true =>
    cases rb : readOk b with
    | false => rfl
    | true =>
      rw [progAll_ok ra, progAll_ok rb]
      have c0 := p_Cmp0 a b ha hb
      generalize sizeS a b = z at c0 ⊢
      rw [Bool.and_true, if_pos rfl]
      unfold upS
      generalize progS a = pa at c0 ⊢
      generalize progS b = pb at c0 ⊢
      obtain ⟨m1, i1, d1, o1, p1, n1, x1⟩ := pa
      obtain ⟨m2, i2, d2, o2, p2, n2, x2⟩ := pb
      show (bif decide (d1 = (⟨#[]⟩ : ByteArray)) then ((decimal_Compare_p0 false i1 d1 o1 p1 n1 x1 m2 i2 d2 o2 p2 n2 x2).bind fun o7 => some (o7.1, o7.2)) else ((decimal_Compare_p0 m1 i1 d1 o1 p1 n1 x1 m2 i2 d2 o2 p2 n2 x2).bind fun o7 => some (o7.1, o7.2))) = some (cmpV (m1 && decide ((0 : Int) < (d1.size : Int))) (m2 && decide ((0 : Int) < (d2.size : Int))) z, 0)
      have c0' : ∀ m1, decimal_Compare_p0 m1 i1 d1 o1 p1 n1 x1 m2 i2 d2 o2 p2 n2 x2 = some (cmpV m1 (m2 && decide ((0 : Int) < (d2.size : Int))) z, 0) := fun m1 => c0 m1 m2
      by_cases h : d1 = ⟨#[]⟩
      · rw [decide_eq_true h, cond_true, c0', Option.bind_some, dig0 d1 h]
      · rw [decide_eq_false h, cond_false, c0', Option.bind_some, dig1 d1 h]
end
section
variable (a b : ByteArray) (ha : a.size < 1000000000) (hb : b.size < 1000000000)
include ha hb
theorem p_refCompare : signetref2_Compare_s a b = some (if (readOk a && readOk b) = true then (cmpV (upS a) (upS b) (sizeS a b), 0) else (0, 30)) := by
  unfold signetref2_Compare_s
  rw [p_Read a ha, Option.bind_some, p_Read b hb, Option.bind_some]
  cases ra : readOk a with
  | false => rfl
  | true =>
    cases rb : readOk b with
    | false => rfl
    | true =>
      rw [readAll_ok ra, readAll_ok rb]
      simp only [Bool.not_true, Bool.or_false, cond_false, Bool.and_true, if_true]
      rw [p_Size a b ha hb ra rb, Option.bind_some]
      have ua : ((rnum (readS a)).minus && decide ((0 : Int) < ((rnum (readS a)).digits.length : Int))) = upS a := by
        show ((progS a).minus && decide ((0 : Int) < ((readS a).digits.length : Int))) = _
        rw [ref_digits, dl_length]; rfl
      have ub : ((rnum (readS b)).minus && decide ((0 : Int) < ((rnum (readS b)).digits.length : Int))) = upS b := by
        show ((progS b).minus && decide ((0 : Int) < ((readS b).digits.length : Int))) = _
        rw [ref_digits, dl_length]; rfl
      have hrg := sizeS_range a b
      rw [ua, ub, gd_pos (by unfold InI64; omega), Int.zero_sub]
      unfold cmpV
      generalize sizeS a b = z
      cases upS a <;> cases upS b <;> rfl
theorem decimalCompares_plain : signetlaw2_DecimalCompares_s a b = some true := by
  unfold signetlaw2_DecimalCompares_s
  rw [p_Compare a b (by omega) (by omega), Option.bind_some, p_refCompare a b ha hb, Option.bind_some, decide_eq_true rfl, decide_eq_true rfl]
  rfl
end
end Go.Proofs.YtdibapfehdhfjaaDoor
