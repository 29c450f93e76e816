/-
  Two numbers compared, by the program and by the document. No program.
-/
import Derived.Test.YtdibapfehdhfjaaDoorPDecRef
import Derived.Test.YtdibapfehdhfjaaDoorDecKey
namespace Go.Proofs.YtdibapfehdhfjaaDoor
open Go.Eng
set_option linter.unusedVariables false
set_option linter.unusedSimpArgs false

theorem p_digitAt (b : ByteArray) (hb : b.size < 4000000000000000) (k : Nat) (hk : k < 4000000000000000) : decimal_digitAt_s b k = some (atL (dl b) k) := by
  unfold decimal_digitAt_s atL
  rw [dl_length]
  by_cases h : b.size ≤ k
  · rw [decide_eq_true (by omega), cond_true, if_pos h]
  · rw [decide_eq_false (by omega), cond_false, if_neg h]
    have e : ((b.size : Int) - 1) - (k : Int) = ((b.size - 1 - k : Nat) : Int) := by omega
    rw [e]
    have hi : b.size - 1 - k < (dl b).length := by rw [dl_length]; omega
    have hv : (bAt b ((b.size - 1 - k : Nat) : Int) - 48) % 256 = (dl b).getD (b.size - 1 - k) 0 := by
      rw [List.getD_eq_getElem?_getD, List.getElem?_eq_getElem hi, Option.getD_some, dl_get b _ (by omega)]
      rfl
    refine (gd_pos (by unfold InI64; omega) _).trans ?_
    refine (gd_pos (by unfold InI64; omega) _).trans ?_
    refine (gd_pos (by omega) _).trans ?_
    refine (gd_pos (by unfold InI64; omega) _).trans ?_
    rw [hv]
/-- The program's sum: the bound that it passed, or the sum. -/
def apPs (D : Nat → Int) (e : Int) : Nat → Int ⊕ Int
  | 0 => .inr e
  | k + 1 => if 72057594037927936 < 10 * e + D k ∨ 10 * e + D k < -72057594037927936 then .inl (clampS 72057594037927936 (10 * e + D k)) else apPs D (10 * e + D k) k
theorem apPs_eq (D : Nat → Int) : ∀ (k : Nat) (e : Int), Sum.elim id id (apPs D e k) = apP D e k
  | 0, e => rfl
  | k + 1, e => by
    simp only [apPs, apP]
    split
    · rfl
    · exact apPs_eq D k _
theorem p_apart2 (d x y : Int) (hd : -72057594037927936 ≤ d ∧ d ≤ 72057594037927936) (hx : -255 ≤ x ∧ x ≤ 255) (hy : -255 ≤ y ∧ y ≤ 255) :
    decimal_apart_p2 d x y = some (if 72057594037927936 < 10 * d + (x - y) ∨ 10 * d + (x - y) < -72057594037927936 then .inl (clampS 72057594037927936 (10 * d + (x - y))) else .inr (10 * d + (x - y))) := by
  unfold decimal_apart_p2
  refine (gd_pos (by unfold InI64; omega) _).trans ?_
  refine (gd_pos (by unfold InI64; omega) _).trans ?_
  refine (gd_pos (by unfold InI64; omega) _).trans ?_
  rw [show 10 * d + x - y = 10 * d + (x - y) by omega]
  generalize 10 * d + (x - y) = z
  by_cases h : 72057594037927936 < z ∨ z < -72057594037927936
  · have : (decide (72057594037927936 < z) || decide (z < -72057594037927936)) = true := by simpa using h
    rw [this, cond_true, if_pos h]
    congr 2
    unfold clampS
    split <;> split <;> first | omega | (split <;> first | omega | (split <;> omega))
  · have : (decide (72057594037927936 < z) || decide (z < -72057594037927936)) = false := by
      rw [Bool.or_eq_false_iff, decide_eq_false_iff_not, decide_eq_false_iff_not]
      exact ⟨fun h' => h (.inl h'), fun h' => h (.inr h')⟩
    rw [this, cond_false, if_neg h]
theorem p_apart1 (d x y : Int) (bd : Bool) (hd : -72057594037927936 ≤ d ∧ d ≤ 72057594037927936) (hx : -255 ≤ x ∧ x ≤ 255) (hy : 0 ≤ y ∧ y ≤ 255) :
    decimal_apart_p1 d x y bd = some (if 72057594037927936 < 10 * d + (x - sgI bd y) ∨ 10 * d + (x - sgI bd y) < -72057594037927936 then .inl (clampS 72057594037927936 (10 * d + (x - sgI bd y))) else .inr (10 * d + (x - sgI bd y))) := by
  unfold decimal_apart_p1
  cases bd with
  | true =>
    simp only [cond_true]
    refine (gd_pos (by unfold InI64; omega) _).trans ?_
    rw [p_apart2 d x (0 - y) hd hx (by omega), Option.bind_some]
    have : sgI true y = 0 - y := by simp [sgI]
    rw [this]
    split <;> rfl
  | false =>
    simp only [cond_false]
    rw [p_apart2 d x y hd hx (by omega), Option.bind_some]
    have : sgI false y = y := by simp [sgI]
    rw [this]
    split <;> rfl
theorem p_apart0 (d1 d2 : Bool) (e1 e2 : ByteArray) (h1 : e1.size < 4000000000000000) (h2 : e2.size < 4000000000000000) (n : Nat) (hn : n < 4000000000000000) :
    decimal_apart_p0 0 ((n : Int) - 1) d1 e1 d2 e2 = some (apPs (difL d1 (dl e1) d2 (dl e2)) 0 n) := by
  unfold decimal_apart_p0
  rw [whileO_rule (fun x : Int × Int => ∃ k : Nat, x.2 = (k : Int) - 1 ∧ k ≤ n ∧ -72057594037927936 ≤ x.1 ∧ x.1 ≤ 72057594037927936) (fun x => Int.toNat (x.2 + 1)) (fun x => apPs (difL d1 (dl e1) d2 (dl e2)) x.1 (Int.toNat (x.2 + 1))) ?_ (x := ((0 : Int), (n : Int) - 1)) ⟨n, rfl, Nat.le_refl _, by simp only; omega, by simp only; omega⟩]
  · simp only
    rw [show Int.toNat ((n : Int) - 1 + 1) = n by omega]
  rintro ⟨d, _⟩ ⟨k, rfl, hk, hd1, hd2⟩
  simp only at hd1 hd2
  simp only
  unfold decimal_apart_p0_step
  rw [show Int.toNat ((k : Int) - 1 + 1) = k by omega]
  cases k with
  | zero => right; rfl
  | succ k =>
    have hix : ((k + 1 : Nat) : Int) - 1 = k := by omega
    rw [hix, decide_eq_true (by omega), cond_true, p_digitAt e1 h1 k (by omega), Option.bind_some, p_digitAt e2 h2 k (by omega), Option.bind_some]
    have a := low_dl e1 k
    have b := low_dl e2 k
    have a' := sgI_low d1 a
    have hD : difL d1 (dl e1) d2 (dl e2) k = sgI d1 (atL (dl e1) k) - sgI d2 (atL (dl e2) k) := rfl
    have key : ((bif d1 then gd (InI64 (0 - atL (dl e1) k)) ((decimal_apart_p1 d (0 - atL (dl e1) k) (atL (dl e2) k) d2).bind fun o15 => (Sum.elim (fun (o15_0 : Int) =>
        some (.inr (.inl o15_0))) (fun (o15_1 : Int) =>
        gd (InI64 ((k : Int) - (1 : Int))) <|
        some (.inl (o15_1, ((k : Int) - (1 : Int)))))) o15) else ((decimal_apart_p1 d (atL (dl e1) k) (atL (dl e2) k) d2).bind fun o16 => (Sum.elim (fun (o16_0 : Int) =>
        some (.inr (.inl o16_0))) (fun (o16_1 : Int) =>
        gd (InI64 ((k : Int) - (1 : Int))) <|
        some (.inl (o16_1, ((k : Int) - (1 : Int)))))) o16)) : Option ((Int × Int) ⊕ (Int ⊕ Int))) = ((decimal_apart_p1 d (sgI d1 (atL (dl e1) k)) (atL (dl e2) k) d2).bind fun o16 => (Sum.elim (fun (o16_0 : Int) =>
        some (.inr (.inl o16_0))) (fun (o16_1 : Int) =>
        some (.inl (o16_1, ((k : Int) - (1 : Int)))))) o16) := by
      have e : ∀ z : Int, (gd (InI64 ((k : Int) - (1 : Int))) (some (Sum.inl (z, ((k : Int) - (1 : Int))))) : Option ((Int × Int) ⊕ (Int ⊕ Int))) = some (Sum.inl (z, ((k : Int) - (1 : Int)))) := fun z => gd_pos (by unfold InI64; omega) _
      simp only [e]
      cases d1 with
      | true =>
        simp only [cond_true]
        refine (gd_pos (by unfold InI64; omega) _).trans ?_
        have : sgI true (atL (dl e1) k) = 0 - atL (dl e1) k := by simp [sgI]
        rw [this]
      | false => rfl
    rw [key, p_apart1 d _ _ d2 ⟨hd1, hd2⟩ a' b, ← hD]
    simp only [apPs]
    by_cases hc : 72057594037927936 < 10 * d + difL d1 (dl e1) d2 (dl e2) k ∨ 10 * d + difL d1 (dl e1) d2 (dl e2) k < -72057594037927936
    · right
      rw [if_pos hc, if_pos hc]
      rfl
    · left
      rw [if_neg hc, if_neg hc]
      refine ⟨(10 * d + difL d1 (dl e1) d2 (dl e2) k, (k : Int) - 1), rfl, ⟨k, rfl, by omega, by simp only; omega, by simp only; omega⟩, by simp only; omega, ?_⟩
      simp only
      rw [show Int.toNat ((k : Int) - 1 + 1) = k by omega]
theorem p_apart (a b : decimal_number) (h1 : a.exp_.size < 4000000000000000) (h2 : b.exp_.size < 4000000000000000) : decimal_apart_s a b = some (apP (difL a.down (dl a.exp_) b.down (dl b.exp_)) 0 (max a.exp_.size b.exp_.size)) := by
  unfold decimal_apart_s
  have e : (if (b.exp_.size : Int) > (a.exp_.size : Int) then (b.exp_.size : Int) else (a.exp_.size : Int)) = ((max a.exp_.size b.exp_.size : Nat) : Int) := by split <;> omega
  rw [e]
  refine (gd_pos (by unfold InI64; omega) _).trans ?_
  rw [p_apart0 _ _ _ _ h1 h2 _ (by omega), Option.bind_some, ← apPs_eq]
  cases apPs (difL a.down (dl a.exp_) b.down (dl b.exp_)) 0 (max a.exp_.size b.exp_.size) <;> rfl

/-- The document's sum. -/
def apRs (D : Nat → Int) (e : Int) : Nat → Int ⊕ Int
  | 0 => .inr e
  | k + 1 => if 1000000000000000 < 10 * e + D k then .inl 1000000000000000 else if 10 * e + D k < -1000000000000000 then .inl (-1000000000000000) else apRs D (10 * e + D k) k
end Go.Proofs.YtdibapfehdhfjaaDoor
