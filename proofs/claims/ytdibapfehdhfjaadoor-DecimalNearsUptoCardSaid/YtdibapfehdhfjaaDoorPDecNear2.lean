/-
  The nearest float32 by halving, as the document has it; DecimalNears. No program.
-/
import Derived.Test.YtdibapfehdhfjaaDoorPDecNear
namespace Go.Proofs.YtdibapfehdhfjaaDoor
open Go.Eng
set_option linter.unusedVariables false
set_option linter.unusedSimpArgs false

def keyR (n : signetref2_Num) : DKey := ⟨n.digits, sgI n.down (powE n.exp_) + n.off⟩
theorem p_SizeG (n m : signetref2_Num) (ln : LowL n.exp_) (lm : LowL m.exp_) (h1 : n.exp_.length < 4000000000) (h2 : m.exp_.length < 4000000000) (o1 : -4000000000 ≤ n.off ∧ n.off ≤ 4000000000) (o2 : -4000000000 ≤ m.off ∧ m.off ≤ 4000000000) (d1 : n.digits.length < 4000000000) (d2 : m.digits.length < 4000000000) :
    signetref2_Size_s n m = some (cmpK (keyR n) (keyR m)) := by
  have z0 : ∀ l : List Int, (l.length : Int) = 0 ↔ l = [] := fun l => by
    constructor
    · intro h; exact List.eq_nil_of_length_eq_zero (by omega)
    · intro h; rw [h]; rfl
  unfold signetref2_Size_s cmpK
  rw [show (keyR n).ds = n.digits from rfl, show (keyR m).ds = m.digits from rfl]
  by_cases e1 : n.digits = []
  · rw [if_pos e1, decide_eq_true ((z0 _).2 e1), Bool.true_and]
    by_cases e2 : m.digits = []
    · rw [if_pos e2, decide_eq_true ((z0 _).2 e2), cond_true]
    · rw [if_neg e2, decide_eq_false (fun h => e2 ((z0 _).1 h)), cond_false, cond_true]
  · rw [if_neg e1, decide_eq_false (fun h => e1 ((z0 _).1 h)), Bool.false_and, cond_false, cond_false]
    by_cases e2 : m.digits = []
    · rw [if_pos e2, decide_eq_true ((z0 _).2 e2), cond_true]
    · rw [if_neg e2, decide_eq_false (fun h => e2 ((z0 _).1 h)), cond_false]
      rw [p_Apart _ _ ln lm h1 h2 o1 o2, Option.bind_some]
      have hlo := difL_low (d1 := n.down) (d2 := m.down) ln lm
      have hs := apR_sgn hlo (n.off - m.off) (by omega) (max n.exp_.length m.exp_.length) 0
      rw [ap_difL _ _ _ _ _ (by omega) (by omega)] at hs
      have hp : sgI n.down (powE n.exp_) - sgI m.down (powE m.exp_) + (n.off - m.off) = (keyR n).pow - (keyR m).pow := by
        show _ = sgI n.down (powE n.exp_) + n.off - (sgI m.down (powE m.exp_) + m.off)
        omega
      rw [hp] at hs
      generalize apR (difL n.down n.exp_ m.down m.exp_) (n.off - m.off) 0 (max n.exp_.length m.exp_.length) = z at hs
      by_cases h3 : (keyR n).pow = (keyR m).pow
      · rw [if_pos h3]
        rw [show (keyR n).pow - (keyR m).pow = 0 by omega] at hs
        have hz : z = 0 := sgn_zero.1 hs
        subst hz
        simp only [Int.lt_irrefl, decide_false, cond_false]
        rw [p_Size0 _ _ (by omega) (by omega), Option.bind_some]
        split
        · rename_i h
          rw [h]
          rfl
        · rfl
      · rw [if_neg h3, ← hs]
        have hz : z ≠ 0 := fun h => h3 (by
          have := sgn_zero.1 (show sgn ((keyR n).pow - (keyR m).pow) = 0 by rw [← hs, h]; rfl)
          omega)
        unfold sgn
        by_cases c1 : z < 0
        · simp [c1]
        · have c2 : 0 < z := by omega
          simp [c1, c2]
theorem keyR_text {s : ByteArray} (h : readOk s = true) : keyR (rnum (readS s)) = keyS s := by
  have e := ref_exp h
  have hd := ref_digits s
  have ho := ref_off s
  unfold keyR keyS rnum
  simp only [hd, ho, e]
  congr 2
  by_cases hx : (progS s).exp = ⟨#[]⟩
  · rw [hx, show powE (dl (⟨#[]⟩ : ByteArray)) = 0 from rfl, sgI_zero, sgI_zero]
  · have : (progS s).down = (readS s).down := by
      show (expS s && decide (bAt s (atC s + 1) = 45) && !decide (trimL (expT s) 48 = ⟨#[]⟩)) = (expS s && decide (bAt s (atC s + 1) = 45))
      have he : (progS s).exp = if expS s = true then trimL (expT s) 48 else ⟨#[]⟩ := rfl
      rw [he] at hx
      cases hc : expS s with
      | false => rfl
      | true =>
        rw [hc, if_pos rfl] at hx
        simp [hx]
    rw [this]
theorem keyR_mid (b : Nat) : keyR (twiceN (2 * partF b + 1) (partX b - 1)) = midK b := by
  show (⟨dsM _ _, sgI false (powE []) + offM _ _⟩ : DKey) = kN _ _
  unfold kN dsM offM
  rw [show powE [] = 0 from rfl, sgI_zero]
  congr 1
  omega
theorem nearT_up {a : DKey} (na : Norm a) {b c : Nat} (h : b < c) (hc : c < 2147483647) (hb : nearT a b) : nearT a c := by
  refine .inl ((mid_up na h hc).1 ?_)
  rcases hb with h | h <;> omega
section
variable (s : ByteArray) (hsz : s.size < 1000000000) (hr : readOk s = true)
include hsz hr
theorem p_Size_mid (b : Nat) : signetref2_Size_s (rnum (readS s)) (twiceN (2 * partF b + 1) (partX b - 1)) = some (cmpK (keyS s) (midK b)) := by
  obtain ⟨h1, h2, h3⟩ := part_range b
  obtain ⟨x1, y1, o1, o1'⟩ := prog_sizes s
  have ea := ref_exp hr
  have da := ref_digits s
  have hM := M2_len (2 * partF b + 1) (partX b - 1) (by omega) (by omega)
  rw [← keyR_text hr, ← keyR_mid]
  refine p_SizeG _ _ ?_ ?_ ?_ ?_ ?_ ?_ ?_ ?_
  · show LowL (readS s).exp
    rw [ea]; exact low_dl _
  · intro i; exact ⟨Int.le_refl 0, by show (0 : Int) ≤ 255; decide⟩
  · show (readS s).exp.length < _
    rw [ea, dl_length]; omega
  · show 0 < _
    decide
  · show _ ≤ (readS s).off ∧ (readS s).off ≤ _
    rw [ref_off]; omega
  · show _ ≤ offM _ _ ∧ offM _ _ ≤ _
    unfold offM behindN
    omega
  · show (readS s).digits.length < _
    rw [da, dl_length]; omega
  · show (dsM _ _).length < _
    have : ∀ l : List Int, (trail l).length ≤ l.length := fun l => by
      induction l with
      | nil => exact Nat.le_refl _
      | cons x l ih =>
        simp only [trail]
        split
        · split <;> simp
        · rename_i y r h
          rw [h] at ih
          simp only [List.length_cons] at ih ⊢
          omega
    have h := this (dg (M2 (2 * partF b + 1) (partX b - 1))).reverse
    rw [List.length_reverse] at h
    unfold dsM
    omega
theorem p_RefNear0 {N : Nat} (hN : IsNear (keyS s) N) : signetref2_Nearest_p0 0 2139095040 (rnum (readS s)).minus (rnum (readS s)).off (rnum (readS s)).down (rnum (readS s)).plain (rnum (readS s)).text (rnum (readS s)).digits (rnum (readS s)).exp_ = some (N : Int) := by
  have na := norm_key s
  unfold signetref2_Nearest_p0
  refine whileO_rule (fun x : Int × Int => ∃ lo hi : Nat, x = ((lo : Int), (hi : Int)) ∧ lo ≤ hi ∧ hi ≤ 2139095040 ∧ (∀ c, c < lo → ¬ nearT (keyS s) c) ∧ (hi < 2139095040 → nearT (keyS s) hi)) (fun x => (x.2 - x.1).toNat) (fun _ => (N : Int)) ?_ ⟨0, 2139095040, rfl, by omega, by omega, fun c hc => by omega, fun h => by omega⟩
  rintro x ⟨lo, hi, rfl, h1, h2, h3, h4⟩
  unfold signetref2_Nearest_p0_step
  simp only
  by_cases h : lo < hi
  · left
    obtain ⟨mid, hmid⟩ : ∃ mid : Nat, mid = lo + (hi - lo) / 2 := ⟨_, rfl⟩
    have e1 : ((hi : Int) - lo) % 4294967296 = ((hi - lo : Nat) : Int) := by omega
    have e2 : ((lo : Int) + ((hi - lo : Nat) : Int) / 2) % 4294967296 = (mid : Int) := by omega
    rw [decide_eq_true (by omega), cond_true, e1, gd_pos (by omega), e2, p_Middle (by omega), Option.bind_some, gd_pos trivial]
    rw [show (⟨(rnum (readS s)).minus, (rnum (readS s)).digits, (rnum (readS s)).off, (rnum (readS s)).down, (rnum (readS s)).exp_, (rnum (readS s)).plain, (rnum (readS s)).text⟩ : signetref2_Num) = rnum (readS s) from rfl, p_Size_mid s hsz hr mid, Option.bind_some, gd_pos (fun _ _ => by omega)]
    by_cases hT : nearT (keyS s) mid
    · have hc : (decide (cmpK (keyS s) (midK mid) < 0) || decide (cmpK (keyS s) (midK mid) = 0) && decide ((mid : Int) % 2 = 0)) = true := by
        rw [Bool.or_eq_true, Bool.and_eq_true, decide_eq_true_eq, decide_eq_true_eq, decide_eq_true_eq]
        rcases hT with h | h
        · exact .inl h
        · exact .inr ⟨h.1, by omega⟩
      rw [hc, cond_true]
      exact ⟨_, rfl, ⟨lo, mid, rfl, by omega, by omega, h3, fun _ => hT⟩, by simp only; omega, trivial⟩
    · have hc : (decide (cmpK (keyS s) (midK mid) < 0) || decide (cmpK (keyS s) (midK mid) = 0) && decide ((mid : Int) % 2 = 0)) = false := by
        rw [Bool.or_eq_false_iff, Bool.and_eq_false_iff, decide_eq_false_iff_not, decide_eq_false_iff_not, decide_eq_false_iff_not]
        refine ⟨fun h => hT (.inl h), ?_⟩
        by_cases h5 : mid % 2 = 0
        · left; exact fun h => hT (.inr ⟨h, h5⟩)
        · right; omega
      rw [hc, cond_false, show ((mid : Int) + 1) % 4294967296 = ((mid + 1 : Nat) : Int) by omega]
      refine ⟨_, rfl, ⟨mid + 1, hi, rfl, by omega, h2, fun c hc => ?_, h4⟩, by simp only; omega, trivial⟩
      rcases Nat.lt_or_ge c mid with h6 | h6
      · exact fun hcT => hT (nearT_up na h6 (by omega) hcT)
      · have : c = mid := by omega
        rw [this]; exact hT
  · right
    have he : lo = hi := by omega
    subst he
    rw [decide_eq_false (by omega), cond_false, hN.unique ⟨h2, h4, h3⟩]
end
theorem p_RefNearest (s : ByteArray) (hsz : s.size < 1000000000) {N : Nat} (hN : IsNear (keyS s) N) : signetref2_Nearest_s s = some (if readOk s = true then (minusS s + N, 0) else (0, 30)) := by
  unfold signetref2_Nearest_s
  rw [p_Read s hsz, Option.bind_some]
  cases hr : readOk s with
  | false => rfl
  | true =>
    rw [readAll_ok hr]
    dsimp only
    rw [p_RefNear0 s hsz hr hN, Option.bind_some, Bool.not_true, cond_false, if_pos rfl]
    have hm : (rnum (readS s)).minus = decide (bAt s 0 = 45) := rfl
    have hl := hN.le
    rw [hm]
    unfold minusS
    by_cases h : bAt s 0 = 45
    · rw [decide_eq_true h, cond_true, if_pos h, show ((N : Int) + 2147483648) % 4294967296 = 2147483648 + N by omega]
    · rw [decide_eq_false h, cond_false, if_neg h, Int.zero_add]
theorem decimalNears_plain (s : ByteArray) (hsz : s.size < 1000000000) : signetlaw2_DecimalNears_s s = some true := by
  obtain ⟨N, hN⟩ := near_ex (norm_key s)
  unfold signetlaw2_DecimalNears_s
  rw [p_Nearest s hsz hN, Option.bind_some, p_RefNearest s hsz hN, Option.bind_some]
  simp
end Go.Proofs.YtdibapfehdhfjaaDoor
