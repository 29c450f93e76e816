/-
  The nearest float32: the program's seeking and the document's. No program.
-/
import Derived.Test.YtdibapfehdhfjaaDoorDecNear
import Derived.Test.YtdibapfehdhfjaaDoorGE
namespace Go.Proofs.YtdibapfehdhfjaaDoor
open Go.Eng
set_option linter.unusedVariables false
set_option linter.unusedSimpArgs false

def midT (b : Nat) : ByteArray := decT (2 * partF b + 1) (partX b - 1)
theorem mid_M2 (b : Nat) : M2 (2 * partF b + 1) (partX b - 1) ≠ 0 := fun h => mid_ne b (kN_nil.2 h)
theorem key_mid (b : Nat) : keyS (midT b) = midK b := decT_key (mid_M2 b)
theorem p_middle {b : Nat} (hb : b < 4294967296) : decimal_middle_s b = some (num (progS (midT b))) := by
  obtain ⟨h1, h2, h3⟩ := part_range b
  have nt := decT_nt (2 * partF b + 1) (partX b - 1)
  have hs := decT_size (2 * partF b + 1) (partX b - 1) (by omega) (by omega)
  unfold decimal_middle_s
  rw [p_parts hb, Option.bind_some]
  dsimp only
  refine (gd_pos (by unfold InI64; omega) _).trans ?_
  rw [show (2 * (partF b : Int) % 18446744073709551616 + 1) % 18446744073709551616 = ((2 * partF b + 1 : Nat) : Int) by omega, p_decimal _ _ (by omega) (by omega), Option.bind_some, p_readW _ (by omega) (nt_minus nt), Option.bind_some, progAll_ok (nt_ok nt)]
  rfl
theorem p_Middle {b : Nat} (hb : b < 4294967296) : signetref2_Middle_s b = some (twiceN (2 * partF b + 1) (partX b - 1)) := by
  obtain ⟨h1, h2, h3⟩ := part_range b
  unfold signetref2_Middle_s
  rw [p_Parts hb, Option.bind_some]
  dsimp only
  refine (gd_pos (by unfold InI64; omega) _).trans ?_
  refine (gd_pos (by unfold InI64; omega) _).trans ?_
  refine (gd_pos (by unfold InI64; omega) _).trans ?_
  rw [show 2 * (partF b : Int) + 1 = ((2 * partF b + 1 : Nat) : Int) by omega, p_Twice _ _ (by omega) (by omega), Option.bind_some]
/-- Down as long as the middle below is above. -/
def downB (a : DKey) : Nat → Nat
  | 0 => 0
  | b + 1 => if cmpK a (midK b) < 0 then downB a b else b + 1
def upK (a : DKey) : Nat → Nat
  | 0 => 2139095040
  | k + 1 => if 0 < cmpK a (midK (2139095040 - (k + 1))) then upK a k else 2139095040 - (k + 1)
theorem downB_spec (a : DKey) : ∀ n, downB a n ≤ n ∧ (downB a n = 0 ∨ 0 ≤ cmpK a (midK (downB a n - 1)))
  | 0 => ⟨Nat.le_refl _, .inl rfl⟩
  | n + 1 => by
    obtain ⟨h1, h2⟩ := downB_spec a n
    simp only [downB]
    split
    · exact ⟨by omega, h2⟩
    · refine ⟨Nat.le_refl _, .inr ?_⟩
      rw [Nat.add_sub_cancel]
      omega
theorem upK_spec (a : DKey) : ∀ k, k ≤ 2139095040 → 2139095040 - k ≤ upK a k ∧ upK a k ≤ 2139095040 ∧ (upK a k = 2139095040 ∨ cmpK a (midK (upK a k)) ≤ 0) ∧ (upK a k = 2139095040 - k ∨ 0 < cmpK a (midK (upK a k - 1)))
  | 0, _ => ⟨by simp [upK], by simp [upK], .inl (by simp [upK]), .inl (by simp [upK])⟩
  | k + 1, hk => by
    obtain ⟨h1, h2, h3, h4⟩ := upK_spec a k (by omega)
    simp only [upK]
    split
    · rename_i h
      refine ⟨by omega, h2, h3, .inr ?_⟩
      rcases h4 with h4 | h4
      · rw [h4, show 2139095040 - k - 1 = 2139095040 - (k + 1) by omega]
        exact h
      · exact h4
    · rename_i h
      exact ⟨Nat.le_refl _, by omega, .inr (by omega), .inl rfl⟩
theorem near_seek {a : DKey} (na : Norm a) (g : Nat) (hg : g ≤ 2139095040) : ∃ b, upK a (2139095040 - downB a g) = b ∧ b ≤ 2139095040 ∧ (b = 2139095040 ∨ cmpK a (midK b) ≤ 0) ∧ (b = 0 ∨ 0 ≤ cmpK a (midK (b - 1))) := by
  obtain ⟨h1, h2⟩ := downB_spec a g
  obtain ⟨h3, h4, h5, h6⟩ := upK_spec a (2139095040 - downB a g) (by omega)
  refine ⟨_, rfl, h4, h5, ?_⟩
  rcases h6 with h6 | h6
  · rw [h6, show 2139095040 - (2139095040 - downB a g) = downB a g by omega]
    exact h2
  · right; omega
theorem near_ex {a : DKey} (na : Norm a) : ∃ N, IsNear a N := by
  obtain ⟨b, _, h2, h3, h4⟩ := near_seek na 0 (by omega)
  exact ⟨_, near_of na h2 h3 h4⟩
theorem apP_low {D : Nat → Int} (hD : ∀ i, -510 ≤ D i ∧ D i ≤ 510) : ∀ (k : Nat) (e : Int), -72057594037927936 ≤ e ∧ e ≤ 72057594037927936 → -72057594037927936 ≤ apP D e k ∧ apP D e k ≤ 72057594037927936
  | 0, e, he => he
  | k + 1, e, he => by
    have ih := apP_low hD k
    simp only [apP]
    split
    · unfold clampS; split <;> first | omega | (split <;> omega)
    · exact ih _ (by omega)
theorem bitOr_out {out : Int} (h : out = 0 ∨ out = 2147483648) {N : Nat} (hN : N ≤ 2139095040) : bitOr .u32 out (N : Int) = out + N := by
  have h1 : (BitVec.ofInt 32 (N : Int)).toNat = N := by
    rw [BitVec.ofInt_natCast, BitVec.toNat_ofNat, Nat.mod_eq_of_lt (by omega)]
  unfold bitOr
  show IntKind.u32.wrap ((BitVec.ofInt 32 out ||| BitVec.ofInt 32 (N : Int)).toNat : Int) = _
  rw [BitVec.toNat_or, h1, u32_eq]
  rcases h with rfl | rfl
  · rw [show (BitVec.ofInt 32 0).toNat = 0 by decide, Nat.zero_or]
    omega
  · have h3 := Nat.two_pow_add_eq_or_of_lt (i := 31) (b := N) (by omega) 1
    rw [show (2 : Nat) ^ 31 * 1 = 2147483648 by decide] at h3
    rw [show (BitVec.ofInt 32 2147483648).toNat = 2147483648 by decide, ← h3]
    omega
theorem and1 {b : Nat} (hb : b < 4294967296) : bitAnd .u32 (b : Int) 1 = ((b % 2 : Nat) : Int) := by
  rw [show (1 : Int) = ((1 : Nat) : Int) from rfl, bitAnd_u32 hb (by omega)]
  congr 1
  exact Nat.and_two_pow_sub_one_eq_mod _ 1
theorem zero_nt : NumTxt (⟨#[48]⟩ : ByteArray) [0] [] := ⟨rfl, fun d hd => by simp at hd; omega, fun d hd => by simp at hd, by simp, .inr rfl⟩
section
variable (s : ByteArray) (hsz : s.size < 200000000000000)
include hsz
theorem p_size_mid (m : Bool) {b : Nat} : decimal_size_s ⟨m, (progS s).int, (progS s).digits, (progS s).off, (progS s).plain, (progS s).down, (progS s).exp⟩ (num (progS (midT b))) = some (cmpK (keyS s) (midK b)) := by
  obtain ⟨h1, h2, h3⟩ := part_range b
  have hs := decT_size (2 * partF b + 1) (partX b - 1) (by omega) (by omega)
  rw [← key_mid, ← sizeS_key]
  exact p_size s (midT b) hsz (by unfold midT; omega) m (progS (midT b)).minus
theorem p_near1 (m : Bool) : ∀ n : Nat, n ≤ 2139095040 → decimal_Nearest_p1 n m (progS s).int (progS s).digits (progS s).off (progS s).plain (progS s).down (progS s).exp = some ((downB (keyS s) n : Nat) : Int)
  | 0, _ => by
    unfold decimal_Nearest_p1
    refine whileO_inr ?_
    unfold decimal_Nearest_p1_step
    rw [show (((0 : Nat) : Int) - 1) % 4294967296 = ((4294967295 : Nat) : Int) by decide, p_middle (by omega), Option.bind_some, p_size_mid s hsz, Option.bind_some, decide_eq_false (by omega), Bool.false_and, cond_false]
    rfl
  | n + 1, hn => by
    have ih := p_near1 m n (by omega)
    have e : (((n + 1 : Nat) : Int) - 1) % 4294967296 = ((n : Nat) : Int) := by omega
    unfold decimal_Nearest_p1 at ih ⊢
    by_cases h : cmpK (keyS s) (midK n) < 0
    · rw [whileO_inl (y := ((n : Nat) : Int)) ?_, ih]
      · simp only [downB]; rw [if_pos h]
      · unfold decimal_Nearest_p1_step
        rw [e, p_middle (by omega), Option.bind_some, p_size_mid s hsz, Option.bind_some, decide_eq_true (by omega), decide_eq_true h]
        rfl
    · simp only [downB]
      rw [if_neg h]
      refine whileO_inr ?_
      unfold decimal_Nearest_p1_step
      rw [e, p_middle (by omega), Option.bind_some, p_size_mid s hsz, Option.bind_some, decide_eq_false h, Bool.and_false, cond_false]
theorem p_near2 (m : Bool) : ∀ k : Nat, k ≤ 2139095040 → decimal_Nearest_p2 ((2139095040 - k : Nat) : Int) m (progS s).int (progS s).digits (progS s).off (progS s).plain (progS s).down (progS s).exp = some ((upK (keyS s) k : Nat) : Int)
  | 0, _ => by
    unfold decimal_Nearest_p2
    refine whileO_inr ?_
    unfold decimal_Nearest_p2_step
    rw [p_middle (by omega), Option.bind_some, p_size_mid s hsz, Option.bind_some, decide_eq_false (by omega), Bool.false_and, cond_false]
    rfl
  | k + 1, hk => by
    have ih := p_near2 m k (by omega)
    have e : (((2139095040 - (k + 1) : Nat) : Int) + 1) % 4294967296 = ((2139095040 - k : Nat) : Int) := by omega
    unfold decimal_Nearest_p2 at ih ⊢
    by_cases h : 0 < cmpK (keyS s) (midK (2139095040 - (k + 1)))
    · rw [whileO_inl (y := ((2139095040 - k : Nat) : Int)) ?_, ih]
      · simp only [upK]; rw [if_pos h]
      · unfold decimal_Nearest_p2_step
        rw [p_middle (by omega), Option.bind_some, p_size_mid s hsz, Option.bind_some, e, decide_eq_true (by omega), decide_eq_true h]
        rfl
    · simp only [upK]
      rw [if_neg h]
      refine whileO_inr ?_
      unfold decimal_Nearest_p2_step
      rw [p_middle (by omega), Option.bind_some, p_size_mid s hsz, Option.bind_some, decide_eq_false h, Bool.and_false, cond_false]
theorem p_near0 (m : Bool) (out : Int) (hout : out = 0 ∨ out = 2147483648) {N : Nat} (hN : IsNear (keyS s) N) :
    decimal_Nearest_p0 out m (progS s).int (progS s).digits (progS s).off (progS s).plain (progS s).down (progS s).exp = some (out + N, 0) := by
  have na := norm_key s
  obtain ⟨x1, y1, o1, o1'⟩ := prog_sizes s
  have hz : (⟨#[48]⟩ : ByteArray).size = 1 := rfl
  have ze := nt_exp zero_nt
  unfold decimal_Nearest_p0
  rw [p_readW _ (by omega) (nt_minus zero_nt), Option.bind_some, progAll_ok (nt_ok zero_nt)]
  dsimp only
  rw [p_apart _ _ (by simp only; omega) (by show (progS _).exp.size < _; omega), Option.bind_some]
  dsimp only
  rw [show (num (progS (⟨#[48]⟩ : ByteArray))).exp_ = (progS (⟨#[48]⟩ : ByteArray)).exp from rfl, show (num (progS (⟨#[48]⟩ : ByteArray))).down = (progS (⟨#[48]⟩ : ByteArray)).down from rfl]
  have hlo := difL_low (d1 := (progS s).down) (d2 := (progS (⟨#[48]⟩ : ByteArray)).down) (low_dl (progS s).exp) (low_dl (progS (⟨#[48]⟩ : ByteArray)).exp)
  have hr := apP_low hlo (max (progS s).exp.size (progS (⟨#[48]⟩ : ByteArray)).exp.size) 0 (by omega)
  have hap : ap (difL (progS s).down (dl (progS s).exp) (progS (⟨#[48]⟩ : ByteArray)).down (dl (progS (⟨#[48]⟩ : ByteArray)).exp)) 0 (max (progS s).exp.size (progS (⟨#[48]⟩ : ByteArray)).exp.size) + (progS s).off = (keyS s).pow := by
    rw [ap_difL _ _ _ _ _ (by rw [dl_length]; omega) (by rw [dl_length]; omega)]
    have e0 : dl (progS (⟨#[48]⟩ : ByteArray)).exp = [] := by rw [dl_nil]; exact ze
    rw [e0, show powE [] = 0 from rfl, sgI_zero]
    show _ = sgI (progS s).down (powE (dl (progS s).exp)) + (progS s).off
    omega
  have s1 := apP_sgn hlo ((progS s).off + 60) (by omega) (max (progS s).exp.size (progS (⟨#[48]⟩ : ByteArray)).exp.size) 0
  have s2 := apP_sgn hlo ((progS s).off - 60) (by omega) (max (progS s).exp.size (progS (⟨#[48]⟩ : ByteArray)).exp.size) 0
  generalize ap (difL (progS s).down (dl (progS s).exp) (progS (⟨#[48]⟩ : ByteArray)).down (dl (progS (⟨#[48]⟩ : ByteArray)).exp)) 0 (max (progS s).exp.size (progS (⟨#[48]⟩ : ByteArray)).exp.size) = q at *
  generalize apP (difL (progS s).down (dl (progS s).exp) (progS (⟨#[48]⟩ : ByteArray)).down (dl (progS (⟨#[48]⟩ : ByteArray)).exp)) 0 (max (progS s).exp.size (progS (⟨#[48]⟩ : ByteArray)).exp.size) = p at *
  have c1 : (progS s).off + p < -60 ↔ (keyS s).pow < -60 := by
    have h1 : p + ((progS s).off + 60) < 0 ↔ q + ((progS s).off + 60) < 0 := by rw [← sgn_ltz, s1, sgn_ltz]
    omega
  have c2 : 60 < (progS s).off + p ↔ 60 < (keyS s).pow := by
    have h1 : p + ((progS s).off - 60) ≤ 0 ↔ q + ((progS s).off - 60) ≤ 0 := by rw [← sgn_lez, s2, sgn_lez]
    omega
  refine (gd_pos (by unfold InI64; omega) _).trans ?_
  have hds : (keyS s).ds = [] ↔ (progS s).digits = (⟨#[]⟩ : ByteArray) := by rw [keyS_ds, dl_nil, eq_none]
  by_cases hlow : (keyS s).ds = [] ∨ (keyS s).pow < -60
  · have hc : (decide ((progS s).digits = (⟨#[]⟩ : ByteArray)) || decide ((progS s).off + p < -60)) = true := by
      rw [Bool.or_eq_true, decide_eq_true_eq, decide_eq_true_eq]
      rcases hlow with h | h
      · exact .inl (hds.1 h)
      · exact .inr (c1.2 h)
    rw [hc, cond_true, hN.unique (near_low na hlow)]
    simp
  · have hc : (decide ((progS s).digits = (⟨#[]⟩ : ByteArray)) || decide ((progS s).off + p < -60)) = false := by
      rw [Bool.or_eq_false_iff, decide_eq_false_iff_not, decide_eq_false_iff_not]
      exact ⟨fun h => hlow (.inl (hds.2 h)), fun h => hlow (.inr (c1.1 h))⟩
    rw [hc, cond_false]
    have h0 : (keyS s).ds ≠ [] := fun h => hlow (.inl h)
    by_cases hhigh : 60 < (keyS s).pow
    · rw [decide_eq_true (c2.2 hhigh), cond_true, hN.unique (near_high na h0 hhigh)]
      have := bitOr_out hout (N := 2139095040) (by omega)
      rw [show ((2139095040 : Nat) : Int) = 2139095040 from rfl] at this ⊢
      rw [this]
    · rw [decide_eq_false (fun h => hhigh (c2.1 h)), cond_false]
      refine demon_intro guessP_ne fun g hg => ?_
      unfold guessP at hg
      obtain ⟨G, rfl⟩ := Int.eq_ofNat_of_zero_le hg.1
      obtain ⟨b, hb, h1, h2, h3⟩ := near_seek na G (by omega)
      have hG := (downB_spec (keyS s) G).1
      rw [p_near1 s hsz m G (by omega), Option.bind_some]
      have h22 := p_near2 s hsz m (2139095040 - downB (keyS s) G) (by omega)
      rw [show 2139095040 - (2139095040 - downB (keyS s) G) = downB (keyS s) G by omega, hb] at h22
      rw [h22, Option.bind_some]
      have hnear := hN.unique (near_of na h1 h2 h3)
      rw [hnear, and1 (by omega)]
      by_cases hb0 : b = 0
      · subst hb0
        rw [show (((0 : Nat) : Int) - 1) % 4294967296 = ((4294967295 : Nat) : Int) by decide, p_middle (by omega), Option.bind_some, p_size_mid s hsz, Option.bind_some, decide_eq_false (by omega), Bool.false_and, Bool.false_and, cond_false, p_middle (by omega), Option.bind_some, p_size_mid s hsz, Option.bind_some]
        rw [decide_eq_false (show ¬ ((0 % 2 : Nat) : Int) = 1 by decide), Bool.and_false, Bool.false_and, cond_false, if_neg (by omega), if_neg (by omega), bitOr_out hout (by omega)]
      · rw [show ((b : Int) - 1) % 4294967296 = ((b - 1 : Nat) : Int) by omega, p_middle (by omega), Option.bind_some, p_size_mid s hsz, Option.bind_some, decide_eq_true (by omega), Bool.true_and]
        by_cases hA : b % 2 = 1 ∧ cmpK (keyS s) (midK (b - 1)) = 0
        · rw [decide_eq_true (show ((b % 2 : Nat) : Int) = 1 by omega), decide_eq_true hA.2, Bool.and_true, cond_true, if_pos ⟨by omega, hA.1, hA.2⟩, bitOr_out hout (by omega)]
        · have hcA : (decide (((b % 2 : Nat) : Int) = 1) && decide (cmpK (keyS s) (midK (b - 1)) = 0)) = false := by
            rw [Bool.and_eq_false_iff, decide_eq_false_iff_not, decide_eq_false_iff_not]
            by_cases h5 : b % 2 = 1
            · right; exact fun h => hA ⟨h5, h⟩
            · left; omega
          rw [hcA, cond_false, if_neg (fun h => hA h.2), p_middle (by omega), Option.bind_some, p_size_mid s hsz, Option.bind_some]
          by_cases hB : b < 2139095040 ∧ b % 2 = 1 ∧ cmpK (keyS s) (midK b) = 0
          · rw [decide_eq_true (show (b : Int) < 2139095040 by omega), decide_eq_true (show ((b % 2 : Nat) : Int) = 1 by omega), decide_eq_true hB.2.2, Bool.and_true, Bool.and_true, cond_true, if_pos hB, show ((b : Int) + 1) % 4294967296 = ((b + 1 : Nat) : Int) by omega, bitOr_out hout (by omega)]
          · have hcB : (decide ((b : Int) < 2139095040) && decide (((b % 2 : Nat) : Int) = 1) && decide (cmpK (keyS s) (midK b) = 0)) = false := by
              rw [Bool.and_eq_false_iff, Bool.and_eq_false_iff, decide_eq_false_iff_not, decide_eq_false_iff_not, decide_eq_false_iff_not]
              by_cases h5 : b < 2139095040
              · by_cases h6 : b % 2 = 1
                · right; exact fun h => hB ⟨h5, h6, h⟩
                · left; right; omega
              · left; left; omega
            rw [hcB, cond_false, if_neg hB, bitOr_out hout (by omega)]
/-- The minus of a text, as a bit. -/
def minusS (s : ByteArray) : Int := if bAt s 0 = 45 then 2147483648 else 0
theorem p_Nearest {N : Nat} (hN : IsNear (keyS s) N) : decimal_Nearest_s s = some (if readOk s = true then (minusS s + N, 0) else (0, 30)) := by
  unfold decimal_Nearest_s
  rw [p_read s (by omega), Option.bind_some]
  cases hr : readOk s with
  | false => rfl
  | true =>
    rw [progAll_ok hr]
    simp only [Bool.not_true, cond_false, if_true]
    show (bif (progS s).minus then _ else _) = _
    have hm : (progS s).minus = decide (bAt s 0 = 45) := rfl
    unfold minusS
    by_cases h : bAt s 0 = 45
    · rw [hm, decide_eq_true h, cond_true, if_pos h]
      have := p_near0 s hsz true 2147483648 (.inr rfl) hN
      show ((decimal_Nearest_p0 2147483648 (progS s).minus (progS s).int (progS s).digits (progS s).off (progS s).plain (progS s).down (progS s).exp).bind fun o33 => some (o33.1, o33.2)) = _
      rw [hm, decide_eq_true h, this, Option.bind_some]
    · rw [hm, decide_eq_false h, cond_false, if_neg h]
      have := p_near0 s hsz false 0 (.inl rfl) hN
      show ((decimal_Nearest_p0 0 (progS s).minus (progS s).int (progS s).digits (progS s).off (progS s).plain (progS s).down (progS s).exp).bind fun o33 => some (o33.1, o33.2)) = _
      rw [hm, decide_eq_false h, this, Option.bind_some]
end
end Go.Proofs.YtdibapfehdhfjaaDoor
