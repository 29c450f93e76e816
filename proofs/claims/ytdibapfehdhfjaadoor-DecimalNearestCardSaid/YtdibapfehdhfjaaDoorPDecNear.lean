/-
  The nearest float32: the program's seeking and the document's. No program.
-/
import Derived.Test.YtdibapfehdhfjaaDoorPDecSays
import Derived.Test.YtdibapfehdhfjaaDoorGE
namespace Go.Proofs.YtdibapfehdhfjaaDoor
open Go.Eng
set_option linter.unusedVariables false
set_option linter.unusedSimpArgs false

def midT (b : Nat) : ByteArray := decT (2 * partF b + 1) (partX b - 1)
theorem mid_M2 (b : Nat) : M2 (2 * partF b + 1) (partX b - 1) ≠ 0 := fun h => mid_ne b (kN_nil.2 h)
theorem key_mid (b : Nat) : keyS (midT b) = midK b := decT_key (mid_M2 b)
theorem p_middle {b : Nat} (hb : b < 4294967296) : decimal_middle_s b = some (num (progS (midT b))) := by
  obtain ⟨h1, h2, h3⟩ := part_range b
  have nt := decT_nt (2 * partF b + 1) (partX b - 1)
  have hs := decT_size (2 * partF b + 1) (partX b - 1) (by omega) (by omega)
  unfold decimal_middle_s
  rw [p_parts hb, Option.bind_some]
  dsimp only
  refine (gd_pos (by unfold InI64; omega) _).trans ?_
  rw [show (2 * (partF b : Int) % 18446744073709551616 + 1) % 18446744073709551616 = ((2 * partF b + 1 : Nat) : Int) by omega, p_decimal _ _ (by omega) (by omega), Option.bind_some, p_readW _ (by omega) (nt_minus nt), Option.bind_some, progAll_ok (nt_ok nt)]
  rfl
/-- Down as long as the middle below is above. -/
def downB (a : DKey) : Nat → Nat
  | 0 => 0
  | b + 1 => if cmpK a (midK b) < 0 then downB a b else b + 1
def upK (a : DKey) : Nat → Nat
  | 0 => 2139095040
  | k + 1 => if 0 < cmpK a (midK (2139095040 - (k + 1))) then upK a k else 2139095040 - (k + 1)
theorem downB_spec (a : DKey) : ∀ n, downB a n ≤ n ∧ (downB a n = 0 ∨ 0 ≤ cmpK a (midK (downB a n - 1)))
  | 0 => ⟨Nat.le_refl _, .inl rfl⟩
  | n + 1 => by
    obtain ⟨h1, h2⟩ := downB_spec a n
    simp only [downB]
    split
    · exact ⟨by omega, h2⟩
    · refine ⟨Nat.le_refl _, .inr ?_⟩
      rw [Nat.add_sub_cancel]
      omega
theorem upK_spec (a : DKey) : ∀ k, k ≤ 2139095040 → 2139095040 - k ≤ upK a k ∧ upK a k ≤ 2139095040 ∧ (upK a k = 2139095040 ∨ cmpK a (midK (upK a k)) ≤ 0) ∧ (upK a k = 2139095040 - k ∨ 0 < cmpK a (midK (upK a k - 1)))
  | 0, _ => ⟨by simp [upK], by simp [upK], .inl (by simp [upK]), .inl (by simp [upK])⟩
  | k + 1, hk => by
    obtain ⟨h1, h2, h3, h4⟩ := upK_spec a k (by omega)
    simp only [upK]
    split
    · rename_i h
      refine ⟨by omega, h2, h3, .inr ?_⟩
      rcases h4 with h4 | h4
      · rw [h4, show 2139095040 - k - 1 = 2139095040 - (k + 1) by omega]
        exact h
      · exact h4
    · rename_i h
      exact ⟨Nat.le_refl _, by omega, .inr (by omega), .inl rfl⟩
theorem near_seek {a : DKey} (na : Norm a) (g : Nat) (hg : g ≤ 2139095040) : ∃ b, upK a (2139095040 - downB a g) = b ∧ b ≤ 2139095040 ∧ (b = 2139095040 ∨ cmpK a (midK b) ≤ 0) ∧ (b = 0 ∨ 0 ≤ cmpK a (midK (b - 1))) := by
  obtain ⟨h1, h2⟩ := downB_spec a g
  obtain ⟨h3, h4, h5, h6⟩ := upK_spec a (2139095040 - downB a g) (by omega)
  refine ⟨_, rfl, h4, h5, ?_⟩
  rcases h6 with h6 | h6
  · rw [h6, show 2139095040 - (2139095040 - downB a g) = downB a g by omega]
    exact h2
  · right; omega
theorem near_ex {a : DKey} (na : Norm a) : ∃ N, IsNear a N := by
  obtain ⟨b, _, h2, h3, h4⟩ := near_seek na 0 (by omega)
  exact ⟨_, near_of na h2 h3 h4⟩
theorem apP_low {D : Nat → Int} (hD : ∀ i, -510 ≤ D i ∧ D i ≤ 510) : ∀ (k : Nat) (e : Int), -72057594037927936 ≤ e ∧ e ≤ 72057594037927936 → -72057594037927936 ≤ apP D e k ∧ apP D e k ≤ 72057594037927936
  | 0, e, he => he
  | k + 1, e, he => by
    have ih := apP_low hD k
    simp only [apP]
    split
    · unfold clampS; split <;> first | omega | (split <;> omega)
    · exact ih _ (by omega)
theorem bitOr_out {out : Int} (h : out = 0 ∨ out = 2147483648) {N : Nat} (hN : N ≤ 2139095040) : bitOr .u32 out (N : Int) = out + N := by
  have h1 : (BitVec.ofInt 32 (N : Int)).toNat = N := by
    rw [BitVec.ofInt_natCast, BitVec.toNat_ofNat, Nat.mod_eq_of_lt (by omega)]
  unfold bitOr
  show IntKind.u32.wrap ((BitVec.ofInt 32 out ||| BitVec.ofInt 32 (N : Int)).toNat : Int) = _
  rw [BitVec.toNat_or, h1, u32_eq]
  rcases h with rfl | rfl
  · rw [show (BitVec.ofInt 32 0).toNat = 0 by decide, Nat.zero_or]
    omega
  · have h3 := Nat.two_pow_add_eq_or_of_lt (i := 31) (b := N) (by omega) 1
    rw [show (2 : Nat) ^ 31 * 1 = 2147483648 by decide] at h3
    rw [show (BitVec.ofInt 32 2147483648).toNat = 2147483648 by decide, ← h3]
    omega
theorem and1 {b : Nat} (hb : b < 4294967296) : bitAnd .u32 (b : Int) 1 = ((b % 2 : Nat) : Int) := by
  rw [show (1 : Int) = ((1 : Nat) : Int) from rfl, bitAnd_u32 hb (by omega)]
  congr 1
  exact Nat.and_two_pow_sub_one_eq_mod _ 1
theorem zero_nt : NumTxt (⟨#[48]⟩ : ByteArray) [0] [] := ⟨rfl, fun d hd => by simp at hd; omega, fun d hd => by simp at hd, by simp, .inr rfl⟩
section
variable (s : ByteArray) (hsz : s.size < 200000000000000)
include hsz
theorem p_size_mid (m : Bool) {b : Nat} : decimal_size_s ⟨m, (progS s).int, (progS s).digits, (progS s).off, (progS s).plain, (progS s).down, (progS s).exp⟩ (num (progS (midT b))) = some (cmpK (keyS s) (midK b)) := by
  obtain ⟨h1, h2, h3⟩ := part_range b
  have hs := decT_size (2 * partF b + 1) (partX b - 1) (by omega) (by omega)
  rw [← key_mid, ← sizeS_key]
  exact p_size s (midT b) hsz (by unfold midT; omega) m (progS (midT b)).minus
theorem p_near1 (m : Bool) : ∀ n : Nat, n ≤ 2139095040 → decimal_Nearest_p1 n m (progS s).int (progS s).digits (progS s).off (progS s).plain (progS s).down (progS s).exp = some ((downB (keyS s) n : Nat) : Int)
  | 0, _ => by
    unfold decimal_Nearest_p1
    refine whileO_inr ?_
    unfold decimal_Nearest_p1_step
    rw [show (((0 : Nat) : Int) - 1) % 4294967296 = ((4294967295 : Nat) : Int) by decide, p_middle (by omega), Option.bind_some, p_size_mid s hsz, Option.bind_some, decide_eq_false (by omega), Bool.false_and, cond_false]
    rfl
  | n + 1, hn => by
    have ih := p_near1 m n (by omega)
    have e : (((n + 1 : Nat) : Int) - 1) % 4294967296 = ((n : Nat) : Int) := by omega
    unfold decimal_Nearest_p1 at ih ⊢
    by_cases h : cmpK (keyS s) (midK n) < 0
    · rw [whileO_inl (y := ((n : Nat) : Int)) ?_, ih]
      · simp only [downB]; rw [if_pos h]
      · unfold decimal_Nearest_p1_step
        rw [e, p_middle (by omega), Option.bind_some, p_size_mid s hsz, Option.bind_some, decide_eq_true (by omega), decide_eq_true h]
        rfl
    · simp only [downB]
      rw [if_neg h]
      refine whileO_inr ?_
      unfold decimal_Nearest_p1_step
      rw [e, p_middle (by omega), Option.bind_some, p_size_mid s hsz, Option.bind_some, decide_eq_false h, Bool.and_false, cond_false]
theorem p_near2 (m : Bool) : ∀ k : Nat, k ≤ 2139095040 → decimal_Nearest_p2 ((2139095040 - k : Nat) : Int) m (progS s).int (progS s).digits (progS s).off (progS s).plain (progS s).down (progS s).exp = some ((upK (keyS s) k : Nat) : Int)
  | 0, _ => by
    unfold decimal_Nearest_p2
    refine whileO_inr ?_
    unfold decimal_Nearest_p2_step
    rw [p_middle (by omega), Option.bind_some, p_size_mid s hsz, Option.bind_some, decide_eq_false (by omega), Bool.false_and, cond_false]
    rfl
  | k + 1, hk => by
    have ih := p_near2 m k (by omega)
    have e : (((2139095040 - (k + 1) : Nat) : Int) + 1) % 4294967296 = ((2139095040 - k : Nat) : Int) := by omega
    unfold decimal_Nearest_p2 at ih ⊢
    by_cases h : 0 < cmpK (keyS s) (midK (2139095040 - (k + 1)))
    · rw [whileO_inl (y := ((2139095040 - k : Nat) : Int)) ?_, ih]
      · simp only [upK]; rw [if_pos h]
      · unfold decimal_Nearest_p2_step
        rw [p_middle (by omega), Option.bind_some, p_size_mid s hsz, Option.bind_some, e, decide_eq_true (by omega), decide_eq_true h]
        rfl
    · simp only [upK]
      rw [if_neg h]
      refine whileO_inr ?_
      unfold decimal_Nearest_p2_step
      rw [p_middle (by omega), Option.bind_some, p_size_mid s hsz, Option.bind_some, decide_eq_false h, Bool.and_false, cond_false]
theorem p_near0 (m : Bool) (out : Int) (hout : out = 0 ∨ out = 2147483648) {N : Nat} (hN : IsNear (keyS s) N) :
    decimal_Nearest_p0 out m (progS s).int (progS s).digits (progS s).off (progS s).plain (progS s).down (progS s).exp = some (out + N, 0) := by
  have na := norm_key s
  obtain ⟨x1, y1, o1, o1'⟩ := prog_sizes s
  have hz : (⟨#[48]⟩ : ByteArray).size = 1 := rfl
  have ze := nt_exp zero_nt
  unfold decimal_Nearest_p0
  rw [p_readW _ (by omega) (nt_minus zero_nt), Option.bind_some, progAll_ok (nt_ok zero_nt)]
  dsimp only
  rw [p_apart _ _ (by simp only; omega) (by show (progS _).exp.size < _; omega), Option.bind_some]
  dsimp only
  rw [show (num (progS (⟨#[48]⟩ : ByteArray))).exp_ = (progS (⟨#[48]⟩ : ByteArray)).exp from rfl, show (num (progS (⟨#[48]⟩ : ByteArray))).down = (progS (⟨#[48]⟩ : ByteArray)).down from rfl]
  have hlo := difL_low (d1 := (progS s).down) (d2 := (progS (⟨#[48]⟩ : ByteArray)).down) (low_dl (progS s).exp) (low_dl (progS (⟨#[48]⟩ : ByteArray)).exp)
  have hr := apP_low hlo (max (progS s).exp.size (progS (⟨#[48]⟩ : ByteArray)).exp.size) 0 (by omega)
  have hap : ap (difL (progS s).down (dl (progS s).exp) (progS (⟨#[48]⟩ : ByteArray)).down (dl (progS (⟨#[48]⟩ : ByteArray)).exp)) 0 (max (progS s).exp.size (progS (⟨#[48]⟩ : ByteArray)).exp.size) + (progS s).off = (keyS s).pow := by
    rw [ap_difL _ _ _ _ _ (by rw [dl_length]; omega) (by rw [dl_length]; omega)]
    have e0 : dl (progS (⟨#[48]⟩ : ByteArray)).exp = [] := by rw [dl_nil]; exact ze
    rw [e0, show powE [] = 0 from rfl, sgI_zero]
    show _ = sgI (progS s).down (powE (dl (progS s).exp)) + (progS s).off
    omega
  have s1 := apP_sgn hlo ((progS s).off + 60) (by omega) (max (progS s).exp.size (progS (⟨#[48]⟩ : ByteArray)).exp.size) 0
  have s2 := apP_sgn hlo ((progS s).off - 60) (by omega) (max (progS s).exp.size (progS (⟨#[48]⟩ : ByteArray)).exp.size) 0
  generalize ap (difL (progS s).down (dl (progS s).exp) (progS (⟨#[48]⟩ : ByteArray)).down (dl (progS (⟨#[48]⟩ : ByteArray)).exp)) 0 (max (progS s).exp.size (progS (⟨#[48]⟩ : ByteArray)).exp.size) = q at *
  generalize apP (difL (progS s).down (dl (progS s).exp) (progS (⟨#[48]⟩ : ByteArray)).down (dl (progS (⟨#[48]⟩ : ByteArray)).exp)) 0 (max (progS s).exp.size (progS (⟨#[48]⟩ : ByteArray)).exp.size) = p at *
  have c1 : (progS s).off + p < -60 ↔ (keyS s).pow < -60 := by
    have h1 : p + ((progS s).off + 60) < 0 ↔ q + ((progS s).off + 60) < 0 := by rw [← sgn_ltz, s1, sgn_ltz]
    omega
  have c2 : 60 < (progS s).off + p ↔ 60 < (keyS s).pow := by
    have h1 : p + ((progS s).off - 60) ≤ 0 ↔ q + ((progS s).off - 60) ≤ 0 := by rw [← sgn_lez, s2, sgn_lez]
    omega
  refine (gd_pos (by unfold InI64; omega) _).trans ?_
  have hds : (keyS s).ds = [] ↔ (progS s).digits = (⟨#[]⟩ : ByteArray) := by rw [keyS_ds, dl_nil, eq_none]
  by_cases hlow : (keyS s).ds = [] ∨ (keyS s).pow < -60
  · have hc : (decide ((progS s).digits = (⟨#[]⟩ : ByteArray)) || decide ((progS s).off + p < -60)) = true := by
      rw [Bool.or_eq_true, decide_eq_true_eq, decide_eq_true_eq]
      rcases hlow with h | h
      · exact .inl (hds.1 h)
      · exact .inr (c1.2 h)
    rw [hc, cond_true, hN.unique (near_low na hlow)]
    simp
  · have hc : (decide ((progS s).digits = (⟨#[]⟩ : ByteArray)) || decide ((progS s).off + p < -60)) = false := by
      rw [Bool.or_eq_false_iff, decide_eq_false_iff_not, decide_eq_false_iff_not]
      exact ⟨fun h => hlow (.inl (hds.2 h)), fun h => hlow (.inr (c1.1 h))⟩
    rw [hc, cond_false]
    have h0 : (keyS s).ds ≠ [] := fun h => hlow (.inl h)
    by_cases hhigh : 60 < (keyS s).pow
    · rw [decide_eq_true (c2.2 hhigh), cond_true, hN.unique (near_high na h0 hhigh)]
      have := bitOr_out hout (N := 2139095040) (by omega)
      rw [show ((2139095040 : Nat) : Int) = 2139095040 from rfl] at this ⊢
      rw [this]
    · rw [decide_eq_false (fun h => hhigh (c2.1 h)), cond_false]
      refine demon_intro guessP_ne fun g hg => ?_
      unfold guessP at hg
      obtain ⟨G, rfl⟩ := Int.eq_ofNat_of_zero_le hg.1
      obtain ⟨b, hb, h1, h2, h3⟩ := near_seek na G (by omega)
      have hG := (downB_spec (keyS s) G).1
      rw [p_near1 s hsz m G (by omega), Option.bind_some]
      have h22 := p_near2 s hsz m (2139095040 - downB (keyS s) G) (by omega)
      rw [show 2139095040 - (2139095040 - downB (keyS s) G) = downB (keyS s) G by omega, hb] at h22
      rw [h22, Option.bind_some]
      have hnear := hN.unique (near_of na h1 h2 h3)
      rw [hnear, and1 (by omega)]
      by_cases hb0 : b = 0
      · subst hb0
        rw [show (((0 : Nat) : Int) - 1) % 4294967296 = ((4294967295 : Nat) : Int) by decide, p_middle (by omega), Option.bind_some, p_size_mid s hsz, Option.bind_some, decide_eq_false (by omega), Bool.false_and, Bool.false_and, cond_false, p_middle (by omega), Option.bind_some, p_size_mid s hsz, Option.bind_some]
        rw [decide_eq_false (show ¬ ((0 % 2 : Nat) : Int) = 1 by decide), Bool.and_false, Bool.false_and, cond_false, if_neg (by omega), if_neg (by omega), bitOr_out hout (by omega)]
      · rw [show ((b : Int) - 1) % 4294967296 = ((b - 1 : Nat) : Int) by omega, p_middle (by omega), Option.bind_some, p_size_mid s hsz, Option.bind_some, decide_eq_true (by omega), Bool.true_and]
        by_cases hA : b % 2 = 1 ∧ cmpK (keyS s) (midK (b - 1)) = 0
        · rw [decide_eq_true (show ((b % 2 : Nat) : Int) = 1 by omega), decide_eq_true hA.2, Bool.and_true, cond_true, if_pos ⟨by omega, hA.1, hA.2⟩, bitOr_out hout (by omega)]
        · have hcA : (decide (((b % 2 : Nat) : Int) = 1) && decide (cmpK (keyS s) (midK (b - 1)) = 0)) = false := by
            rw [Bool.and_eq_false_iff, decide_eq_false_iff_not, decide_eq_false_iff_not]
            by_cases h5 : b % 2 = 1
            · right; exact fun h => hA ⟨h5, h⟩
            · left; omega
          rw [hcA, cond_false, if_neg (fun h => hA h.2), p_middle (by omega), Option.bind_some, p_size_mid s hsz, Option.bind_some]
          by_cases hB : b < 2139095040 ∧ b % 2 = 1 ∧ cmpK (keyS s) (midK b) = 0
          · rw [decide_eq_true (show (b : Int) < 2139095040 by omega), decide_eq_true (show ((b % 2 : Nat) : Int) = 1 by omega), decide_eq_true hB.2.2, Bool.and_true, Bool.and_true, cond_true, if_pos hB, show ((b : Int) + 1) % 4294967296 = ((b + 1 : Nat) : Int) by omega, bitOr_out hout (by omega)]
          · have hcB : (decide ((b : Int) < 2139095040) && decide (((b % 2 : Nat) : Int) = 1) && decide (cmpK (keyS s) (midK b) = 0)) = false := by
              rw [Bool.and_eq_false_iff, Bool.and_eq_false_iff, decide_eq_false_iff_not, decide_eq_false_iff_not, decide_eq_false_iff_not]
              by_cases h5 : b < 2139095040
              · by_cases h6 : b % 2 = 1
                · right; exact fun h => hB ⟨h5, h6, h⟩
                · left; right; omega
              · left; left; omega
            rw [hcB, cond_false, if_neg hB, bitOr_out hout (by omega)]
/-- The minus of a text, as a bit. -/
def minusS (s : ByteArray) : Int := if bAt s 0 = 45 then 2147483648 else 0
theorem p_Nearest {N : Nat} (hN : IsNear (keyS s) N) : decimal_Nearest_s s = some (if readOk s = true then (minusS s + N, 0) else (0, 30)) := by
  unfold decimal_Nearest_s
  rw [p_read s (by omega), Option.bind_some]
  cases hr : readOk s with
  | false => rfl
  | true =>
    rw [progAll_ok hr]
    simp only [Bool.not_true, cond_false, if_true]
    show (bif (progS s).minus then _ else _) = _
    have hm : (progS s).minus = decide (bAt s 0 = 45) := rfl
    unfold minusS
    by_cases h : bAt s 0 = 45
    · rw [hm, decide_eq_true h, cond_true, if_pos h]
      have := p_near0 s hsz true 2147483648 (.inr rfl) hN
      show ((decimal_Nearest_p0 2147483648 (progS s).minus (progS s).int (progS s).digits (progS s).off (progS s).plain (progS s).down (progS s).exp).bind fun o33 => some (o33.1, o33.2)) = _
      rw [hm, decide_eq_true h, this, Option.bind_some]
    · rw [hm, decide_eq_false h, cond_false, if_neg h]
      have := p_near0 s hsz false 0 (.inl rfl) hN
      show ((decimal_Nearest_p0 0 (progS s).minus (progS s).int (progS s).digits (progS s).off (progS s).plain (progS s).down (progS s).exp).bind fun o33 => some (o33.1, o33.2)) = _
      rw [hm, decide_eq_false h, this, Option.bind_some]
end
end Go.Proofs.YtdibapfehdhfjaaDoor

/-
  A text with a minus ahead: how it is read, what its key is. Texts that are read by reckoning. No program.
-/
namespace Go.Proofs.YtdibapfehdhfjaaDoor
open Go.Eng
set_option linter.unusedVariables false
set_option linter.unusedSimpArgs false

def negT (s : ByteArray) : ByteArray := (⟨#[45]⟩ : ByteArray) ++ s
theorem neg_list (s : ByteArray) : (negT s).data.toList = 45 :: s.data.toList := by
  unfold negT
  rw [ByteArray.data_append, Array.toList_append]
  rfl
theorem neg_size (s : ByteArray) : (negT s).size = s.size + 1 := by
  unfold negT
  rw [ByteArray.size_append, show (⟨#[45]⟩ : ByteArray).size = 1 from rfl]
  omega
theorem bAt_get {s : ByteArray} (i : Nat) : bAt s i = match s.data.toList[i]? with
    | some x => (x.toNat : Int)
    | none => -1 := by
  cases h : s.data.toList[i]? with
  | some x => exact bAt_of_list rfl i x h
  | none =>
    refine bAt_out ?_
    have := List.getElem?_eq_none_iff.1 h
    rw [Array.length_toList] at this
    have e : s.size = s.data.size := rfl
    omega
theorem bAt_neg (s : ByteArray) (i : Nat) : bAt (negT s) ((i + 1 : Nat) : Int) = bAt s i := by
  rw [bAt_get, bAt_get, neg_list, List.getElem?_cons_succ]
theorem bAt_neg0 (s : ByteArray) : bAt (negT s) 0 = 45 := by
  have := bAt_get (s := negT s) 0
  rw [neg_list] at this
  exact this
theorem digS_neg (s : ByteArray) (i : Nat) : digS (negT s) ((i + 1 : Nat) : Int) = digS s i := by
  unfold digS
  rw [bAt_neg]
theorem manyS_neg (s : ByteArray) (i : Nat) : manyS (negT s) (i + 1) = manyS s i + 1 := by
  by_cases h : digS s i = true
  · rw [manyS_yes h, manyS_yes (by rw [digS_neg]; exact h)]
    exact manyS_neg s (i + 1)
  · have h' : digS s i = false := by simpa using h
    rw [manyS_no h', manyS_no (by rw [digS_neg]; exact h')]
termination_by s.size - i
decreasing_by have := digS_lt h; omega
theorem extract_neg (s : ByteArray) (a b : Nat) : (negT s).extract (a + 1) (b + 1) = s.extract a b := by
  apply ByteArray.ext
  apply Array.toList_inj.1
  rw [ByteArray.data_extract, ByteArray.data_extract, Array.toList_extract, Array.toList_extract, neg_list]
  simp [List.extract]
section
variable {s : ByteArray} (h : bAt s 0 ≠ 45)
include h
theorem neg_atA : atA (negT s) = 1 ∧ atA s = 0 := by
  unfold atA
  rw [bAt_neg0, if_pos rfl, if_neg h]
  exact ⟨rfl, rfl⟩
theorem neg_atB : atB (negT s) = atB s + 1 := by
  unfold atB
  rw [(neg_atA h).1, (neg_atA h).2]
  exact manyS_neg s 0
theorem neg_badA : badA (negT s) = badA s := by
  unfold badA
  rw [neg_atB h, (neg_atA h).1, (neg_atA h).2]
  have := bAt_neg s 0
  rw [show ((0 + 1 : Nat) : Int) = ((1 : Nat) : Int) from rfl] at this
  rw [this]
  congr 1
  · exact decide_eq_decide.2 (by omega)
  · congr 1
    exact decide_eq_decide.2 (by omega)
theorem neg_dotS : dotS (negT s) = dotS s := by
  unfold dotS
  rw [neg_atB h, bAt_neg]
theorem neg_atK : atK (negT s) = atK s + 1 := by
  unfold atK
  rw [neg_atB h, manyS_neg]
theorem neg_atC : atC (negT s) = atC s + 1 := by
  unfold atC
  rw [neg_dotS h, neg_atK h, neg_atB h]
  split <;> rfl
theorem neg_expS : expS (negT s) = expS s := by
  unfold expS
  rw [neg_atC h, bAt_neg]
theorem neg_next : bAt (negT s) ((atC (negT s) : Int) + 1) = bAt s ((atC s : Int) + 1) := by
  rw [neg_atC h]
  exact bAt_neg s (atC s + 1)
theorem neg_sgnS : sgnS (negT s) = sgnS s := by
  unfold sgnS
  rw [neg_next h]
theorem neg_atE : atE (negT s) = atE s + 1 := by
  unfold atE
  rw [neg_sgnS h, neg_atC h]
  split <;> rfl
theorem neg_atF : atF (negT s) = atF s + 1 := by
  unfold atF
  rw [neg_atE h, manyS_neg]
theorem neg_atG : atG (negT s) = atG s + 1 := by
  unfold atG
  rw [neg_expS h, neg_atF h, neg_atC h]
  split <;> rfl
theorem neg_ok : readOk (negT s) = readOk s := by
  unfold readOk
  rw [neg_badA h, neg_dotS h, neg_expS h, neg_atK h, neg_atB h, neg_atF h, neg_atE h, neg_atG h, neg_size]
  rw [show decide (atK s + 1 = atB s + 1 + 1) = decide (atK s = atB s + 1) from decide_eq_decide.2 (by omega), show decide (atF s + 1 = atE s + 1) = decide (atF s = atE s) from decide_eq_decide.2 (by omega), show decide (atG s + 1 = s.size + 1) = decide (atG s = s.size) from decide_eq_decide.2 (by omega)]
theorem neg_int : (negT s).extract (atA (negT s)) (atB (negT s)) = s.extract (atA s) (atB s) := by
  rw [(neg_atA h).1, (neg_atA h).2, neg_atB h]
  exact extract_neg s 0 _
theorem neg_frac : fracS (negT s) = fracS s := by
  unfold fracS
  rw [neg_dotS h, neg_atB h, neg_atK h, extract_neg]
theorem neg_expT : expT (negT s) = expT s := by
  unfold expT
  rw [neg_atE h, neg_size, extract_neg]
theorem neg_prog : progS (negT s) = { progS s with minus := true } := by
  unfold progS
  rw [neg_int h, neg_frac h, neg_dotS h, neg_expS h, neg_next h, neg_expT h, bAt_neg0]
  rfl
end

/-! ### reckoning -/
def manyF : Nat → ByteArray → Nat → Nat
  | 0, _, i => i
  | f + 1, s, i => if digS s i = true then manyF f s (i + 1) else i
theorem manyS_eq (s : ByteArray) : ∀ (f i : Nat), s.size - i ≤ f → manyS s i = manyF f s i
  | 0, i, h => by
    have : digS s i = false := by
      cases hd : digS s i with
      | false => rfl
      | true => have := digS_lt hd; omega
    rw [manyS_no this]; rfl
  | f + 1, i, h => by
    simp only [manyF]
    split
    · rename_i hd
      have := digS_lt hd
      rw [manyS_yes hd, manyS_eq s f (i + 1) (by omega)]
    · rename_i hd
      rw [manyS_no (by simpa using hd)]
theorem manyS_dec (s : ByteArray) (i : Nat) : manyS s i = manyF s.size s i := manyS_eq s _ _ (by omega)
def leadF : Nat → ByteArray → Int → Nat → Nat
  | 0, _, _, i => i
  | f + 1, s, b, i => if i < s.size ∧ bAt s i = b then leadF f s b (i + 1) else i
theorem leadB_eq (s : ByteArray) (b : Int) : ∀ (f i : Nat), s.size - i ≤ f → leadB s b i = leadF f s b i
  | 0, i, h => by rw [leadB_no (by omega)]; rfl
  | f + 1, i, h => by
    simp only [leadF]
    split
    · rename_i hd
      rw [leadB_yes hd, leadB_eq s b f (i + 1) (by omega)]
    · rename_i hd
      rw [leadB_no hd]
theorem leadB_dec (s : ByteArray) (b : Int) (i : Nat) : leadB s b i = leadF s.size s b i := leadB_eq s b _ _ (by omega)
def dgF : Nat → Nat → List Int
  | 0, _ => []
  | f + 1, n => if n = 0 then [] else ((n % 10 : Nat) : Int) :: dgF f (n / 10)
theorem dg_eq : ∀ (f n : Nat), n < 10 ^ f → dg n = dgF f n
  | 0, n, h => by
    have : n = 0 := by simpa using h
    rw [this, dg_zero]; rfl
  | f + 1, n, h => by
    simp only [dgF]
    split
    · rename_i h0; rw [h0, dg_zero]
    · rename_i h0
      rw [dg_pos h0, dg_eq f (n / 10) (by rw [Nat.pow_succ] at h; omega)]
def t12 : ByteArray := ⟨#[49, 50]⟩
def t1e2 : ByteArray := ⟨#[49, 101, 50]⟩
def t995 : ByteArray := ⟨#[57, 57, 46, 53]⟩
def t05 : ByteArray := ⟨#[48, 46, 53]⟩
def t15e3 : ByteArray := ⟨#[49, 46, 53, 101, 45, 51]⟩
def t1d : ByteArray := ⟨#[49, 46]⟩
theorem ok_1e2 : readOk t1e2 = true := by
  simp only [readOk, badA, atG, atF, atE, sgnS, atC, atK, dotS, expS, atB, manyS_dec]
  decide
theorem ok_995 : readOk t995 = true := by
  simp only [readOk, badA, atG, atF, atE, sgnS, atC, atK, dotS, expS, atB, manyS_dec]
  decide
theorem ok_05 : readOk t05 = true := by
  simp only [readOk, badA, atG, atF, atE, sgnS, atC, atK, dotS, expS, atB, manyS_dec]
  decide
theorem ok_15e3 : readOk t15e3 = true := by
  simp only [readOk, badA, atG, atF, atE, sgnS, atC, atK, dotS, expS, atB, manyS_dec]
  decide
theorem ok_1d : readOk t1d = false := by
  simp only [readOk, badA, atG, atF, atE, sgnS, atC, atK, dotS, expS, atB, manyS_dec]
  decide
theorem ok_12 : readOk t12 = true := by
  simp only [readOk, badA, atG, atF, atE, sgnS, atC, atK, dotS, expS, atB, manyS_dec]
  decide
theorem key_1e2 : keyS t1e2 = ⟨[1], 3⟩ := by
  simp only [keyS, progS, fracS, expT, atE, sgnS, atC, atK, dotS, expS, atB, manyS_dec, trimL, trimR, leadB_dec, DKey.mk.injEq]
  decide
theorem key_995 : keyS t995 = ⟨[9, 9, 5], 2⟩ := by
  simp only [keyS, progS, fracS, expT, atE, sgnS, atC, atK, dotS, expS, atB, manyS_dec, trimL, trimR, leadB_dec, DKey.mk.injEq]
  decide
theorem key_05 : keyS t05 = ⟨[5], 0⟩ := by
  simp only [keyS, progS, fracS, expT, atE, sgnS, atC, atK, dotS, expS, atB, manyS_dec, trimL, trimR, leadB_dec, DKey.mk.injEq]
  decide
end Go.Proofs.YtdibapfehdhfjaaDoor

/-
  No idle program: the first questions. No program.
-/
namespace Go.Proofs.YtdibapfehdhfjaaDoor
open Go.Eng
set_option linter.unusedVariables false
set_option linter.unusedSimpArgs false

theorem p_Valid (s : ByteArray) (hs : s.size < 200000000000000) : decimal_Valid_s s = some (readOk s) := by
  unfold decimal_Valid_s
  rw [p_read s (by omega), Option.bind_some]
theorem byteD_get {t : ByteArray} {W : List Int} (ht : t.data.toList = byteD W) (hd : Dig W) (i : Nat) (hi : i < W.length) : bAt t i = 48 + W[i] := by
  rw [bAt_of_list ht i (chr W[i]) (by simp [byteD, hi])]
  exact chr_nat (hd _ (List.getElem_mem hi))
theorem numL_append (l m : List Int) : numL (l ++ m) = numL l * 10 ^ m.length + numL m := by
  unfold numL
  rw [List.length_append, frac_append]
theorem numL_nonneg {l : List Int} (h : Dig l) : 0 ≤ numL l := (frac_lt h (Nat.le_refl _)).1
theorem p_whole0 {t : ByteArray} {W : List Int} (ht : t.data.toList = byteD W) (hd : Dig W) (hW : W.length < 200000000000000) (hn : numL W ≤ 9223372036854775808) : ∀ (rest pre : List Int), pre ++ rest = W →
    decimal_Whole_p0 (numL pre) (W.length : Int) (pre.length : Int) t = some (.inr (numL W))
  | [], pre, h => by
    rw [List.append_nil] at h
    subst h
    unfold decimal_Whole_p0
    refine whileO_inr ?_
    unfold decimal_Whole_p0_step
    rw [decide_eq_false (by simp only; omega), cond_false]
  | d :: rest, pre, h => by
    have ih := p_whole0 ht hd hW hn rest (pre ++ [d]) (by rw [← h, List.append_assoc]; rfl)
    have hlen : pre.length < W.length := by rw [← h]; simp
    have hdd : 0 ≤ d ∧ d ≤ 9 := hd d (by rw [← h]; simp)
    have hg : W[pre.length] = d := by
      have : W[pre.length]? = some d := by rw [← h]; simp
      rw [List.getElem?_eq_getElem hlen] at this
      exact Option.some.inj this
    have hb := byteD_get ht hd pre.length hlen
    rw [hg] at hb
    have hsz : t.size = W.length := by rw [size_of_list ht, byteD_len]
    have hpre : Dig pre := fun x hx => hd x (by rw [← h]; simp [hx])
    have hrest : Dig rest := fun x hx => hd x (by rw [← h]; simp [hx])
    have e1 : numL (pre ++ [d]) = numL pre * 10 + d := numL_snoc pre d
    have hle : numL (pre ++ [d]) ≤ numL W := by
      rw [← h, show pre ++ d :: rest = (pre ++ [d]) ++ rest by simp, numL_append (pre ++ [d]) rest]
      have h10 : (1 : Int) ≤ 10 ^ rest.length := Int.pow_pos (by decide)
      have h00 : Dig (pre ++ [d]) := by
        intro x hx
        rcases List.mem_append.1 hx with hx | hx
        · exact hpre x hx
        · rw [List.mem_singleton] at hx
          rw [hx]; exact hdd
      have h0 := numL_nonneg h00
      have := Int.mul_le_mul_of_nonneg_left h10 h0
      rw [Int.mul_one] at this
      have := numL_nonneg hrest
      omega
    have hp0 := numL_nonneg hpre
    rw [show ((pre ++ [d]).length : Int) = (pre.length : Int) + 1 by simp] at ih
    unfold decimal_Whole_p0 at ih ⊢
    rw [whileO_inl (y := (numL (pre ++ [d]), (pre.length : Int) + 1)) ?_, ih]
    unfold decimal_Whole_p0_step
    simp only [hb]
    rw [show ((48 + d - 48) % 256) % 18446744073709551616 = d by omega, decide_eq_true (by omega), cond_true]
    generalize numL pre = v at *
    refine (gd_pos (by omega) _).trans ?_
    refine (gd_pos (by omega) _).trans ?_
    rw [decide_eq_false (by omega), cond_false]
    refine (gd_pos (by unfold InI64; omega) _).trans ?_
    rw [show (10 * v % 18446744073709551616 + d) % 18446744073709551616 = numL (pre ++ [d]) by omega]
/-- The digits of a whole number are that number. -/
theorem p_Whole {s : ByteArray} (hs : s.size < 200000000000000) (hr : readOk s = true) (hp : (progS s).plain = true) {W : List Int} (ht : (progS s).int.data.toList = byteD W) (hd : Dig W) (hn : numL W ≤ 9223372036854775808) (hm : bAt s 0 = 45 ∨ numL W < 9223372036854775808) :
    decimal_Whole_s s = some (if bAt s 0 = 45 then -numL W else numL W, true) := by
  have hW : W.length < 200000000000000 := by
    have h1 := size_of_list ht
    rw [byteD_len] at h1
    have h2 : (progS s).int.size ≤ s.size := by
      show (s.extract _ _).size ≤ _
      rw [ByteArray.size_extract]; omega
    omega
  have h0 := p_whole0 ht hd hW hn W [] rfl
  have hsz : (progS s).int.size = W.length := by rw [size_of_list ht, byteD_len]
  rw [show numL [] = 0 from rfl, show (([] : List Int).length : Int) = 0 from rfl] at h0
  have hnn := numL_nonneg hd
  unfold decimal_Whole_s
  rw [p_read s (by omega), Option.bind_some, progAll_ok hr, hr]
  dsimp only [num]
  rw [hp]
  simp only [Bool.not_true, Bool.or_false, cond_false]
  rw [hsz, h0, Option.bind_some]
  simp only [Sum.elim_inr]
  rw [show (progS s).minus = decide (bAt s 0 = 45) from rfl]
  by_cases h : bAt s 0 = 45
  · rw [decide_eq_true h, if_pos h]
    simp only [Bool.not_true, Bool.false_and, cond_false, cond_true]
    unfold w64
    rw [IntKind.wrap_i64]
    congr 2
    omega
  · rw [decide_eq_false h, if_neg h]
    simp only [Bool.not_false, Bool.true_and, cond_false]
    rcases hm with hm | hm
    · exact (h hm).elim
    · rw [decide_eq_false (by omega), cond_false]
      unfold w64
      rw [IntKind.wrap_i64]
      congr 2
      omega
theorem nt12 : NumTxt t12 [1, 2] [] := ⟨rfl, fun d hd => by simp at hd; omega, fun d hd => by simp at hd, by simp, .inl (by decide)⟩
theorem near_05 : IsNear (keyS t05) 1056964608 := by
  have na := norm_key t05
  have hf : Fits 150 (keyS t05) := by rw [key_05]; right; decide
  have hv : valK 150 (keyS t05) = 5 * 10 ^ 149 := by rw [key_05]; decide
  have c : ∀ b, cmpK (keyS t05) (midK b) = sgn (5 * 10 ^ 149 - (midV b : Int) * (unitK 150 150 : Int)) := fun b => by
    obtain ⟨e1, e2⟩ := val_mid b (K := 150) (Q := 150) rfl (Nat.le_refl _)
    rw [cmpK_val na (mid_norm b) hf e2, e1, hv]
  have h1 : cmpK (keyS t05) (midK 1056964608) < 0 := by
    rw [c, sgn_ltz]
    decide
  have h2 : 0 < cmpK (keyS t05) (midK 1056964607) := by
    rw [c, sgn_of_gt]
    · decide
    · decide
  have := near_of na (b := 1056964608) (by omega) (.inr (by omega)) (.inr (by rw [show 1056964608 - 1 = 1056964607 by omega]; omega))
  rw [if_neg (by omega), if_neg (by omega)] at this
  exact this
theorem exact_05 : exactS 1056964608 = t05 := by
  have e1 : partF 1056964608 = 8388608 := by decide
  have e2 : partX 1056964608 = -24 := by decide
  have hM : M2 8388608 (-24) = 500000000000000000000000 := by decide
  unfold exactS sgnB
  rw [if_neg (by decide), if_neg (by decide), none_app, e1, e2, decT_ref]
  unfold dsM offM
  rw [hM, dg_eq 24 _ (by decide)]
  decide
theorem p_started : signetlaw2_started_s = some true := by
  have w12 : decimal_Whole_s (⟨#[45, 49, 50]⟩ : ByteArray) = some (-12, true) := by
    have hm : bAt t12 0 ≠ 45 := nt_minus nt12
    have hneg : (⟨#[45, 49, 50]⟩ : ByteArray) = negT t12 := by decide
    have hpr := neg_prog hm
    rw [hneg]
    have hint : (progS (negT t12)).int.data.toList = byteD [1, 2] := by
      rw [hpr]
      show (t12.extract (atA t12) (atB t12)).data.toList = _
      rw [nt_atA nt12, nt_atB nt12]
      decide
    have hpl : (progS (negT t12)).plain = true := by
      rw [hpr]
      show (!dotS t12 && !expS t12) = true
      rw [nt_dotS nt12, nt_expS nt12]
      decide
    have := p_Whole (s := negT t12) (by rw [neg_size]; decide) (by rw [neg_ok hm]; exact ok_12) hpl hint (fun d hd => by simp at hd; omega) (by decide) (.inl (bAt_neg0 _))
    rw [this, if_pos (bAt_neg0 _)]
    rfl
  have hc := p_Compare t1e2 t995 (by decide) (by decide)
  have u1 : upS t1e2 = false := by
    unfold upS
    rw [show (progS t1e2).minus = false from by decide, Bool.false_and]
  have u2 : upS t995 = false := by
    unfold upS
    rw [show (progS t995).minus = false from by decide, Bool.false_and]
  rw [ok_1e2, ok_995, u1, u2, sizeS_key, key_1e2, key_995, show cmpV false false (cmpK ⟨[1], 3⟩ ⟨[9, 9, 5], 2⟩) = 1 by decide, if_pos (by decide)] at hc
  have hn := p_Nearest t05 (by decide) near_05
  rw [ok_05, if_pos rfl, show minusS t05 = 0 by decide] at hn
  have hv1 := p_Valid t15e3 (by decide)
  have hv2 := p_Valid t1d (by decide)
  rw [ok_15e3] at hv1
  rw [ok_1d] at hv2
  have he := p_Exact (b := 1056964608) (by decide)
  rw [exact_05] at he
  unfold signetlaw2_started_s
  rw [w12, Option.bind_some, show (⟨#[49, 101, 50]⟩ : ByteArray) = t1e2 from rfl, show (⟨#[57, 57, 46, 53]⟩ : ByteArray) = t995 from rfl, hc, Option.bind_some]
  rw [show (⟨#[48, 46, 53]⟩ : ByteArray) = t05 from rfl, hn, Option.bind_some, show (⟨#[49, 46, 53, 101, 45, 51]⟩ : ByteArray) = t15e3 from rfl, hv1, Option.bind_some, cond_true]
  rw [show (⟨#[49, 46]⟩ : ByteArray) = t1d from rfl, hv2, Option.bind_some]
  rw [show (1056964608 : Int) = ((1056964608 : Nat) : Int) from rfl, he]
  rfl
end Go.Proofs.YtdibapfehdhfjaaDoor

/-
  Compare is an order; Nearest goes up with the value. No program.
-/
namespace Go.Proofs.YtdibapfehdhfjaaDoor
open Go.Eng
set_option linter.unusedVariables false
set_option linter.unusedSimpArgs false

/-- What Compare answers of two numbers. -/
def cmpN (a b : ByteArray) : Int := cmpV (upS a) (upS b) (cmpK (keyS a) (keyS b))
theorem p_CompareN {a b : ByteArray} (ha : a.size < 200000000000000) (hb : b.size < 200000000000000) (ra : readOk a = true) (rb : readOk b = true) : decimal_Compare_s a b = some (cmpN a b, 0) := by
  rw [p_Compare a b ha hb, ra, rb, if_pos (by decide), sizeS_key]
  rfl
theorem ok_pos {s : ByteArray} (h : readOk s = true) : 0 < s.size := by
  unfold readOk at h
  simp only [Bool.and_eq_true, Bool.not_eq_true'] at h
  obtain ⟨⟨⟨hb, _⟩, _⟩, _⟩ := h
  unfold badA at hb
  simp only [Bool.or_eq_false_iff, decide_eq_false_iff_not] at hb
  rcases Nat.eq_zero_or_pos s.size with h0 | h0
  · exfalso
    refine hb.1 ?_
    unfold atB
    refine manyS_no ?_
    cases hd : digS s (atA s) with
    | false => rfl
    | true => have := digS_lt hd; omega
  · exact h0
/-- The sign counts where there is a value. -/
theorem rank_eq {s : ByteArray} {N : Nat} (hN : IsNear (keyS s) N) : (if bAt s 0 = 45 then -(N : Int) else N) = if upS s = true then -(N : Int) else N := by
  unfold upS
  rw [show (progS s).minus = decide (bAt s 0 = 45) from rfl]
  by_cases h : bAt s 0 = 45
  · rw [if_pos h, decide_eq_true h, Bool.true_and]
    by_cases h0 : (progS s).digits.size = 0
    · have hd : (keyS s).ds = [] := by rw [keyS_ds, dl_nil]; exact h0
      have := hN.unique (near_low (norm_key s) (.inl hd))
      rw [this, if_neg (by rw [h0]; simp)]
      rfl
    · rw [if_pos (by rw [decide_eq_true_eq]; omega)]
  · rw [if_neg h, decide_eq_false h, Bool.false_and, if_neg (by decide)]
end Go.Proofs.YtdibapfehdhfjaaDoor
