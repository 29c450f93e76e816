/-
  The digits of every int64 are it; whole numbers among one another. No program.
-/
import Derived.Test.YtdibapfehdhfjaaDoorPDecBack
import Derived.Test.YtdibapfehdhfjaaDoorGW
namespace Go.Proofs.YtdibapfehdhfjaaDoor
open Go.Eng
set_option linter.unusedVariables false
set_option linter.unusedSimpArgs false

/-- The digits of a whole number, the highest first. -/
def wD (u : Nat) : List Int := if u = 0 then [0] else (dg u).reverse
theorem wD_dig (u : Nat) : Dig (wD u) := by
  unfold wD
  split
  · intro d hd
    rw [List.mem_singleton] at hd
    omega
  · exact dig_rev (dg_dig u)
theorem wD_ne (u : Nat) : wD u ≠ [] := by
  unfold wD
  split
  · simp
  · rename_i h
    intro h0
    exact h (dg_nil.1 (List.reverse_eq_nil_iff.1 h0))
theorem wD_head (u : Nat) : (wD u).head? ≠ some 0 ∨ (wD u).length = 1 := by
  unfold wD
  split
  · right; rfl
  · left
    intro h
    exact dg_head u 0 h rfl
theorem wD_num (u : Nat) : numL (wD u) = u := by
  unfold wD
  split
  · rename_i h; rw [h]; rfl
  · exact numL_dg u
theorem chr_digit (u : Nat) : chr ((u % 10 : Nat) : Int) = UInt8.ofNat (48 + u % 10) := by
  unfold chr
  congr 1
  omega
theorem wD_dec (u : Nat) : Lib.decDigits u = byteD (wD u) := by
  induction u using Nat.strongRecOn with
  | ind u ih =>
    by_cases h : u < 10
    · rw [Lib.decDigits_one h]
      unfold wD
      split
      · rename_i h0; subst h0; rfl
      · rename_i h0
        rw [dg_pos h0, show u / 10 = 0 by omega, dg_zero]
        show [_] = [chr _]
        rw [chr_digit, show u % 10 = u by omega]
    · rw [Lib.decDigits, dif_neg h, ih (u / 10) (by omega)]
      have h1 : wD u = wD (u / 10) ++ [((u % 10 : Nat) : Int)] := by
        unfold wD
        rw [if_neg (by omega), if_neg (by omega), dg_pos (by omega), List.reverse_cons]
      rw [h1]
      show _ = (wD (u / 10) ++ [((u % 10 : Nat) : Int)]).map chr
      rw [List.map_append, List.map_singleton, chr_digit]
      rfl
theorem wD_len (u : Nat) (h : u ≤ 9223372036854775808) : (wD u).length ≤ 20 := by
  unfold wD
  split
  · decide
  · rw [List.length_reverse]
    exact dg_len_lt 20 u (Nat.lt_of_le_of_lt h (by decide))
/-- A whole number's text, with digits behind a dot. -/
def numT (u : Nat) (F : List Int) : ByteArray := mkB (byteD (wD u) ++ dotF F)
theorem numT_nt (u : Nat) {F : List Int} (hF : Dig F) : NumTxt (numT u F) (wD u) F := ⟨by simp [numT, mkB], wD_dig u, hF, wD_ne u, wD_head u⟩
theorem itoa_text (n : Int) : itoaB n = sT (decide (n < 0)) (numT n.natAbs []) := by
  have hl : Lib.itoa n = mL (decide (n < 0)) ++ byteD (wD n.natAbs) := by
    unfold Lib.itoa
    by_cases h : n < 0
    · rw [if_pos h, decide_eq_true h, wD_dec]; rfl
    · rw [if_neg h, decide_eq_false h, wD_dec, show n.toNat = n.natAbs by omega]; rfl
  rw [← mkB_list (sT (decide (n < 0)) (numT n.natAbs [])), sT_list]
  unfold itoaB numT mkB
  rw [hl]
  simp [dotF]
theorem sT_size (m : Bool) (t : ByteArray) : (sT m t).size ≤ t.size + 1 := by
  unfold sT
  split
  · rw [neg_size]; omega
  · omega
section
variable {t : ByteArray} {W F : List Int} (h : NumTxt t W F)
include h
theorem sT_prog (m : Bool) : (progS (sT m t)).int = (progS t).int ∧ (progS (sT m t)).plain = (progS t).plain ∧ (progS (sT m t)).digits = (progS t).digits ∧ (progS (sT m t)).minus = m := by
  cases m
  · refine ⟨rfl, rfl, rfl, ?_⟩
    exact decide_eq_false (nt_minus h)
  · show (progS (negT t)).int = _ ∧ (progS (negT t)).plain = _ ∧ (progS (negT t)).digits = _ ∧ (progS (negT t)).minus = _
    rw [neg_prog (nt_minus h)]
    exact ⟨rfl, rfl, rfl, rfl⟩
/-- The minus counts where there is a digit. -/
theorem sT_up (m : Bool) : upS (sT m t) = (m && decide ((keyS t).ds ≠ [])) := by
  obtain ⟨_, _, h3, h4⟩ := sT_prog h m
  have key : ((0 : Int) < ((progS t).digits.size : Int)) ↔ (keyS t).ds ≠ [] := by
    have h1 : (keyS t).ds = [] ↔ (progS t).digits.size = 0 := by rw [keyS_ds, dl_nil]
    constructor
    · intro h2 h5
      have := h1.1 h5
      omega
    · intro h2
      rcases Nat.eq_zero_or_pos (progS t).digits.size with h5 | h5
      · exact (h2 (h1.2 h5)).elim
      · omega
  show ((progS (sT m t)).minus && decide ((0 : Int) < ((progS (sT m t)).digits.size : Int))) = _
  rw [h3, h4, decide_eq_decide.2 key]
end
theorem ds_ne {K : Nat} {a : DKey} (h : valK K a ≠ 0) : a.ds ≠ [] := fun h0 => h (by unfold valK; rw [h0]; rfl)
theorem numL_zeros' (l : List Int) : numL (l ++ [0, 0, 0]) = numL l * 1000 := by
  rw [numL_append]
  show numL l * 10 ^ 3 + 0 = _
  omega
/-- Whole numbers stand as they do. -/
theorem whole_cmp (m n : Int) (hm : InI64 m) (hn : InI64 n) : cmpN (sT (decide (m < 0)) (numT m.natAbs [])) (sT (decide (n < 0)) (numT n.natAbs [0, 0, 0])) = sgn (m - n) := by
  unfold InI64 at hm hn
  have n1 := numT_nt m.natAbs (F := []) (fun d hd => by cases hd)
  have n2 := numT_nt n.natAbs (F := [0, 0, 0]) (fun d hd => by simp at hd; omega)
  obtain ⟨v1, f1⟩ := nt_val n1 (K := 3) (by simp)
  obtain ⟨v2, f2⟩ := nt_val n2 (K := 3) (by simp)
  have e1 : valK 3 (keyS (numT m.natAbs [])) = (m.natAbs : Int) * 1000 := by
    rw [v1, List.append_nil, frac_num, wD_num]; rfl
  have e2 : valK 3 (keyS (numT n.natAbs [0, 0, 0])) = (n.natAbs : Int) * 1000 := by
    have := frac_num (wD n.natAbs ++ [0, 0, 0]) 0
    rw [Nat.add_zero, show (wD n.natAbs ++ ([0, 0, 0] : List Int)).length = (wD n.natAbs).length + 3 by simp] at this
    rw [v2, this, numL_zeros', wD_num]
    omega
  have u1 : upS (sT (decide (m < 0)) (numT m.natAbs [])) = decide (m < 0) := by
    rw [sT_up n1]
    by_cases h : m < 0
    · rw [decide_eq_true h, decide_eq_true (ds_ne (K := 3) (by rw [e1]; omega))]; rfl
    · rw [decide_eq_false h]; rfl
  have u2 : upS (sT (decide (n < 0)) (numT n.natAbs [0, 0, 0])) = decide (n < 0) := by
    rw [sT_up n2]
    by_cases h : n < 0
    · rw [decide_eq_true h, decide_eq_true (ds_ne (K := 3) (by rw [e2]; omega))]; rfl
    · rw [decide_eq_false h]; rfl
  unfold cmpN
  rw [u1, u2, sT_key n1, sT_key n2, cmpK_val (norm_key _) (norm_key _) f1 f2, e1, e2]
  unfold cmpV sgn
  by_cases h1 : m < 0
  · by_cases h2 : n < 0
    · rw [decide_eq_true h1, decide_eq_true h2]
      simp only [Bool.not_true, Bool.and_false, Bool.false_and, Bool.false_eq_true, if_false, if_true]
      split <;> split <;> first | omega | (split <;> first | omega | (split <;> omega)) | (split <;> omega)
    · rw [decide_eq_true h1, decide_eq_false h2, if_pos (by decide), if_pos (by omega)]
  · by_cases h2 : n < 0
    · rw [decide_eq_false h1, decide_eq_true h2, if_neg (by decide), if_pos (by decide), if_neg (by omega), if_pos (by omega)]
    · rw [decide_eq_false h1, decide_eq_false h2]
      simp only [Bool.not_false, Bool.and_false, Bool.false_and, Bool.false_eq_true, if_false]
      split <;> split <;> first | omega | (split <;> first | omega | (split <;> omega)) | (split <;> omega)
end Go.Proofs.YtdibapfehdhfjaaDoor
