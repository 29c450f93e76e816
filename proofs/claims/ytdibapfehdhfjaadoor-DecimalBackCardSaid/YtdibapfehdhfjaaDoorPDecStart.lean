/-
  No idle program: the first questions. No program.
-/
import Derived.Test.YtdibapfehdhfjaaDoorPDecNear
import Derived.Test.YtdibapfehdhfjaaDoorDecNeg
namespace Go.Proofs.YtdibapfehdhfjaaDoor
open Go.Eng
set_option linter.unusedVariables false
set_option linter.unusedSimpArgs false

theorem p_Valid (s : ByteArray) (hs : s.size < 200000000000000) : decimal_Valid_s s = some (readOk s) := by
  unfold decimal_Valid_s
  rw [p_read s (by omega), Option.bind_some]
theorem byteD_get {t : ByteArray} {W : List Int} (ht : t.data.toList = byteD W) (hd : Dig W) (i : Nat) (hi : i < W.length) : bAt t i = 48 + W[i] := by
  rw [bAt_of_list ht i (chr W[i]) (by simp [byteD, hi])]
  exact chr_nat (hd _ (List.getElem_mem hi))
theorem numL_append (l m : List Int) : numL (l ++ m) = numL l * 10 ^ m.length + numL m := by
  unfold numL
  rw [List.length_append, frac_append]
theorem numL_nonneg {l : List Int} (h : Dig l) : 0 ≤ numL l := (frac_lt h (Nat.le_refl _)).1
theorem p_whole0 {t : ByteArray} {W : List Int} (ht : t.data.toList = byteD W) (hd : Dig W) (hW : W.length < 200000000000000) (hn : numL W ≤ 9223372036854775808) : ∀ (rest pre : List Int), pre ++ rest = W →
    decimal_Whole_p0 (numL pre) (W.length : Int) (pre.length : Int) t = some (.inr (numL W))
  | [], pre, h => by
    rw [List.append_nil] at h
    subst h
    unfold decimal_Whole_p0
    refine whileO_inr ?_
    unfold decimal_Whole_p0_step
    rw [decide_eq_false (by simp only; omega), cond_false]
  | d :: rest, pre, h => by
    have ih := p_whole0 ht hd hW hn rest (pre ++ [d]) (by rw [← h, List.append_assoc]; rfl)
    have hlen : pre.length < W.length := by rw [← h]; simp
    have hdd : 0 ≤ d ∧ d ≤ 9 := hd d (by rw [← h]; simp)
    have hg : W[pre.length] = d := by
      have : W[pre.length]? = some d := by rw [← h]; simp
      rw [List.getElem?_eq_getElem hlen] at this
      exact Option.some.inj this
    have hb := byteD_get ht hd pre.length hlen
    rw [hg] at hb
    have hsz : t.size = W.length := by rw [size_of_list ht, byteD_len]
    have hpre : Dig pre := fun x hx => hd x (by rw [← h]; simp [hx])
    have hrest : Dig rest := fun x hx => hd x (by rw [← h]; simp [hx])
    have e1 : numL (pre ++ [d]) = numL pre * 10 + d := numL_snoc pre d
    have hle : numL (pre ++ [d]) ≤ numL W := by
      rw [← h, show pre ++ d :: rest = (pre ++ [d]) ++ rest by simp, numL_append (pre ++ [d]) rest]
      have h10 : (1 : Int) ≤ 10 ^ rest.length := Int.pow_pos (by decide)
      have h00 : Dig (pre ++ [d]) := by
        intro x hx
        rcases List.mem_append.1 hx with hx | hx
        · exact hpre x hx
        · rw [List.mem_singleton] at hx
          rw [hx]; exact hdd
      have h0 := numL_nonneg h00
      have := Int.mul_le_mul_of_nonneg_left h10 h0
      rw [Int.mul_one] at this
      have := numL_nonneg hrest
      omega
    have hp0 := numL_nonneg hpre
    rw [show ((pre ++ [d]).length : Int) = (pre.length : Int) + 1 by simp] at ih
    unfold decimal_Whole_p0 at ih ⊢
    rw [whileO_inl (y := (numL (pre ++ [d]), (pre.length : Int) + 1)) ?_, ih]
    unfold decimal_Whole_p0_step
    simp only [hb]
    rw [show ((48 + d - 48) % 256) % 18446744073709551616 = d by omega, decide_eq_true (by omega), cond_true]
    generalize numL pre = v at *
    refine (gd_pos (by omega) _).trans ?_
    refine (gd_pos (by omega) _).trans ?_
    rw [decide_eq_false (by omega), cond_false]
    refine (gd_pos (by unfold InI64; omega) _).trans ?_
    rw [show (10 * v % 18446744073709551616 + d) % 18446744073709551616 = numL (pre ++ [d]) by omega]
/-- The digits of a whole number are that number. -/
theorem p_Whole {s : ByteArray} (hs : s.size < 200000000000000) (hr : readOk s = true) (hp : (progS s).plain = true) {W : List Int} (ht : (progS s).int.data.toList = byteD W) (hd : Dig W) (hn : numL W ≤ 9223372036854775808) (hm : bAt s 0 = 45 ∨ numL W < 9223372036854775808) :
    decimal_Whole_s s = some (if bAt s 0 = 45 then -numL W else numL W, true) := by
  have hW : W.length < 200000000000000 := by
    have h1 := size_of_list ht
    rw [byteD_len] at h1
    have h2 : (progS s).int.size ≤ s.size := by
      show (s.extract _ _).size ≤ _
      rw [ByteArray.size_extract]; omega
    omega
  have h0 := p_whole0 ht hd hW hn W [] rfl
  have hsz : (progS s).int.size = W.length := by rw [size_of_list ht, byteD_len]
  rw [show numL [] = 0 from rfl, show (([] : List Int).length : Int) = 0 from rfl] at h0
  have hnn := numL_nonneg hd
  unfold decimal_Whole_s
  rw [p_read s (by omega), Option.bind_some, progAll_ok hr, hr]
  dsimp only [num]
  rw [hp]
  simp only [Bool.not_true, Bool.or_false, cond_false]
  rw [hsz, h0, Option.bind_some]
  simp only [Sum.elim_inr]
  rw [show (progS s).minus = decide (bAt s 0 = 45) from rfl]
  by_cases h : bAt s 0 = 45
  · rw [decide_eq_true h, if_pos h]
    simp only [Bool.not_true, Bool.false_and, cond_false, cond_true]
    unfold w64
    rw [IntKind.wrap_i64]
    congr 2
    omega
  · rw [decide_eq_false h, if_neg h]
    simp only [Bool.not_false, Bool.true_and, cond_false]
    rcases hm with hm | hm
    · exact (h hm).elim
    · rw [decide_eq_false (by omega), cond_false]
      unfold w64
      rw [IntKind.wrap_i64]
      congr 2
      omega
theorem nt12 : NumTxt t12 [1, 2] [] := ⟨rfl, fun d hd => by simp at hd; omega, fun d hd => by simp at hd, by simp, .inl (by decide)⟩
theorem nt05 : NumTxt t05 [0] [5] := ⟨rfl, fun d hd => by simp at hd; omega, fun d hd => by simp at hd; omega, by simp, .inr rfl⟩
theorem near_05 : IsNear (keyS t05) 1056964608 := by
  have na := norm_key t05
  have hf : Fits 150 (keyS t05) := by rw [key_05]; right; decide
  have hv : valK 150 (keyS t05) = 5 * 10 ^ 149 := by rw [key_05]; decide
  have c : ∀ b, cmpK (keyS t05) (midK b) = sgn (5 * 10 ^ 149 - (midV b : Int) * (unitK 150 150 : Int)) := fun b => by
    obtain ⟨e1, e2⟩ := val_mid b (K := 150) (Q := 150) rfl (Nat.le_refl _)
    rw [cmpK_val na (mid_norm b) hf e2, e1, hv]
  have h1 : cmpK (keyS t05) (midK 1056964608) < 0 := by
    rw [c, sgn_ltz]
    decide
  have h2 : 0 < cmpK (keyS t05) (midK 1056964607) := by
    rw [c, sgn_of_gt]
    · decide
    · decide
  have := near_of na (b := 1056964608) (by omega) (.inr (by omega)) (.inr (by rw [show 1056964608 - 1 = 1056964607 by omega]; omega))
  rw [if_neg (by omega), if_neg (by omega)] at this
  exact this
theorem exact_05 : exactS 1056964608 = t05 := by
  have e1 : partF 1056964608 = 8388608 := by decide
  have e2 : partX 1056964608 = -24 := by decide
  have hM : M2 8388608 (-24) = 500000000000000000000000 := by decide
  unfold exactS sgnB
  rw [if_neg (by decide), if_neg (by decide), none_app, e1, e2, decT_ref]
  unfold dsM offM
  rw [hM, dg_eq 24 _ (by decide)]
  decide
theorem p_started : signetlaw2_started_s = some true := by
  have w12 : decimal_Whole_s (⟨#[45, 49, 50]⟩ : ByteArray) = some (-12, true) := by
    have hm : bAt t12 0 ≠ 45 := nt_minus nt12
    have hneg : (⟨#[45, 49, 50]⟩ : ByteArray) = negT t12 := by decide
    have hpr := neg_prog hm
    rw [hneg]
    have hint : (progS (negT t12)).int.data.toList = byteD [1, 2] := by
      rw [hpr]
      show (t12.extract (atA t12) (atB t12)).data.toList = _
      rw [nt_atA nt12, nt_atB nt12]
      decide
    have hpl : (progS (negT t12)).plain = true := by
      rw [hpr]
      show (!dotS t12 && !expS t12) = true
      rw [nt_dotS nt12, nt_expS nt12]
      decide
    have := p_Whole (s := negT t12) (by rw [neg_size]; decide) (by rw [neg_ok hm]; exact ok_12) hpl hint (fun d hd => by simp at hd; omega) (by decide) (.inl (bAt_neg0 _))
    rw [this, if_pos (bAt_neg0 _)]
    rfl
  have hc := p_Compare t1e2 t995 (by decide) (by decide)
  have u1 : upS t1e2 = false := by
    unfold upS
    rw [show (progS t1e2).minus = false from by decide, Bool.false_and]
  have u2 : upS t995 = false := by
    unfold upS
    rw [show (progS t995).minus = false from by decide, Bool.false_and]
  rw [ok_1e2, ok_995, u1, u2, sizeS_key, key_1e2, key_995, show cmpV false false (cmpK ⟨[1], 3⟩ ⟨[9, 9, 5], 2⟩) = 1 by decide, if_pos (by decide)] at hc
  have hn := p_Nearest t05 (by decide) near_05
  rw [ok_05, if_pos rfl, show minusS t05 = 0 by decide] at hn
  have hv1 := p_Valid t15e3 (by decide)
  have hv2 := p_Valid t1d (by decide)
  rw [ok_15e3] at hv1
  rw [ok_1d] at hv2
  have he := p_Exact (b := 1056964608) (by decide)
  rw [exact_05] at he
  unfold signetlaw2_started_s
  rw [w12, Option.bind_some, show (⟨#[49, 101, 50]⟩ : ByteArray) = t1e2 from rfl, show (⟨#[57, 57, 46, 53]⟩ : ByteArray) = t995 from rfl, hc, Option.bind_some]
  rw [show (⟨#[48, 46, 53]⟩ : ByteArray) = t05 from rfl, hn, Option.bind_some, show (⟨#[49, 46, 53, 101, 45, 51]⟩ : ByteArray) = t15e3 from rfl, hv1, Option.bind_some, cond_true]
  rw [show (⟨#[49, 46]⟩ : ByteArray) = t1d from rfl, hv2, Option.bind_some]
  rw [show (1056964608 : Int) = ((1056964608 : Nat) : Int) from rfl, he]
  rfl
end Go.Proofs.YtdibapfehdhfjaaDoor
