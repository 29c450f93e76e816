/-
  The exact texts of float32s: what the program writes, what the document writes. No program.
-/
import Derived.Test.YtdibapfehdhfjaaDoorPDecTwice
namespace Go.Proofs.YtdibapfehdhfjaaDoor
open Go.Eng
set_option linter.unusedVariables false
set_option linter.unusedSimpArgs false

theorem bitAnd_u32 {n m : Nat} (hn : n < 4294967296) (hm : m < 4294967296) : bitAnd .u32 (n : Int) (m : Int) = ((n &&& m : Nat) : Int) := by
  have h1 : (BitVec.ofInt 32 (n : Int)).toNat = n := by
    rw [BitVec.ofInt_natCast, BitVec.toNat_ofNat, Nat.mod_eq_of_lt (by omega)]
  have h2 : (BitVec.ofInt 32 (m : Int)).toNat = m := by
    rw [BitVec.ofInt_natCast, BitVec.toNat_ofNat, Nat.mod_eq_of_lt (by omega)]
  unfold bitAnd
  show IntKind.u32.wrap ((BitVec.ofInt 32 (n : Int) &&& BitVec.ofInt 32 (m : Int)).toNat : Int) = _
  rw [BitVec.toNat_and, h1, h2, u32_eq]
  have : n &&& m ≤ n := Nat.and_le_left
  omega
theorem bitOr_u64 {n : Nat} (hn : n < 8388608) : bitOr .u64 (n : Int) 8388608 = ((n + 8388608 : Nat) : Int) := by
  have h1 : (BitVec.ofInt 64 (n : Int)).toNat = n := by
    rw [BitVec.ofInt_natCast, BitVec.toNat_ofNat, Nat.mod_eq_of_lt (by omega)]
  have h2 : (BitVec.ofInt 64 (8388608 : Int)).toNat = 8388608 := by decide
  unfold bitOr
  show IntKind.u64.wrap ((BitVec.ofInt 64 (n : Int) ||| BitVec.ofInt 64 (8388608 : Int)).toNat : Int) = _
  have h3 := Nat.two_pow_add_eq_or_of_lt (i := 23) (b := n) (by omega) 1
  rw [BitVec.toNat_or, h1, h2, u64_eq, Nat.or_comm]
  rw [show (2 : Nat) ^ 23 * 1 = 8388608 by decide] at h3
  rw [← h3]
  omega
theorem and255 {b : Nat} (hb : b < 4294967296) : bitAnd .u32 ((b : Int) / 8388608) 255 = ((b / 8388608 % 256 : Nat) : Int) := by
  rw [show (b : Int) / 8388608 = ((b / 8388608 : Nat) : Int) by omega, show (255 : Int) = ((255 : Nat) : Int) from rfl, bitAnd_u32 (by omega) (by omega)]
  congr 1
  exact Nat.and_two_pow_sub_one_eq_mod _ 8
theorem and23 {b : Nat} (hb : b < 4294967296) : bitAnd .u32 (b : Int) 8388607 = ((b % 8388608 : Nat) : Int) := by
  rw [show (8388607 : Int) = ((8388607 : Nat) : Int) from rfl, bitAnd_u32 (by omega) (by omega)]
  congr 1
  exact Nat.and_two_pow_sub_one_eq_mod _ 23
theorem and31 {b : Nat} (hb : b < 4294967296) : bitAnd .u32 (b : Int) 2147483647 = ((b % 2147483648 : Nat) : Int) := by
  rw [show (2147483647 : Int) = ((2147483647 : Nat) : Int) from rfl, bitAnd_u32 (by omega) (by omega)]
  congr 1
  exact Nat.and_two_pow_sub_one_eq_mod _ 31
theorem andInf {b : Nat} (hb : b < 4294967296) : bitAnd .u32 (b : Int) 2139095040 = ((b / 8388608 % 256 * 8388608 : Nat) : Int) := by
  rw [show (2139095040 : Int) = ((2139095040 : Nat) : Int) from rfl, bitAnd_u32 (by omega) (by omega)]
  congr 1
  have h1 : (b &&& 2139095040) / 2 ^ 23 = b / 2 ^ 23 &&& 2139095040 / 2 ^ 23 := Nat.and_div_two_pow ..
  have h2 : (b &&& 2139095040) % 2 ^ 23 = (b % 2 ^ 23) &&& (2139095040 % 2 ^ 23) := Nat.and_mod_two_pow ..
  rw [show 2139095040 / 2 ^ 23 = 2 ^ 8 - 1 by decide, Nat.and_two_pow_sub_one_eq_mod] at h1
  rw [show 2139095040 % 2 ^ 23 = 0 by decide, Nat.and_zero] at h2
  generalize b &&& 2139095040 = q at *
  omega
theorem andSgn {b : Nat} (hb : b < 4294967296) : bitAnd .u32 (b : Int) 2147483648 = ((b / 2147483648 % 2 * 2147483648 : Nat) : Int) := by
  rw [show (2147483648 : Int) = ((2147483648 : Nat) : Int) from rfl, bitAnd_u32 (by omega) (by omega)]
  congr 1
  have h1 : (b &&& 2147483648) / 2 ^ 31 = b / 2 ^ 31 &&& 2147483648 / 2 ^ 31 := Nat.and_div_two_pow ..
  have h2 : (b &&& 2147483648) % 2 ^ 31 = (b % 2 ^ 31) &&& (2147483648 % 2 ^ 31) := Nat.and_mod_two_pow ..
  rw [show 2147483648 / 2 ^ 31 = 2 ^ 1 - 1 by decide, Nat.and_two_pow_sub_one_eq_mod] at h1
  rw [show 2147483648 % 2 ^ 31 = 0 by decide, Nat.and_zero] at h2
  generalize b &&& 2147483648 = q at *
  omega
/-- A float32's value is f times 2 to the power of x. -/
def partF (b : Nat) : Nat := if b / 8388608 % 256 = 0 then b % 8388608 else b % 8388608 + 8388608
def partX (b : Nat) : Int := if b / 8388608 % 256 = 0 then -149 else ((b / 8388608 % 256 : Nat) : Int) - 150
theorem part_range (b : Nat) : partF b < 16777216 ∧ -149 ≤ partX b ∧ partX b ≤ 105 := by
  unfold partF partX
  split <;> omega
theorem p_parts {b : Nat} (hb : b < 4294967296) : decimal_parts_s b = some ((partF b : Int), partX b) := by
  unfold decimal_parts_s
  rw [and255 hb, and23 hb]
  refine (gd_pos (by decide) _).trans ?_
  refine (gd_pos (by unfold InI64; omega) _).trans ?_
  unfold partF partX
  by_cases h : b / 8388608 % 256 = 0
  · rw [decide_eq_true (by omega), cond_true, if_pos h, if_pos h]
    congr 2
    omega
  · rw [decide_eq_false (by omega), cond_false, if_neg h, if_neg h]
    refine (gd_pos (by unfold InI64; omega) _).trans ?_
    rw [show ((b % 8388608 : Nat) : Int) % 18446744073709551616 = ((b % 8388608 : Nat) : Int) by omega, bitOr_u64 (by omega)]
theorem p_Parts {b : Nat} (hb : b < 4294967296) : signetref2_Parts_s b = some ((partF b : Int), partX b) := by
  unfold signetref2_Parts_s
  rw [and255 hb, and23 hb]
  refine (gd_pos (by decide) _).trans ?_
  refine (gd_pos (by unfold InI64; omega) _).trans ?_
  refine (gd_pos (by unfold InI64; omega) _).trans ?_
  unfold partF partX
  by_cases h : b / 8388608 % 256 = 0
  · rw [decide_eq_true (by omega), cond_true, if_pos h, if_pos h]
  · rw [decide_eq_false (by omega), cond_false, if_neg h, if_neg h]
    refine (gd_pos (by unfold InI64; omega) _).trans ?_
    refine (gd_pos (by unfold InI64; omega) _).trans ?_
    congr 2
theorem none_app (t : ByteArray) : (⟨#[]⟩ : ByteArray) ++ t = t := by
  apply ByteArray.ext
  rw [ByteArray.data_append]
  simp
def sgnB (b : Nat) : ByteArray := if b / 2147483648 = 1 then ⟨#[45]⟩ else ⟨#[]⟩
/-- The exact text of a float32. -/
def exactS (b : Nat) : ByteArray := if b / 8388608 % 256 = 255 then ⟨#[]⟩ else sgnB b ++ decT (partF b) (partX b)
theorem p_Exact {b : Nat} (hb : b < 4294967296) : decimal_Exact_s b = some (exactS b) := by
  obtain ⟨h1, h2, h3⟩ := part_range b
  unfold decimal_Exact_s exactS
  rw [andInf hb, andSgn hb, p_parts hb]
  by_cases h : b / 8388608 % 256 = 255
  · rw [decide_eq_true (by omega), cond_true, if_pos h]
  · rw [decide_eq_false (by omega), cond_false, if_neg h, Option.bind_some]
    dsimp only
    rw [p_decimal _ _ (by omega) (by omega), Option.bind_some]
    have hs := decT_size (partF b) (partX b) (by omega) (by omega)
    unfold sgnB
    by_cases hm : b / 2147483648 = 1
    · rw [decide_eq_false (by omega), Bool.not_false, cond_true, if_pos hm]
      refine (gd_pos (by rw [show (⟨#[45]⟩ : ByteArray).size = 1 from rfl]; omega) _).trans rfl
    · rw [decide_eq_true (by omega), Bool.not_true, cond_false, if_neg hm, none_app]

theorem digit_text (d : Int) (h : 0 ≤ d ∧ d ≤ 9) : (⟨#[48, 49, 50, 51, 52, 53, 54, 55, 56, 57]⟩ : ByteArray).extract (Int.toNat d) (Int.toNat (d + 1)) = mkB [chr d] := by
  have key : ∀ n : Fin 10, (⟨#[48, 49, 50, 51, 52, 53, 54, 55, 56, 57]⟩ : ByteArray).extract n.1 (n.1 + 1) = mkB [chr (n.1 : Int)] := by decide
  have := key ⟨d.toNat, by omega⟩
  simp only at this
  rw [show Int.toNat (d + 1) = d.toNat + 1 by omega, this, show ((d.toNat : Nat) : Int) = d by omega]
section
variable {ds : List Int} (hd : Dig ds)
include hd
omit hd in
theorem p_ex3 (hne : ds ≠ []) (s : ByteArray) (hs : s.size < 1000000000) (d : Int) (h : 0 ≤ d ∧ d ≤ 9) : signetref2_Exact_p3 s d ds = some (s ++ mkB [chr d]) := by
  have : 0 < ds.length := List.length_pos_iff.2 hne
  unfold signetref2_Exact_p3
  rw [decide_eq_true (by omega), cond_true, digit_text d h]
  refine (gd_pos (by unfold InI64; omega) _).trans ?_
  refine (gd_pos (by rw [show (⟨#[48, 49, 50, 51, 52, 53, 54, 55, 56, 57]⟩ : ByteArray).size = 10 from rfl]; omega) _).trans ?_
  refine (gd_pos (by rw [mkB_size]; simp only [List.length_cons, List.length_nil]; omega) _).trans rfl
theorem getD_dig (i : Nat) : 0 ≤ ds.getD i 0 ∧ ds.getD i 0 ≤ 9 := by
  rw [List.getD_eq_getElem?_getD]
  cases h : ds[i]? with
  | none => simp
  | some d => exact hd d (List.mem_of_getElem? h)
theorem p_ex2 (hne : ds ≠ []) (off : Int) (hof : off < 1000000000) : ∀ (k i : Nat) (s : ByteArray), ((i + k : Nat) : Int) = off → s.size + k < 1000000000 → signetref2_Exact_p2 s i off ds = some (s ++ mkB (byteD ((List.range' i k).map fun j => ds.getD j 0)))
  | 0, i, s, hi, hs => by
    unfold signetref2_Exact_p2
    refine whileO_inr ?_
    unfold signetref2_Exact_p2_step
    rw [decide_eq_false (by simp only; omega), cond_false]
    have : s ++ mkB [] = s := by
      conv => lhs; rw [← mkB_list s, mkB_app, List.append_nil, mkB_list]
    simp [byteD, this]
  | k + 1, i, s, hi, hs => by
    have hdd := getD_dig hd i
    have hsz : (s ++ mkB [chr (ds.getD i 0)]).size = s.size + 1 := by rw [ByteArray.size_append, mkB_size]; rfl
    have ih := p_ex2 hne off hof k (i + 1) (s ++ mkB [chr (ds.getD i 0)]) (by omega) (by omega)
    have e : byteD ((List.range' i (k + 1)).map fun j => ds.getD j 0) = [chr (ds.getD i 0)] ++ byteD ((List.range' (i + 1) k).map fun j => ds.getD j 0) := by
      rw [List.range'_succ, List.map_cons]
      rfl
    unfold signetref2_Exact_p2 at ih ⊢
    rw [whileO_inl (y := (s ++ mkB [chr (ds.getD i 0)], ((i + 1 : Nat) : Int))) ?_, ih, e, ← mkB_app, ByteArray.append_assoc]
    unfold signetref2_Exact_p2_step
    simp only
    rw [decide_eq_true (by omega), cond_true]
    by_cases hl : i < ds.length
    · rw [decide_eq_true (by omega), cond_true]
      have hg : ds.getD (Int.toNat (i : Int)) (ET.dft .i64) = ds.getD i 0 := by rw [Int.toNat_natCast]; rfl
      refine (gd_pos (by omega) _).trans ?_
      refine (gd_pos (by omega) _).trans ?_
      rw [hg, p_ex3 hne s (by omega) _ hdd, Option.bind_some]
      refine (gd_pos (by unfold InI64; omega) _).trans rfl
    · rw [decide_eq_false (by omega), cond_false]
      have h0 : ds.getD i 0 = 0 := by
        rw [List.getD_eq_getElem?_getD, List.getElem?_eq_none (by omega)]
        rfl
      rw [h0, p_ex3 hne s (by omega) 0 (by omega), Option.bind_some]
      refine (gd_pos (by unfold InI64; omega) _).trans rfl
theorem p_ex5 (hne : ds ≠ []) (hl : ds.length < 1000000000) (off : Int) : ∀ (k i : Nat) (s : ByteArray), i + k = ds.length → s.size + k < 1000000000 → signetref2_Exact_p5 s i off ds = some (s ++ mkB (byteD (ds.drop (max i off.toNat))))
  | 0, i, s, hi, hs => by
    unfold signetref2_Exact_p5
    refine whileO_inr ?_
    unfold signetref2_Exact_p5_step
    rw [decide_eq_false (by simp only; omega), cond_false]
    have : s ++ mkB [] = s := by
      conv => lhs; rw [← mkB_list s, mkB_app, List.append_nil, mkB_list]
    rw [List.drop_eq_nil_of_le (by omega)]
    simp [byteD, this]
  | k + 1, i, s, hi, hs => by
    have hdd := getD_dig hd i
    by_cases ho : off ≤ i
    · have hsz : (s ++ mkB [chr (ds.getD i 0)]).size = s.size + 1 := by rw [ByteArray.size_append, mkB_size]; rfl
      have ih := p_ex5 hne hl off k (i + 1) (s ++ mkB [chr (ds.getD i 0)]) (by omega) (by omega)
      have e : byteD (ds.drop (max i off.toNat)) = [chr (ds.getD i 0)] ++ byteD (ds.drop (max (i + 1) off.toNat)) := by
        rw [show max i off.toNat = i by omega, show max (i + 1) off.toNat = i + 1 by omega, List.drop_eq_getElem_cons (by omega)]
        have : ds.getD i 0 = ds[i]'(by omega) := by rw [List.getD_eq_getElem?_getD, List.getElem?_eq_getElem (by omega)]; rfl
        rw [this]
        rfl
      unfold signetref2_Exact_p5 at ih ⊢
      rw [whileO_inl (y := (s ++ mkB [chr (ds.getD i 0)], ((i + 1 : Nat) : Int))) ?_, ih, e, ← mkB_app, ByteArray.append_assoc]
      unfold signetref2_Exact_p5_step
      have hg : ds.getD (Int.toNat (i : Int)) (ET.dft .i64) = ds.getD i 0 := by rw [Int.toNat_natCast]; rfl
      simp only [hg]
      rw [decide_eq_true (by omega), cond_true, decide_eq_true ho, cond_true, digit_text _ hdd]
      refine (gd_pos (by omega) _).trans ?_
      refine (gd_pos (by omega) _).trans ?_
      refine (gd_pos (by omega) _).trans ?_
      refine (gd_pos (by omega) _).trans ?_
      refine (gd_pos (by unfold InI64; omega) _).trans ?_
      refine (gd_pos (by rw [show (⟨#[48, 49, 50, 51, 52, 53, 54, 55, 56, 57]⟩ : ByteArray).size = 10 from rfl]; omega) _).trans ?_
      refine (gd_pos (by rw [mkB_size]; simp only [List.length_cons, List.length_nil]; omega) _).trans ?_
      refine (gd_pos (by unfold InI64; omega) _).trans rfl
    · have ih := p_ex5 hne hl off k (i + 1) s (by omega) (by omega)
      unfold signetref2_Exact_p5 at ih ⊢
      rw [whileO_inl (y := (s, ((i + 1 : Nat) : Int))) ?_, ih, show max (i + 1) off.toNat = max i off.toNat by omega]
      unfold signetref2_Exact_p5_step
      simp only
      rw [decide_eq_true (by omega), cond_true, decide_eq_false ho, cond_false]
      refine (gd_pos (by unfold InI64; omega) _).trans rfl
end
theorem p_ex4 : ∀ (k : Nat) (s : ByteArray), s.size + k < 1000000000 → signetref2_Exact_p4 s (-(k : Int)) = some (s ++ mkB (byteD (List.replicate k 0)))
  | 0, s, hs => by
    unfold signetref2_Exact_p4
    refine whileO_inr ?_
    unfold signetref2_Exact_p4_step
    rw [decide_eq_false (by simp only; omega), cond_false]
    have : s ++ mkB [] = s := by
      conv => lhs; rw [← mkB_list s, mkB_app, List.append_nil, mkB_list]
    simp [byteD, this]
  | k + 1, s, hs => by
    have hsz : (s ++ mkB [48]).size = s.size + 1 := by rw [ByteArray.size_append, mkB_size]; rfl
    have ih := p_ex4 k (s ++ mkB [48]) (by omega)
    have e : byteD (List.replicate (k + 1) 0) = [48] ++ byteD (List.replicate k 0) := by
      rw [List.replicate_succ]
      rfl
    unfold signetref2_Exact_p4 at ih ⊢
    rw [whileO_inl (y := (s ++ mkB [48], -(k : Int))) ?_, ih, e, ← mkB_app, ByteArray.append_assoc]
    unfold signetref2_Exact_p4_step
    simp only
    rw [decide_eq_true (by omega), cond_true]
    refine (gd_pos (by rw [show (⟨#[48]⟩ : ByteArray).size = 1 from rfl]; omega) _).trans ?_
    refine (gd_pos (by unfold InI64; omega) _).trans ?_
    rw [show -((k + 1 : Nat) : Int) + 1 = -(k : Int) by omega]
    rfl
theorem app_nil (s : ByteArray) : s ++ mkB [] = s := by
  conv => lhs; rw [← mkB_list s, mkB_app, List.append_nil, mkB_list]
/-- What is written behind what stands there. -/
theorem p_ex1 {ds : List Int} (hd : Dig ds) (hl : ds.length < 10000) (off : Int) (ho : -10000 < off ∧ off < 10000) (s : ByteArray) (hs : s.size < 10000) :
    signetref2_Exact_p1 s off ds = some (s ++ mkB (byteD (if off ≤ 0 ∨ ds = [] then [] else takeP ds off.toNat) ++ dotF (refF ds off))) := by
  unfold signetref2_Exact_p1
  have h2 : signetref2_Exact_p2 s 0 off ds = some (s ++ mkB (byteD (if off ≤ 0 ∨ ds = [] then [] else takeP ds off.toNat))) := by
    by_cases h : off ≤ 0
    · rw [if_pos (.inl h)]
      unfold signetref2_Exact_p2
      rw [show mkB (byteD []) = mkB [] from rfl, app_nil]
      refine whileO_inr ?_
      unfold signetref2_Exact_p2_step
      rw [decide_eq_false (by simp only; omega), cond_false]
    · by_cases hn : ds = []
      · subst hn
        rw [if_pos (.inr rfl), show mkB (byteD []) = mkB [] from rfl, app_nil]
        unfold signetref2_Exact_p2
        refine whileO_rule (fun x : ByteArray × Int => x.1 = s ∧ 0 ≤ x.2 ∧ x.2 ≤ off) (fun x => (off - x.2).toNat) (fun _ => s) ?_ ⟨rfl, by simp only; omega, by simp only; omega⟩
        rintro ⟨t, i⟩ ⟨h1, h2, h3⟩
        simp only at h1 h2 h3
        subst h1
        unfold signetref2_Exact_p2_step
        by_cases hi : i < off
        · left
          refine ⟨(t, i + 1), ?_, ⟨rfl, by simp only; omega, by simp only; omega⟩, by simp only; omega, rfl⟩
          simp only
          rw [decide_eq_true hi, cond_true, decide_eq_false (by simp; omega), cond_false]
          unfold signetref2_Exact_p3
          rw [decide_eq_false (by simp), cond_false, Option.bind_some]
          refine (gd_pos (by unfold InI64; omega) _).trans rfl
        · right
          simp only
          rw [decide_eq_false hi, cond_false]
      · rw [if_neg (by rintro (h1 | h1)
                       · exact h h1
                       · exact hn h1)]
        have := p_ex2 hd hn off (by omega) off.toNat 0 s (by omega) (by omega)
        rw [show ((0 : Nat) : Int) = 0 from rfl] at this
        rw [this]
        unfold takeP
        rw [List.range_eq_range']
  have hz : (s ++ mkB (byteD (if off ≤ 0 ∨ ds = [] then [] else takeP ds off.toNat))).size < 30000 := by
    rw [ByteArray.size_append, mkB_size, byteD_len]
    split
    · simp only [List.length_nil]; omega
    · rw [takeP_len]; omega
  rw [h2, Option.bind_some, ← mkB_app, ← ByteArray.append_assoc]
  generalize (s ++ mkB (byteD (if off ≤ 0 ∨ ds = [] then [] else takeP ds off.toNat))) = t at *
  unfold refF
  by_cases hc : off < ds.length ∧ ds ≠ []
  · have hlp : 0 < ds.length := List.length_pos_iff.2 hc.2
    rw [if_pos hc, decide_eq_true hc.1, decide_eq_true (by omega), Bool.and_true, cond_true]
    have hnn : List.replicate (-off).toNat 0 ++ ds.drop off.toNat ≠ [] := by
      intro h
      have := congrArg List.length (List.append_eq_nil_iff.1 h).2
      rw [List.length_drop, List.length_nil] at this
      omega
    unfold dotF
    rw [if_neg hnn]
    refine (gd_pos (by rw [show (⟨#[46]⟩ : ByteArray).size = 1 from rfl]; omega) _).trans ?_
    have hz1 : (t ++ (⟨#[46]⟩ : ByteArray)).size = t.size + 1 := by rw [ByteArray.size_append]; rfl
    have h4 : signetref2_Exact_p4 (t ++ (⟨#[46]⟩ : ByteArray)) off = some (t ++ (⟨#[46]⟩ : ByteArray) ++ mkB (byteD (List.replicate (-off).toNat 0))) := by
      by_cases h : off ≤ 0
      · have := p_ex4 (-off).toNat (t ++ (⟨#[46]⟩ : ByteArray)) (by omega)
        rw [show -(((-off).toNat : Nat) : Int) = off by omega] at this
        exact this
      · rw [show (-off).toNat = 0 by omega, show mkB (byteD (List.replicate 0 0)) = mkB [] from rfl, app_nil]
        unfold signetref2_Exact_p4
        refine whileO_inr ?_
        unfold signetref2_Exact_p4_step
        rw [decide_eq_false (by simp only; omega), cond_false]
    have hz2 : (t ++ (⟨#[46]⟩ : ByteArray) ++ mkB (byteD (List.replicate (-off).toNat 0))).size < 100000 := by
      rw [ByteArray.size_append, hz1, mkB_size, byteD_len, List.length_replicate]
      omega
    have h5 := p_ex5 hd hc.2 (by omega) off ds.length 0 _ (by omega) (show (t ++ (⟨#[46]⟩ : ByteArray) ++ mkB (byteD (List.replicate (-off).toNat 0))).size + ds.length < 1000000000 by omega)
    rw [show ((0 : Nat) : Int) = 0 from rfl, show max 0 off.toNat = off.toNat by omega] at h5
    rw [h4, Option.bind_some, h5, Option.bind_some]
    rw [show (⟨#[46]⟩ : ByteArray) = mkB [46] from rfl, ByteArray.append_assoc, ByteArray.append_assoc, mkB_app, mkB_app]
    unfold byteD
    rw [List.map_append]
    rfl
  · rw [if_neg hc]
    have : (decide (off < (ds.length : Int)) && decide ((0 : Int) < (ds.length : Int))) = false := by
      rw [Bool.and_eq_false_iff, decide_eq_false_iff_not, decide_eq_false_iff_not]
      by_cases h1 : off < ds.length
      · right
        intro h2
        exact hc ⟨h1, List.length_pos_iff.1 (by omega)⟩
      · exact .inl h1
    rw [this, cond_false]
    unfold dotF
    rw [if_pos rfl, app_nil]
theorem p_ex0 {b : Nat} (hb : b < 4294967296) (s : ByteArray) (hs : s.size < 1000) : signetref2_Exact_p0 b s = some (s ++ decT (partF b) (partX b)) := by
  obtain ⟨r1, r2, r3⟩ := part_range b
  have hM := M2_len (partF b) (partX b) (by omega) (by omega)
  have eF : partF (b % 2147483648) = partF b := by unfold partF; split <;> split <;> omega
  have eX : partX (b % 2147483648) = partX b := by unfold partX; split <;> split <;> omega
  unfold signetref2_Exact_p0
  rw [and31 hb, p_Parts (by omega), Option.bind_some, eF, eX, p_Twice _ _ (by omega) (by omega), Option.bind_some, decT_ref]
  simp only [twiceN]
  show (bif (decide (offM (partF b) (partX b) ≤ 0) || decide (((dsM (partF b) (partX b)).length : Int) = 0)) then _ else _) = _
  have hdl : (dsM (partF b) (partX b)).length ≤ 700 := by
    refine Nat.le_trans ?_ hM
    have : ∀ l : List Int, (trail l).length ≤ l.length := fun l => by
      induction l with
      | nil => exact Nat.le_refl _
      | cons x l ih =>
        simp only [trail]
        split
        · split <;> simp
        · rename_i y r h
          rw [h] at ih
          simp only [List.length_cons] at ih ⊢
          omega
    have h := this (dg (M2 (partF b) (partX b))).reverse
    rw [List.length_reverse] at h
    exact h
  have hof : -10000 < offM (partF b) (partX b) ∧ offM (partF b) (partX b) < 10000 := by unfold offM behindN; omega
  have hdg := dsM_dig (partF b) (partX b)
  generalize dsM (partF b) (partX b) = ds at *
  generalize offM (partF b) (partX b) = off at *
  by_cases h : off ≤ 0 ∨ ds = []
  · have : (decide (off ≤ 0) || decide ((ds.length : Int) = 0)) = true := by
      rw [Bool.or_eq_true, decide_eq_true_eq, decide_eq_true_eq]
      rcases h with h | h
      · exact .inl h
      · right; rw [h]; rfl
    rw [this, cond_true]
    refine (gd_pos (by rw [show (⟨#[48]⟩ : ByteArray).size = 1 from rfl]; omega) _).trans ?_
    rw [p_ex1 hdg (by omega) off hof _ (by rw [ByteArray.size_append, show (⟨#[48]⟩ : ByteArray).size = 1 from rfl]; omega), Option.bind_some, if_pos h]
    unfold refI
    rw [if_pos h, show (⟨#[48]⟩ : ByteArray) = mkB [48] from rfl, ByteArray.append_assoc, mkB_app]
    rfl
  · have : (decide (off ≤ 0) || decide ((ds.length : Int) = 0)) = false := by
      rw [Bool.or_eq_false_iff, decide_eq_false_iff_not, decide_eq_false_iff_not]
      exact ⟨fun h1 => h (.inl h1), fun h1 => h (.inr (List.eq_nil_of_length_eq_zero (by omega)))⟩
    rw [this, cond_false, p_ex1 hdg (by omega) off hof _ (by omega), Option.bind_some, if_neg h]
    unfold refI
    rw [if_neg h]
theorem p_RefExact {b : Nat} (hb : b < 4294967296) : signetref2_Exact_s b = some (exactS b) := by
  unfold signetref2_Exact_s exactS sgnB
  refine (gd_pos (by decide) _).trans ?_
  rw [and255 hb]
  by_cases h : b / 8388608 % 256 = 255
  · rw [decide_eq_true (by omega), cond_true, if_pos h]
  · rw [decide_eq_false (by omega), cond_false, if_neg h]
    refine (gd_pos (by decide) _).trans ?_
    by_cases hm : b / 2147483648 = 1
    · rw [decide_eq_true (by omega), cond_true, if_pos hm, p_ex0 hb _ (by decide), Option.bind_some]
    · rw [decide_eq_false (by omega), cond_false, if_neg hm, p_ex0 hb _ (by decide), Option.bind_some]
theorem decimalSays_plain {b : Nat} (hb : b < 4294967296) : signetlaw2_DecimalSays_s b = some true := by
  unfold signetlaw2_DecimalSays_s
  rw [p_Exact hb, Option.bind_some, p_RefExact hb, Option.bind_some, decide_eq_true rfl]
end Go.Proofs.YtdibapfehdhfjaaDoor
