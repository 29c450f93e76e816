/-
  The exact texts of float32s: what the program writes, what the document writes. No program.
-/
import Derived.Test.YtdibapfehdhfjaaDoorPDecBig
namespace Go.Proofs.YtdibapfehdhfjaaDoor
open Go.Eng
set_option linter.unusedVariables false
set_option linter.unusedSimpArgs false

theorem bitAnd_u32 {n m : Nat} (hn : n < 4294967296) (hm : m < 4294967296) : bitAnd .u32 (n : Int) (m : Int) = ((n &&& m : Nat) : Int) := by
  have h1 : (BitVec.ofInt 32 (n : Int)).toNat = n := by
    rw [BitVec.ofInt_natCast, BitVec.toNat_ofNat, Nat.mod_eq_of_lt (by omega)]
  have h2 : (BitVec.ofInt 32 (m : Int)).toNat = m := by
    rw [BitVec.ofInt_natCast, BitVec.toNat_ofNat, Nat.mod_eq_of_lt (by omega)]
  unfold bitAnd
  show IntKind.u32.wrap ((BitVec.ofInt 32 (n : Int) &&& BitVec.ofInt 32 (m : Int)).toNat : Int) = _
  rw [BitVec.toNat_and, h1, h2, u32_eq]
  have : n &&& m ≤ n := Nat.and_le_left
  omega
theorem bitOr_u64 {n : Nat} (hn : n < 8388608) : bitOr .u64 (n : Int) 8388608 = ((n + 8388608 : Nat) : Int) := by
  have h1 : (BitVec.ofInt 64 (n : Int)).toNat = n := by
    rw [BitVec.ofInt_natCast, BitVec.toNat_ofNat, Nat.mod_eq_of_lt (by omega)]
  have h2 : (BitVec.ofInt 64 (8388608 : Int)).toNat = 8388608 := by decide
  unfold bitOr
  show IntKind.u64.wrap ((BitVec.ofInt 64 (n : Int) ||| BitVec.ofInt 64 (8388608 : Int)).toNat : Int) = _
  have h3 := Nat.two_pow_add_eq_or_of_lt (i := 23) (b := n) (by omega) 1
  rw [BitVec.toNat_or, h1, h2, u64_eq, Nat.or_comm]
  rw [show (2 : Nat) ^ 23 * 1 = 8388608 by decide] at h3
  rw [← h3]
  omega
theorem and255 {b : Nat} (hb : b < 4294967296) : bitAnd .u32 ((b : Int) / 8388608) 255 = ((b / 8388608 % 256 : Nat) : Int) := by
  rw [show (b : Int) / 8388608 = ((b / 8388608 : Nat) : Int) by omega, show (255 : Int) = ((255 : Nat) : Int) from rfl, bitAnd_u32 (by omega) (by omega)]
  congr 1
  exact Nat.and_two_pow_sub_one_eq_mod _ 8
theorem and23 {b : Nat} (hb : b < 4294967296) : bitAnd .u32 (b : Int) 8388607 = ((b % 8388608 : Nat) : Int) := by
  rw [show (8388607 : Int) = ((8388607 : Nat) : Int) from rfl, bitAnd_u32 (by omega) (by omega)]
  congr 1
  exact Nat.and_two_pow_sub_one_eq_mod _ 23
theorem andInf {b : Nat} (hb : b < 4294967296) : bitAnd .u32 (b : Int) 2139095040 = ((b / 8388608 % 256 * 8388608 : Nat) : Int) := by
  rw [show (2139095040 : Int) = ((2139095040 : Nat) : Int) from rfl, bitAnd_u32 (by omega) (by omega)]
  congr 1
  have h1 : (b &&& 2139095040) / 2 ^ 23 = b / 2 ^ 23 &&& 2139095040 / 2 ^ 23 := Nat.and_div_two_pow ..
  have h2 : (b &&& 2139095040) % 2 ^ 23 = (b % 2 ^ 23) &&& (2139095040 % 2 ^ 23) := Nat.and_mod_two_pow ..
  rw [show 2139095040 / 2 ^ 23 = 2 ^ 8 - 1 by decide, Nat.and_two_pow_sub_one_eq_mod] at h1
  rw [show 2139095040 % 2 ^ 23 = 0 by decide, Nat.and_zero] at h2
  generalize b &&& 2139095040 = q at *
  omega
theorem andSgn {b : Nat} (hb : b < 4294967296) : bitAnd .u32 (b : Int) 2147483648 = ((b / 2147483648 % 2 * 2147483648 : Nat) : Int) := by
  rw [show (2147483648 : Int) = ((2147483648 : Nat) : Int) from rfl, bitAnd_u32 (by omega) (by omega)]
  congr 1
  have h1 : (b &&& 2147483648) / 2 ^ 31 = b / 2 ^ 31 &&& 2147483648 / 2 ^ 31 := Nat.and_div_two_pow ..
  have h2 : (b &&& 2147483648) % 2 ^ 31 = (b % 2 ^ 31) &&& (2147483648 % 2 ^ 31) := Nat.and_mod_two_pow ..
  rw [show 2147483648 / 2 ^ 31 = 2 ^ 1 - 1 by decide, Nat.and_two_pow_sub_one_eq_mod] at h1
  rw [show 2147483648 % 2 ^ 31 = 0 by decide, Nat.and_zero] at h2
  generalize b &&& 2147483648 = q at *
  omega
/-- A float32's value is f times 2 to the power of x. -/
def partF (b : Nat) : Nat := if b / 8388608 % 256 = 0 then b % 8388608 else b % 8388608 + 8388608
def partX (b : Nat) : Int := if b / 8388608 % 256 = 0 then -149 else ((b / 8388608 % 256 : Nat) : Int) - 150
theorem part_range (b : Nat) : partF b < 16777216 ∧ -149 ≤ partX b ∧ partX b ≤ 105 := by
  unfold partF partX
  split <;> omega
theorem p_parts {b : Nat} (hb : b < 4294967296) : decimal_parts_s b = some ((partF b : Int), partX b) := by
  unfold decimal_parts_s
  rw [and255 hb, and23 hb]
  refine (gd_pos (by decide) _).trans ?_
  refine (gd_pos (by unfold InI64; omega) _).trans ?_
  unfold partF partX
  by_cases h : b / 8388608 % 256 = 0
  · rw [decide_eq_true (by omega), cond_true, if_pos h, if_pos h]
    congr 2
    omega
  · rw [decide_eq_false (by omega), cond_false, if_neg h, if_neg h]
    refine (gd_pos (by unfold InI64; omega) _).trans ?_
    rw [show ((b % 8388608 : Nat) : Int) % 18446744073709551616 = ((b % 8388608 : Nat) : Int) by omega, bitOr_u64 (by omega)]
theorem none_app (t : ByteArray) : (⟨#[]⟩ : ByteArray) ++ t = t := by
  apply ByteArray.ext
  rw [ByteArray.data_append]
  simp
def sgnB (b : Nat) : ByteArray := if b / 2147483648 = 1 then ⟨#[45]⟩ else ⟨#[]⟩
/-- The exact text of a float32. -/
def exactS (b : Nat) : ByteArray := if b / 8388608 % 256 = 255 then ⟨#[]⟩ else sgnB b ++ decT (partF b) (partX b)
theorem p_Exact {b : Nat} (hb : b < 4294967296) : decimal_Exact_s b = some (exactS b) := by
  obtain ⟨h1, h2, h3⟩ := part_range b
  unfold decimal_Exact_s exactS
  rw [andInf hb, andSgn hb, p_parts hb]
  by_cases h : b / 8388608 % 256 = 255
  · rw [decide_eq_true (by omega), cond_true, if_pos h]
  · rw [decide_eq_false (by omega), cond_false, if_neg h, Option.bind_some]
    dsimp only
    rw [p_decimal _ _ (by omega) (by omega), Option.bind_some]
    have hs := decT_size (partF b) (partX b) (by omega) (by omega)
    unfold sgnB
    by_cases hm : b / 2147483648 = 1
    · rw [decide_eq_false (by omega), Bool.not_false, cond_true, if_pos hm]
      refine (gd_pos (by rw [show (⟨#[45]⟩ : ByteArray).size = 1 from rfl]; omega) _).trans rfl
    · rw [decide_eq_true (by omega), Bool.not_true, cond_false, if_neg hm, none_app]

theorem digit_text (d : Int) (h : 0 ≤ d ∧ d ≤ 9) : (⟨#[48, 49, 50, 51, 52, 53, 54, 55, 56, 57]⟩ : ByteArray).extract (Int.toNat d) (Int.toNat (d + 1)) = mkB [chr d] := by
  have key : ∀ n : Fin 10, (⟨#[48, 49, 50, 51, 52, 53, 54, 55, 56, 57]⟩ : ByteArray).extract n.1 (n.1 + 1) = mkB [chr (n.1 : Int)] := by decide
  have := key ⟨d.toNat, by omega⟩
  simp only at this
  rw [show Int.toNat (d + 1) = d.toNat + 1 by omega, this, show ((d.toNat : Nat) : Int) = d by omega]
section
variable {ds : List Int} (hd : Dig ds)
include hd
omit hd in
theorem p_ex3 (hne : ds ≠ []) (s : ByteArray) (hs : s.size < 1000000000) (d : Int) (h : 0 ≤ d ∧ d ≤ 9) : signetref2_Exact_p3 s d ds = some (s ++ mkB [chr d]) := by
  have : 0 < ds.length := List.length_pos_iff.2 hne
  unfold signetref2_Exact_p3
  rw [decide_eq_true (by omega), cond_true, digit_text d h]
  refine (gd_pos (by unfold InI64; omega) _).trans ?_
  refine (gd_pos (by rw [show (⟨#[48, 49, 50, 51, 52, 53, 54, 55, 56, 57]⟩ : ByteArray).size = 10 from rfl]; omega) _).trans ?_
  refine (gd_pos (by rw [mkB_size]; simp only [List.length_cons, List.length_nil]; omega) _).trans rfl
theorem getD_dig (i : Nat) : 0 ≤ ds.getD i 0 ∧ ds.getD i 0 ≤ 9 := by
  rw [List.getD_eq_getElem?_getD]
  cases h : ds[i]? with
  | none => simp
  | some d => exact hd d (List.mem_of_getElem? h)
theorem p_ex2 (hne : ds ≠ []) (off : Int) (hof : off < 1000000000) : ∀ (k i : Nat) (s : ByteArray), ((i + k : Nat) : Int) = off → s.size + k < 1000000000 → signetref2_Exact_p2 s i off ds = some (s ++ mkB (byteD ((List.range' i k).map fun j => ds.getD j 0)))
  | 0, i, s, hi, hs => by
    unfold signetref2_Exact_p2
    refine whileO_inr ?_
    unfold signetref2_Exact_p2_step
    rw [decide_eq_false (by simp only; omega), cond_false]
    have : s ++ mkB [] = s := by
      conv => lhs; rw [← mkB_list s, mkB_app, List.append_nil, mkB_list]
    simp [byteD, this]
  | k + 1, i, s, hi, hs => by
    have hdd := getD_dig hd i
    have hsz : (s ++ mkB [chr (ds.getD i 0)]).size = s.size + 1 := by rw [ByteArray.size_append, mkB_size]; rfl
    have ih := p_ex2 hne off hof k (i + 1) (s ++ mkB [chr (ds.getD i 0)]) (by omega) (by omega)
    have e : byteD ((List.range' i (k + 1)).map fun j => ds.getD j 0) = [chr (ds.getD i 0)] ++ byteD ((List.range' (i + 1) k).map fun j => ds.getD j 0) := by
      rw [List.range'_succ, List.map_cons]
      rfl
    unfold signetref2_Exact_p2 at ih ⊢
    rw [whileO_inl (y := (s ++ mkB [chr (ds.getD i 0)], ((i + 1 : Nat) : Int))) ?_, ih, e, ← mkB_app, ByteArray.append_assoc]
    unfold signetref2_Exact_p2_step
    simp only
    rw [decide_eq_true (by omega), cond_true]
    by_cases hl : i < ds.length
    · rw [decide_eq_true (by omega), cond_true]
      have hg : ds.getD (Int.toNat (i : Int)) (ET.dft .i64) = ds.getD i 0 := by rw [Int.toNat_natCast]; rfl
      refine (gd_pos (by omega) _).trans ?_
      refine (gd_pos (by omega) _).trans ?_
      rw [hg, p_ex3 hne s (by omega) _ hdd, Option.bind_some]
      refine (gd_pos (by unfold InI64; omega) _).trans rfl
    · rw [decide_eq_false (by omega), cond_false]
      have h0 : ds.getD i 0 = 0 := by
        rw [List.getD_eq_getElem?_getD, List.getElem?_eq_none (by omega)]
        rfl
      rw [h0, p_ex3 hne s (by omega) 0 (by omega), Option.bind_some]
      refine (gd_pos (by unfold InI64; omega) _).trans rfl
theorem p_ex5 (hne : ds ≠ []) (hl : ds.length < 1000000000) (off : Int) : ∀ (k i : Nat) (s : ByteArray), i + k = ds.length → s.size + k < 1000000000 → signetref2_Exact_p5 s i off ds = some (s ++ mkB (byteD (ds.drop (max i off.toNat))))
  | 0, i, s, hi, hs => by
    unfold signetref2_Exact_p5
    refine whileO_inr ?_
    unfold signetref2_Exact_p5_step
    rw [decide_eq_false (by simp only; omega), cond_false]
    have : s ++ mkB [] = s := by
      conv => lhs; rw [← mkB_list s, mkB_app, List.append_nil, mkB_list]
    rw [List.drop_eq_nil_of_le (by omega)]
    simp [byteD, this]
  | k + 1, i, s, hi, hs => by
    have hdd := getD_dig hd i
    by_cases ho : off ≤ i
    · have hsz : (s ++ mkB [chr (ds.getD i 0)]).size = s.size + 1 := by rw [ByteArray.size_append, mkB_size]; rfl
      have ih := p_ex5 hne hl off k (i + 1) (s ++ mkB [chr (ds.getD i 0)]) (by omega) (by omega)
      have e : byteD (ds.drop (max i off.toNat)) = [chr (ds.getD i 0)] ++ byteD (ds.drop (max (i + 1) off.toNat)) := by
        rw [show max i off.toNat = i by omega, show max (i + 1) off.toNat = i + 1 by omega, List.drop_eq_getElem_cons (by omega)]
        have : ds.getD i 0 = ds[i]'(by omega) := by rw [List.getD_eq_getElem?_getD, List.getElem?_eq_getElem (by omega)]; rfl
        rw [this]
        rfl
      unfold signetref2_Exact_p5 at ih ⊢
      rw [whileO_inl (y := (s ++ mkB [chr (ds.getD i 0)], ((i + 1 : Nat) : Int))) ?_, ih, e, ← mkB_app, ByteArray.append_assoc]
      unfold signetref2_Exact_p5_step
      have hg : ds.getD (Int.toNat (i : Int)) (ET.dft .i64) = ds.getD i 0 := by rw [Int.toNat_natCast]; rfl
      simp only [hg]
      rw [decide_eq_true (by omega), cond_true, decide_eq_true ho, cond_true, digit_text _ hdd]
      refine (gd_pos (by omega) _).trans ?_
      refine (gd_pos (by omega) _).trans ?_
      refine (gd_pos (by omega) _).trans ?_
      refine (gd_pos (by omega) _).trans ?_
      refine (gd_pos (by unfold InI64; omega) _).trans ?_
      refine (gd_pos (by rw [show (⟨#[48, 49, 50, 51, 52, 53, 54, 55, 56, 57]⟩ : ByteArray).size = 10 from rfl]; omega) _).trans ?_
      refine (gd_pos (by rw [mkB_size]; simp only [List.length_cons, List.length_nil]; omega) _).trans ?_
      refine (gd_pos (by unfold InI64; omega) _).trans rfl
    · have ih := p_ex5 hne hl off k (i + 1) s (by omega) (by omega)
      unfold signetref2_Exact_p5 at ih ⊢
      rw [whileO_inl (y := (s, ((i + 1 : Nat) : Int))) ?_, ih, show max (i + 1) off.toNat = max i off.toNat by omega]
      unfold signetref2_Exact_p5_step
      simp only
      rw [decide_eq_true (by omega), cond_true, decide_eq_false ho, cond_false]
      refine (gd_pos (by unfold InI64; omega) _).trans rfl
end
theorem p_ex4 : ∀ (k : Nat) (s : ByteArray), s.size + k < 1000000000 → signetref2_Exact_p4 s (-(k : Int)) = some (s ++ mkB (byteD (List.replicate k 0)))
  | 0, s, hs => by
    unfold signetref2_Exact_p4
    refine whileO_inr ?_
    unfold signetref2_Exact_p4_step
    rw [decide_eq_false (by simp only; omega), cond_false]
    have : s ++ mkB [] = s := by
      conv => lhs; rw [← mkB_list s, mkB_app, List.append_nil, mkB_list]
    simp [byteD, this]
  | k + 1, s, hs => by
    have hsz : (s ++ mkB [48]).size = s.size + 1 := by rw [ByteArray.size_append, mkB_size]; rfl
    have ih := p_ex4 k (s ++ mkB [48]) (by omega)
    have e : byteD (List.replicate (k + 1) 0) = [48] ++ byteD (List.replicate k 0) := by
      rw [List.replicate_succ]
      rfl
    unfold signetref2_Exact_p4 at ih ⊢
    rw [whileO_inl (y := (s ++ mkB [48], -(k : Int))) ?_, ih, e, ← mkB_app, ByteArray.append_assoc]
    unfold signetref2_Exact_p4_step
    simp only
    rw [decide_eq_true (by omega), cond_true]
    refine (gd_pos (by rw [show (⟨#[48]⟩ : ByteArray).size = 1 from rfl]; omega) _).trans ?_
    refine (gd_pos (by unfold InI64; omega) _).trans ?_
    rw [show -((k + 1 : Nat) : Int) + 1 = -(k : Int) by omega]
    rfl
theorem app_nil (s : ByteArray) : s ++ mkB [] = s := by
  conv => lhs; rw [← mkB_list s, mkB_app, List.append_nil, mkB_list]
/-- What is written behind what stands there. -/
theorem p_ex1 {ds : List Int} (hd : Dig ds) (hl : ds.length < 10000) (off : Int) (ho : -10000 < off ∧ off < 10000) (s : ByteArray) (hs : s.size < 10000) :
    signetref2_Exact_p1 s off ds = some (s ++ mkB (byteD (if off ≤ 0 ∨ ds = [] then [] else takeP ds off.toNat) ++ dotF (refF ds off))) := by
  unfold signetref2_Exact_p1
  have h2 : signetref2_Exact_p2 s 0 off ds = some (s ++ mkB (byteD (if off ≤ 0 ∨ ds = [] then [] else takeP ds off.toNat))) := by
    by_cases h : off ≤ 0
    · rw [if_pos (.inl h)]
      unfold signetref2_Exact_p2
      rw [show mkB (byteD []) = mkB [] from rfl, app_nil]
      refine whileO_inr ?_
      unfold signetref2_Exact_p2_step
      rw [decide_eq_false (by simp only; omega), cond_false]
    · by_cases hn : ds = []
      · subst hn
        rw [if_pos (.inr rfl), show mkB (byteD []) = mkB [] from rfl, app_nil]
        unfold signetref2_Exact_p2
        refine whileO_rule (fun x : ByteArray × Int => x.1 = s ∧ 0 ≤ x.2 ∧ x.2 ≤ off) (fun x => (off - x.2).toNat) (fun _ => s) ?_ ⟨rfl, by simp only; omega, by simp only; omega⟩
        rintro ⟨t, i⟩ ⟨h1, h2, h3⟩
        simp only at h1 h2 h3
        subst h1
        unfold signetref2_Exact_p2_step
        by_cases hi : i < off
        · left
          refine ⟨(t, i + 1), ?_, ⟨rfl, by simp only; omega, by simp only; omega⟩, by simp only; omega, rfl⟩
          simp only
          rw [decide_eq_true hi, cond_true, decide_eq_false (by simp; omega), cond_false]
          unfold signetref2_Exact_p3
          rw [decide_eq_false (by simp), cond_false, Option.bind_some]
          refine (gd_pos (by unfold InI64; omega) _).trans rfl
        · right
          simp only
          rw [decide_eq_false hi, cond_false]
      · rw [if_neg (by rintro (h1 | h1)
                       · exact h h1
                       · exact hn h1)]
        have := p_ex2 hd hn off (by omega) off.toNat 0 s (by omega) (by omega)
        rw [show ((0 : Nat) : Int) = 0 from rfl] at this
        rw [this]
        unfold takeP
        rw [List.range_eq_range']
  have hz : (s ++ mkB (byteD (if off ≤ 0 ∨ ds = [] then [] else takeP ds off.toNat))).size < 30000 := by
    rw [ByteArray.size_append, mkB_size, byteD_len]
    split
    · simp only [List.length_nil]; omega
    · rw [takeP_len]; omega
  rw [h2, Option.bind_some, ← mkB_app, ← ByteArray.append_assoc]
  generalize (s ++ mkB (byteD (if off ≤ 0 ∨ ds = [] then [] else takeP ds off.toNat))) = t at *
  unfold refF
  by_cases hc : off < ds.length ∧ ds ≠ []
  · have hlp : 0 < ds.length := List.length_pos_iff.2 hc.2
    rw [if_pos hc, decide_eq_true hc.1, decide_eq_true (by omega), Bool.and_true, cond_true]
    have hnn : List.replicate (-off).toNat 0 ++ ds.drop off.toNat ≠ [] := by
      intro h
      have := congrArg List.length (List.append_eq_nil_iff.1 h).2
      rw [List.length_drop, List.length_nil] at this
      omega
    unfold dotF
    rw [if_neg hnn]
    refine (gd_pos (by rw [show (⟨#[46]⟩ : ByteArray).size = 1 from rfl]; omega) _).trans ?_
    have hz1 : (t ++ (⟨#[46]⟩ : ByteArray)).size = t.size + 1 := by rw [ByteArray.size_append]; rfl
    have h4 : signetref2_Exact_p4 (t ++ (⟨#[46]⟩ : ByteArray)) off = some (t ++ (⟨#[46]⟩ : ByteArray) ++ mkB (byteD (List.replicate (-off).toNat 0))) := by
      by_cases h : off ≤ 0
      · have := p_ex4 (-off).toNat (t ++ (⟨#[46]⟩ : ByteArray)) (by omega)
        rw [show -(((-off).toNat : Nat) : Int) = off by omega] at this
        exact this
      · rw [show (-off).toNat = 0 by omega, show mkB (byteD (List.replicate 0 0)) = mkB [] from rfl, app_nil]
        unfold signetref2_Exact_p4
        refine whileO_inr ?_
        unfold signetref2_Exact_p4_step
        rw [decide_eq_false (by simp only; omega), cond_false]
    have hz2 : (t ++ (⟨#[46]⟩ : ByteArray) ++ mkB (byteD (List.replicate (-off).toNat 0))).size < 100000 := by
      rw [ByteArray.size_append, hz1, mkB_size, byteD_len, List.length_replicate]
      omega
    have h5 := p_ex5 hd hc.2 (by omega) off ds.length 0 _ (by omega) (show (t ++ (⟨#[46]⟩ : ByteArray) ++ mkB (byteD (List.replicate (-off).toNat 0))).size + ds.length < 1000000000 by omega)
    rw [show ((0 : Nat) : Int) = 0 from rfl, show max 0 off.toNat = off.toNat by omega] at h5
    rw [h4, Option.bind_some, h5, Option.bind_some]
    rw [show (⟨#[46]⟩ : ByteArray) = mkB [46] from rfl, ByteArray.append_assoc, ByteArray.append_assoc, mkB_app, mkB_app]
    unfold byteD
    rw [List.map_append]
    rfl
  · rw [if_neg hc]
    have : (decide (off < (ds.length : Int)) && decide ((0 : Int) < (ds.length : Int))) = false := by
      rw [Bool.and_eq_false_iff, decide_eq_false_iff_not, decide_eq_false_iff_not]
      by_cases h1 : off < ds.length
      · right
        intro h2
        exact hc ⟨h1, List.length_pos_iff.1 (by omega)⟩
      · exact .inl h1
    rw [this, cond_false]
    unfold dotF
    rw [if_pos rfl, app_nil]
end Go.Proofs.YtdibapfehdhfjaaDoor

/-
  The middles between float32s; the nearest float32 of a key. No program.
-/
namespace Go.Proofs.YtdibapfehdhfjaaDoor
open Go.Eng
set_option linter.unusedVariables false
set_option linter.unusedSimpArgs false

/-- The value of a float32 (its sign apart) in units of 2^-149. -/
def valB (b : Nat) : Nat := partF b * 2 ^ (partX b + 149).toNat
theorem valB_succ {b : Nat} (h : b < 2147483647) : valB (b + 1) = valB b + 2 ^ (partX b + 149).toNat := by
  unfold valB partF partX
  by_cases hm : b % 8388608 + 1 < 8388608
  · have e1 : (b + 1) / 8388608 % 256 = b / 8388608 % 256 := by omega
    have e2 : (b + 1) % 8388608 = b % 8388608 + 1 := by omega
    rw [e1, e2]
    split
    · rw [Nat.add_mul, Nat.one_mul]
    · rw [show b % 8388608 + 1 + 8388608 = b % 8388608 + 8388608 + 1 by omega, Nat.add_mul _ 1, Nat.one_mul]
  · have e1 : (b + 1) / 8388608 % 256 = b / 8388608 % 256 + 1 := by omega
    have e2 : (b + 1) % 8388608 = 0 := by omega
    have e3 : b % 8388608 = 8388607 := by omega
    rw [e1, e2, e3, if_neg (by omega), if_neg (by omega)]
    by_cases h0 : b / 8388608 % 256 = 0
    · rw [if_pos h0, if_pos h0, h0]
      decide
    · rw [if_neg h0, if_neg h0]
      obtain ⟨k, hk⟩ : ∃ k, b / 8388608 % 256 = k + 1 := ⟨b / 8388608 % 256 - 1, by omega⟩
      rw [hk, show (((k + 1 + 1 : Nat) : Int) - 150 + 149).toNat = k + 1 by omega, show (((k + 1 : Nat) : Int) - 150 + 149).toNat = k by omega, Nat.pow_succ]
      omega
/-- Twice the middle behind it. -/
def midV (b : Nat) : Nat := (2 * partF b + 1) * 2 ^ (partX b + 149).toNat
theorem midV_eq {b : Nat} (h : b < 2147483647) : midV b = valB b + valB (b + 1) := by
  rw [valB_succ h]
  unfold midV valB
  rw [Nat.add_mul, Nat.one_mul, Nat.mul_assoc]
  omega
theorem valB_lt {b : Nat} (h : b < 2147483647) : valB b < valB (b + 1) := by
  have := Nat.pow_pos (a := 2) (n := (partX b + 149).toNat) (by omega)
  rw [valB_succ h]; omega
theorem midV_lt {b : Nat} (h : b + 1 < 2147483647) : midV b < midV (b + 1) := by
  have h1 := valB_lt (b := b) (by omega)
  have h2 := valB_lt (b := b + 1) (by omega)
  rw [midV_eq (by omega), midV_eq h]
  omega
theorem midV_mono {b : Nat} : ∀ {c : Nat}, b < c → c < 2147483647 → midV b < midV c
  | 0, h, _ => by omega
  | c + 1, h, hc => by
    have h1 := midV_lt (b := c) hc
    by_cases hb : b = c
    · rw [hb]; exact h1
    · exact Nat.lt_trans (midV_mono (by omega) (by omega)) h1
/-- The key of the middle behind a float32. -/
def midK (b : Nat) : DKey := kN (M2 (2 * partF b + 1) (partX b - 1)) (behindN (partX b - 1))
theorem scale {f : Nat} {y : Int} {Q : Nat} (hy : -(Q : Int) ≤ y) {K : Nat} (hK : Q ≤ K) : M2 f y * 10 ^ (K - behindN y) = f * 2 ^ (y + Q).toNat * (5 ^ Q * 10 ^ (K - Q)) := by
  have hKe : (10 : Nat) ^ K = 10 ^ Q * 10 ^ (K - Q) := by rw [← Nat.pow_add]; congr 1; omega
  have ht : ∀ n : Nat, (10 : Nat) ^ n = 2 ^ n * 5 ^ n := fun n => by rw [← Nat.mul_pow]
  unfold M2 behindN
  by_cases h : 0 ≤ y
  · rw [if_pos h, show (-y).toNat = 0 by omega, Nat.sub_zero, hKe, ht Q, show (y + Q).toNat = y.toNat + Q by omega, Nat.pow_add 2]
    simp only [Nat.mul_assoc, Nat.mul_comm, Nat.mul_left_comm]
  · rw [if_neg h]
    obtain ⟨k, hk⟩ : ∃ k : Nat, (-y).toNat = k := ⟨_, rfl⟩
    have hk2 : k ≤ Q := by omega
    have h1 : (10 : Nat) ^ (K - k) = 10 ^ (Q - k) * 10 ^ (K - Q) := by rw [← Nat.pow_add]; congr 1; omega
    have h2 : (5 : Nat) ^ Q = 5 ^ k * 5 ^ (Q - k) := by rw [← Nat.pow_add]; congr 1; omega
    rw [hk, h1, ht (Q - k), h2, show (y + Q).toNat = Q - k by omega]
    simp only [Nat.mul_assoc, Nat.mul_comm, Nat.mul_left_comm]
def unitK (Q K : Nat) : Nat := 5 ^ Q * 10 ^ (K - Q)
theorem unitK_pos (Q K : Nat) : 0 < unitK Q K := Nat.mul_pos (Nat.pow_pos (by omega)) (Nat.pow_pos (by omega))
theorem val_mid (b : Nat) {K Q : Nat} (hQ : Q = 150) (hK : Q ≤ K) : valK K (midK b) = (midV b : Int) * (unitK Q K : Int) ∧ Fits K (midK b) := by
  obtain ⟨h1, h2, h3⟩ := part_range b
  obtain ⟨e1, e2⟩ := val_kN (M := M2 (2 * partF b + 1) (partX b - 1)) (b := behindN (partX b - 1)) (K := K) (by unfold behindN; omega)
  refine ⟨?_, e2⟩
  rw [show midK b = kN (M2 (2 * partF b + 1) (partX b - 1)) (behindN (partX b - 1)) from rfl, e1]
  have := scale (f := 2 * partF b + 1) (y := partX b - 1) (Q := Q) (by omega) hK
  rw [show partX b - 1 + (Q : Int) = partX b + 149 by omega] at this
  have h : (M2 (2 * partF b + 1) (partX b - 1) : Int) * 10 ^ (K - behindN (partX b - 1)) = ((M2 (2 * partF b + 1) (partX b - 1) * 10 ^ (K - behindN (partX b - 1)) : Nat) : Int) := by
    rw [Int.natCast_mul, Int.natCast_pow]; rfl
  rw [h, this, Int.natCast_mul]
  rfl
theorem mid_norm (b : Nat) : Norm (midK b) := norm_kN _ _
theorem mid_ne (b : Nat) : (midK b).ds ≠ [] := by
  intro h
  have := kN_nil.1 h
  unfold M2 at this
  split at this
  · have h2 := Nat.pow_pos (a := 2) (n := (partX b - 1).toNat) (by omega)
    have := Nat.mul_eq_zero.1 this
    omega
  · have h2 := Nat.pow_pos (a := 5) (n := (-(partX b - 1)).toNat) (by omega)
    have := Nat.mul_eq_zero.1 this
    omega
/-- A key among the middles: one number among theirs. -/
theorem cmp_mid {a : DKey} (na : Norm a) : ∃ A C : Int, 0 < C ∧ 0 ≤ A ∧ ∀ b, cmpK a (midK b) = sgn (A - (midV b : Int) * C) := by
  obtain ⟨Q, hQ⟩ : ∃ Q : Nat, Q = 150 := ⟨_, rfl⟩
  have hf : Fits (Q + (a.ds.length + a.pow.natAbs)) a := by
    unfold Fits
    right
    omega
  refine ⟨valK (Q + (a.ds.length + a.pow.natAbs)) a, (unitK Q (Q + (a.ds.length + a.pow.natAbs)) : Int), ?_, ?_, fun b => ?_⟩
  · exact Int.ofNat_lt.2 (unitK_pos _ _)
  · unfold valK
    refine (frac_lt na.dig ?_).1
    omega
  · obtain ⟨e1, e2⟩ := val_mid b (K := Q + (a.ds.length + a.pow.natAbs)) hQ (by omega)
    rw [cmpK_val na (mid_norm b) hf e2, e1]
/-- The nearest float32 of a key: the least one with the value not above the middle behind it. -/
def nearT (a : DKey) (b : Nat) : Prop := cmpK a (midK b) < 0 ∨ (cmpK a (midK b) = 0 ∧ b % 2 = 0)
structure IsNear (a : DKey) (b : Nat) : Prop where
  le : b ≤ 2139095040
  yes : b < 2139095040 → nearT a b
  no : ∀ c, c < b → ¬ nearT a c
theorem IsNear.unique {a : DKey} {b c : Nat} (h : IsNear a b) (h' : IsNear a c) : b = c := by
  rcases Nat.lt_trichotomy b c with hl | he | hl
  · exact (h'.no b hl (h.yes (by have := h'.le; omega))).elim
  · exact he
  · exact (h.no c hl (h'.yes (by have := h.le; omega))).elim
theorem mid_up {a : DKey} (na : Norm a) {b c : Nat} (h : b < c) (hc : c < 2147483647) : (cmpK a (midK b) ≤ 0 → cmpK a (midK c) < 0) ∧ (0 ≤ cmpK a (midK c) → 0 < cmpK a (midK b)) := by
  obtain ⟨A, C, h1, h2, h3⟩ := cmp_mid na
  have hv : (midV b : Int) < midV c := Int.ofNat_lt.2 (midV_mono h hc)
  have hm : (midV b : Int) * C < (midV c : Int) * C := Int.mul_lt_mul_of_pos_right hv h1
  rw [h3, h3]
  generalize (midV b : Int) * C = x at *
  generalize (midV c : Int) * C = y at *
  unfold sgn
  constructor
  · intro h
    split at h
    · rw [if_pos (by omega)]; omega
    · split at h
      · omega
      · rw [if_pos (by omega)]; omega
  · intro h
    split at h
    · omega
    · split at h
      · rw [if_neg (by omega), if_pos (by omega)]; omega
      · rw [if_neg (by omega), if_pos (by omega)]; omega
theorem near_of {a : DKey} (na : Norm a) {b : Nat} (hle : b ≤ 2139095040) (h1 : b = 2139095040 ∨ cmpK a (midK b) ≤ 0) (h2 : b = 0 ∨ 0 ≤ cmpK a (midK (b - 1))) :
    IsNear a (if 0 < b ∧ b % 2 = 1 ∧ cmpK a (midK (b - 1)) = 0 then b - 1 else if b < 2139095040 ∧ b % 2 = 1 ∧ cmpK a (midK b) = 0 then b + 1 else b) := by
  have low : ∀ {c d : Nat}, c < d → d < 2147483647 → 0 ≤ cmpK a (midK d) → ¬ nearT a c := fun {c d} hcd hd h hn => by
    have := (mid_up na hcd hd).2 h
    rcases hn with hn | hn <;> omega
  split
  · rename_i h
    obtain ⟨p1, p2, p3⟩ := h
    refine ⟨by omega, fun _ => .inr ⟨p3, by omega⟩, fun c hc => low hc (by omega) (by omega)⟩
  · rename_i hn1
    split
    · rename_i h
      obtain ⟨p1, p2, p3⟩ := h
      refine ⟨by omega, fun h => .inl ((mid_up na (Nat.lt_succ_self b) (by omega)).1 (by omega)), fun c hc => ?_⟩
      rcases Nat.lt_or_ge c b with h | h
      · exact low h (by omega) (by omega)
      · have : c = b := by omega
        subst this
        rintro (h | h) <;> omega
    · rename_i hn2
      refine ⟨hle, fun h => ?_, fun c hc => ?_⟩
      · rcases h1 with h1 | h1
        · omega
        · by_cases h0 : cmpK a (midK b) = 0
          · refine .inr ⟨h0, ?_⟩
            by_cases h5 : b % 2 = 1
            · exact (hn2 ⟨h, h5, h0⟩).elim
            · omega
          · exact .inl (by omega)
      · rcases h2 with h2 | h2
        · omega
        · rcases Nat.lt_or_ge c (b - 1) with h | h
          · exact low h (by omega) h2
          · have : c = b - 1 := by omega
            subst this
            rintro (h | ⟨h, h'⟩)
            · omega
            · exact hn1 ⟨by omega, by omega, h⟩
/-- A value below all middles. -/
theorem near_low {a : DKey} (na : Norm a) (h : a.ds = [] ∨ a.pow < -60) : IsNear a 0 := by
  refine ⟨by omega, fun _ => .inl ?_, fun c hc => by omega⟩
  unfold cmpK
  by_cases h0 : a.ds = []
  · rw [if_pos h0, if_neg (mid_ne 0)]
    omega
  · rw [if_neg h0, if_neg (mid_ne 0)]
    have hp : (midK 0).pow ≥ -60 := by
      show ((dg (M2 (2 * partF 0 + 1) (partX 0 - 1))).length : Int) - behindN (partX 0 - 1) ≥ -60
      have e1 : M2 (2 * partF 0 + 1) (partX 0 - 1) = 5 ^ 150 := by decide
      have e2 : behindN (partX 0 - 1) = 150 := by decide
      rw [e1, e2]
      have hl : 90 < (dg (5 ^ 150)).length + 1 := by
        rcases Nat.lt_or_ge (dg (5 ^ 150)).length 90 with h9 | h9
        · exfalso
          have hn := numL_dg (5 ^ 150)
          have hb := (frac_lt (l := (dg (5 ^ 150)).reverse) (k := 90) (dig_rev (dg_dig _)) (by rw [List.length_reverse]; omega)).2
          have hge : numL (dg (5 ^ 150)).reverse ≤ frac (dg (5 ^ 150)).reverse 90 := by
            have := frac_num (dg (5 ^ 150)).reverse (90 - (dg (5 ^ 150)).length)
            rw [List.length_reverse, show (dg (5 ^ 150)).length + (90 - (dg (5 ^ 150)).length) = 90 by omega] at this
            rw [this, hn]
            have h10 : (1 : Int) ≤ 10 ^ (90 - (dg (5 ^ 150)).length) := Int.pow_pos (by decide)
            have h5 : (0 : Int) ≤ ((5 ^ 150 : Nat) : Int) := Int.natCast_nonneg _
            have := Int.mul_le_mul_of_nonneg_left h10 h5
            rw [Int.mul_one] at this
            exact this
          rw [hn] at hge
          have : ((5 ^ 150 : Nat) : Int) < 10 ^ 90 := by omega
          revert this
          decide
        · omega
      omega
    have hlt : a.pow < -60 := by rcases h with h | h; · exact (h0 h).elim
                                 · exact h
    rw [if_neg (by omega), sgn_of_lt (by omega)]
    decide
theorem dg_len_pow {n k : Nat} (h : n < 10 ^ k) : (dg n).length ≤ k := dg_len_lt k n h
/-- A value above all middles. -/
theorem near_high {a : DKey} (na : Norm a) (h0 : a.ds ≠ []) (h : 60 < a.pow) : IsNear a 2139095040 := by
  refine ⟨by omega, fun h => by omega, fun c hc => ?_⟩
  have hp : (midK c).pow ≤ 60 := by
    show ((dg (M2 (2 * partF c + 1) (partX c - 1))).length : Int) - behindN (partX c - 1) ≤ 60
    obtain ⟨h1, h2, h3⟩ := part_range c
    unfold M2 behindN
    by_cases hx : 0 ≤ partX c - 1
    · rw [if_pos hx]
      have hl : (dg (2 ^ (partX c - 1).toNat * (2 * partF c + 1))).length ≤ 40 := by
        refine dg_len_pow ?_
        have e1 : 2 ^ (partX c - 1).toNat ≤ 2 ^ 104 := Nat.pow_le_pow_right (by omega) (by omega)
        have e2 : 2 ^ (partX c - 1).toNat * (2 * partF c + 1) ≤ 2 ^ 104 * 33554432 := Nat.mul_le_mul e1 (by omega)
        refine Nat.lt_of_le_of_lt e2 (by decide)
      omega
    · rw [if_neg hx]
      obtain ⟨k, hk⟩ : ∃ k, (-(partX c - 1)).toNat = k := ⟨_, rfl⟩
      rw [hk]
      have hl : (dg (5 ^ k * (2 * partF c + 1))).length ≤ k + 8 := by
        refine dg_len_pow ?_
        have e1 : 5 ^ k ≤ 10 ^ k := Nat.pow_le_pow_left (by omega) k
        have e2 : 5 ^ k * (2 * partF c + 1) ≤ 10 ^ k * 33554432 := Nat.mul_le_mul e1 (by omega)
        rw [Nat.pow_add]
        refine Nat.lt_of_le_of_lt e2 (Nat.mul_lt_mul_of_pos_left (by decide) (Nat.pow_pos (by omega)))
      omega
  have hc1 : cmpK a (midK c) = 1 := by
    unfold cmpK
    rw [if_neg h0, if_neg (mid_ne c), if_neg (by omega), sgn_of_gt (by omega)]
  rintro (hn | ⟨hn, _⟩) <;> omega
end Go.Proofs.YtdibapfehdhfjaaDoor
