/-
  What the program writes of f times 2 to the power of x, digit by digit. No program.
-/
import Derived.Test.YtdibapfehdhfjaaDoorPDecCmp2
import Derived.Test.YtdibapfehdhfjaaDoorGD
import Derived.Test.YtdibapfehdhfjaaDoorDecKey
namespace Go.Proofs.YtdibapfehdhfjaaDoor
open Go.Eng
set_option linter.unusedVariables false
set_option linter.unusedSimpArgs false

theorem getD_mid (pre : List Int) (d : Int) (rest : List Int) (z : Int) : (pre ++ d :: rest).getD pre.length z = d := by
  simp [List.getD]
theorem set_mid (pre : List Int) (d x : Int) (rest : List Int) : (pre ++ d :: rest).set pre.length x = (pre ++ [x]) ++ rest := by
  simp
/-- Multiplied digit by digit: what is carried, the digits. -/
def mulP (by_ c : Int) : List Int → Int × List Int
  | [] => (c, [])
  | d :: l => ((mulP by_ ((d * by_ + c) / 10) l).1, ((d * by_ + c) % 10) :: (mulP by_ ((d * by_ + c) / 10) l).2)
def snocP (r : Int × List Int) : List Int := if 0 < r.1 then r.2 ++ [r.1] else r.2
theorem snocP_cons (c x : Int) (l : List Int) : snocP (c, x :: l) = x :: snocP (c, l) := by
  unfold snocP
  by_cases h : 0 < c
  · simp [h]
  · simp [h]
theorem mulP_D (by_ : Int) : ∀ (l : List Int) (c : Int), snocP (mulP by_ c l) = mulD by_ c l
  | [], c => rfl
  | d :: l, c => by
    have ih := mulP_D by_ l ((d * by_ + c) / 10)
    have e : mulP by_ c (d :: l) = ((mulP by_ ((d * by_ + c) / 10) l).1, ((d * by_ + c) % 10) :: (mulP by_ ((d * by_ + c) / 10) l).2) := rfl
    rw [e, snocP_cons]
    show _ :: snocP (mulP by_ ((d * by_ + c) / 10) l) = _
    rw [ih]
    rfl
theorem carry_lt {by_ c d : Int} (hb : 1 ≤ by_ ∧ by_ ≤ 5) (hc : 0 ≤ c ∧ c ≤ 4) (hd : 0 ≤ d ∧ d ≤ 9) : 0 ≤ d * by_ + c ∧ d * by_ + c ≤ 49 ∧ 0 ≤ (d * by_ + c) / 10 ∧ (d * by_ + c) / 10 ≤ 4 := by
  have h1 : 0 ≤ d * by_ := Int.mul_nonneg hd.1 (by omega)
  have h2 : d * by_ ≤ 9 * 5 := Int.mul_le_mul hd.2 hb.2 (by omega) (by omega)
  omega
theorem mulP_len (by_ : Int) : ∀ (l : List Int) (c : Int), (mulP by_ c l).2.length = l.length
  | [], _ => rfl
  | d :: l, c => by simp [mulP, mulP_len by_ l]
theorem p_times0 {by_ : Int} (hb : 1 ≤ by_ ∧ by_ ≤ 5) (n : Nat) (hn : n < 1000000) : ∀ (rest pre : List Int) (c : Int), Dig rest → 0 ≤ c ∧ c ≤ 4 → pre.length + rest.length = n →
    decimal_times_p0 by_ c (n : Int) (pre.length : Int) (pre ++ rest) = some ((mulP by_ c rest).1, pre ++ (mulP by_ c rest).2)
  | [], pre, c, _, _, hl => by
    unfold decimal_times_p0
    refine whileO_inr ?_
    unfold decimal_times_p0_step
    simp only [List.length_nil, Nat.add_zero] at hl
    rw [decide_eq_false (by simp only; omega), cond_false]
    simp [mulP]
  | d :: rest, pre, c, hd, hc, hl => by
    have h0 := hd d List.mem_cons_self
    obtain ⟨b1, b2, b3, b4⟩ := carry_lt hb hc h0
    simp only [List.length_cons] at hl
    have hlen : (pre ++ d :: rest).length = n := by simp; omega
    have hm : (((d * by_) % 256) + c) % 256 = d * by_ + c := by
      have h1 : 0 ≤ d * by_ := Int.mul_nonneg h0.1 (by omega)
      omega
    have ih := p_times0 hb n hn rest (pre ++ [(d * by_ + c) % 10]) ((d * by_ + c) / 10) hd.tail ⟨b3, b4⟩ (by simp; omega)
    unfold decimal_times_p0 at ih ⊢
    rw [whileO_inl (y := ((d * by_ + c) / 10, (((pre ++ [(d * by_ + c) % 10]).length : Nat) : Int), (pre ++ [(d * by_ + c) % 10]) ++ rest)) ?_, ih]
    · simp [mulP]
    · unfold decimal_times_p0_step
      simp only [Int.toNat_natCast, getD_mid, hm, hlen, set_mid]
      rw [decide_eq_true (by omega), cond_true]
      refine (gd_pos (by omega) _).trans ?_
      refine (gd_pos (by omega) _).trans ?_
      refine (gd_pos (by omega) _).trans ?_
      refine (gd_pos (by omega) _).trans ?_
      refine (gd_pos (by omega) _).trans ?_
      refine (gd_pos (by omega) _).trans ?_
      refine (gd_pos (by unfold InI64; omega) _).trans ?_
      simp
theorem p_times {by_ : Nat} (hb : 1 ≤ by_ ∧ by_ ≤ 5) (m : Nat) (hn : (dg m).length < 900000) : decimal_times_s (dg m) by_ = some (dg (by_ * m)) := by
  have h := p_times0 (by_ := by_) (by omega) (dg m).length (by omega) (dg m) [] 0 (dg_dig m) (by omega) (by simp)
  simp only [List.nil_append, List.length_nil] at h
  unfold decimal_times_s
  rw [show ((0 : Nat) : Int) = 0 from rfl] at h
  rw [h, Option.bind_some]
  have hD := mulD_dg by_ m 0 hb.1 (by omega) (by omega)
  rw [Nat.add_zero] at hD
  have hP := mulP_D by_ (dg m) 0
  have hlen := mulP_len by_ (dg m) 0
  simp only
  rw [← hD, show ((0 : Nat) : Int) = 0 from rfl, ← hP]
  unfold snocP
  by_cases hc : 0 < (mulP by_ 0 (dg m)).1
  · rw [decide_eq_true hc, cond_true, if_pos hc]
    refine (gd_pos (by simp [hlen]; omega) _).trans rfl
  · rw [decide_eq_false hc, cond_false, if_neg hc]

theorem dg_len_lt : ∀ (k n : Nat), n < 10 ^ k → (dg n).length ≤ k
  | 0, n, h => by
    have : n = 0 := by simpa using h
    subst this
    rw [dg_zero]; exact Nat.le_refl _
  | k + 1, n, h => by
    by_cases hn : n = 0
    · subst hn; rw [dg_zero]; exact Nat.zero_le _
    · have := dg_len_lt k (n / 10) (by rw [Nat.pow_succ] at h; omega)
      rw [dg_pos hn, List.length_cons]
      omega
theorem p_dec0 : ∀ (f : Nat) (acc : List Int), f < 18446744073709551616 → acc.length + (dg f).length < 1000000 → decimal_decimal_p0 f acc = some (acc ++ dg f) := by
  intro f
  induction f using Nat.strongRecOn with
  | ind f ih =>
    intro acc hf ha
    unfold decimal_decimal_p0
    by_cases h : f = 0
    · subst h
      refine whileO_inr ?_
      unfold decimal_decimal_p0_step
      rw [decide_eq_false (by simp), cond_false, dg_zero, List.append_nil]
    · have e1 : (((f : Nat) : Int) % 10) % 256 = ((f % 10 : Nat) : Int) := by omega
      have e2 : ((f : Nat) : Int) / 10 = ((f / 10 : Nat) : Int) := by omega
      rw [dg_pos h, List.length_cons] at ha
      have := ih (f / 10) (by omega) (acc ++ [((f % 10 : Nat) : Int)]) (by omega) (by simp; omega)
      unfold decimal_decimal_p0 at this
      rw [whileO_inl (y := (((f / 10 : Nat) : Int), acc ++ [((f % 10 : Nat) : Int)])) ?_, this]
      · rw [dg_pos h]; simp
      · unfold decimal_decimal_p0_step
        simp only [e1, e2]
        rw [decide_eq_true (by omega), cond_true]
        refine (gd_pos (by omega) _).trans ?_
        refine (gd_pos (by simp; omega) _).trans ?_
        refine (gd_pos (by omega) _).trans ?_
        rfl
theorem p_dec1 (n : Nat) (hn : n < 1000) : ∀ (k i m : Nat), i + k = n → (dg m).length + k < 10000 → decimal_decimal_p1 n i (dg m) = some (dg (2 ^ k * m))
  | 0, i, m, hi, hl => by
    unfold decimal_decimal_p1
    refine whileO_inr ?_
    unfold decimal_decimal_p1_step
    rw [decide_eq_false (by simp only; omega), cond_false]
    simp
  | k + 1, i, m, hi, hl => by
    have hlen := dg_len_mul (m := 2) (n := m) (by omega) (by omega)
    have ih := p_dec1 n hn k (i + 1) (2 * m) (by omega) (by omega)
    unfold decimal_decimal_p1 at ih ⊢
    rw [whileO_inl (y := (((i + 1 : Nat) : Int), dg (2 * m))) ?_, ih]
    · rw [Nat.pow_succ, Nat.mul_assoc]
    · unfold decimal_decimal_p1_step
      simp only
      rw [decide_eq_true (by omega), cond_true]
      have := p_times (by_ := 2) (by omega) m (by omega)
      rw [show ((2 : Nat) : Int) = 2 from rfl] at this
      rw [this, Option.bind_some]
      refine (gd_pos (by unfold InI64; omega) _).trans ?_
      rfl
theorem p_dec2 (n : Nat) (hn : n < 1000) : ∀ (k i m : Nat), i + k = n → (dg m).length + k < 10000 → decimal_decimal_p2 n i (dg m) = some (dg (5 ^ k * m))
  | 0, i, m, hi, hl => by
    unfold decimal_decimal_p2
    refine whileO_inr ?_
    unfold decimal_decimal_p2_step
    rw [decide_eq_false (by simp only; omega), cond_false]
    simp
  | k + 1, i, m, hi, hl => by
    have hlen := dg_len_mul (m := 5) (n := m) (by omega) (by omega)
    have ih := p_dec2 n hn k (i + 1) (5 * m) (by omega) (by omega)
    unfold decimal_decimal_p2 at ih ⊢
    rw [whileO_inl (y := (((i + 1 : Nat) : Int), dg (5 * m))) ?_, ih]
    · rw [Nat.pow_succ, Nat.mul_assoc]
    · unfold decimal_decimal_p2_step
      simp only
      rw [decide_eq_true (by omega), cond_true]
      have := p_times (by_ := 5) (by omega) m (by omega)
      rw [show ((5 : Nat) : Int) = 5 from rfl] at this
      rw [this, Option.bind_some]
      refine (gd_pos (by unfold InI64; omega) _).trans ?_
      rfl
/-- Noughts laid behind, that there are more than b digits. -/
def padL (b : Nat) (l : List Int) : List Int := l ++ List.replicate (b + 1 - l.length) 0
theorem p_dec3 (b : Nat) (hb : b < 1000) : ∀ (k : Nat) (l : List Int), b + 1 - l.length = k → l.length < 100000 → decimal_decimal_p3 b l = some (padL b l)
  | 0, l, hk, hl => by
    unfold decimal_decimal_p3
    refine whileO_inr ?_
    unfold decimal_decimal_p3_step padL
    rw [decide_eq_false (by omega), cond_false, hk]
    simp
  | k + 1, l, hk, hl => by
    have ih := p_dec3 b hb k (l ++ [0]) (by simp; omega) (by simp; omega)
    unfold decimal_decimal_p3 at ih ⊢
    rw [whileO_inl (y := l ++ [0]) ?_, ih]
    · unfold padL
      rw [hk, List.length_append, List.length_singleton, show b + 1 - (l.length + 1) = k by omega, List.replicate_succ, List.append_assoc]
      rfl
    · unfold decimal_decimal_p3_step
      rw [decide_eq_true (by omega), cond_true]
      refine (gd_pos (by simp; omega) _).trans ?_
      rfl
/-- What is written of the digits below k, the highest first, a dot behind the one at b. -/
def wrL (l : List Int) (b : Nat) : Nat → List Int
  | 0 => []
  | k + 1 => (48 + l.getD k 0) % 256 :: (if k = b ∧ 0 < k then 46 :: wrL l b k else wrL l b k)
theorem wrL_len (l : List Int) (b : Nat) : ∀ k, (wrL l b k).length ≤ 2 * k
  | 0 => Nat.le_refl _
  | k + 1 => by
    have := wrL_len l b k
    simp only [wrL, List.length_cons]
    split
    · simp only [List.length_cons]; omega
    · omega
theorem p_write (ad : Bool) (buf : List Int) (c : Int) (h : buf.length < 10000000) : strings_Builder_WriteByte_s ⟨ad, buf⟩ c = some (⟨true, buf ++ [c]⟩, ()) := by
  unfold strings_Builder_WriteByte_s strings_Builder_copyCheck_s
  have : ∀ x : Option strings_Builder, (bif !ad then some (⟨true, buf⟩ : strings_Builder) else bif !ad then none else some ⟨ad, buf⟩) = some ⟨true, buf⟩ := by
    intro _; cases ad <;> rfl
  simp only [this none, Option.bind_some]
  refine (gd_pos (by simp; omega) _).trans rfl
theorem p_dec4 (b : Nat) (l : List Int) (hl : l.length < 100000) : ∀ (k : Nat) (ad : Bool) (buf : List Int), k ≤ l.length → buf.length + 2 * k < 1000000 →
    decimal_decimal_p4 b ((k : Int) - 1) l ad buf = some (if k = 0 then ad else true, buf ++ wrL l b k)
  | 0, ad, buf, hk, hbu => by
    unfold decimal_decimal_p4
    refine whileO_inr ?_
    unfold decimal_decimal_p4_step
    rw [decide_eq_false (by simp only; omega), cond_false]
    simp [wrL]
  | k + 1, ad, buf, hk, hbu => by
    unfold decimal_decimal_p4
    have e : (((k + 1 : Nat) : Int) - 1) = (k : Int) := by omega
    rw [e]
    have hd : l.getD (Int.toNat (k : Int)) (ET.dft .u8) = l.getD k 0 := by rw [Int.toNat_natCast]; rfl
    by_cases hc : k = b ∧ 0 < k
    · have ih := p_dec4 b l hl k true (buf ++ [(48 + l.getD k 0) % 256] ++ [46]) (by omega) (by simp; omega)
      unfold decimal_decimal_p4 at ih
      rw [whileO_inl (y := ((k : Int) - 1, true, buf ++ [(48 + l.getD k 0) % 256] ++ [46])) ?_, ih]
      · simp only [wrL]
        rw [if_pos hc, if_neg (by omega : ¬ k + 1 = 0)]
        simp
      · unfold decimal_decimal_p4_step
        simp only
        rw [decide_eq_true (by omega), cond_true]
        refine (gd_pos (by omega) _).trans ?_
        refine (gd_pos (by omega) _).trans ?_
        rw [hd, p_write _ _ _ (by omega), Option.bind_some]
        have : (decide ((k : Int) = (b : Int)) && decide ((0 : Int) < (k : Int))) = true := by
          simp only [Bool.and_eq_true, decide_eq_true_eq]; omega
        rw [this, cond_true, p_write _ _ _ (by simp; omega), Option.bind_some]
        refine (gd_pos (by unfold InI64; omega) _).trans rfl
    · have ih := p_dec4 b l hl k true (buf ++ [(48 + l.getD k 0) % 256]) (by omega) (by simp; omega)
      unfold decimal_decimal_p4 at ih
      rw [whileO_inl (y := ((k : Int) - 1, true, buf ++ [(48 + l.getD k 0) % 256])) ?_, ih]
      · simp only [wrL]
        rw [if_neg hc, if_neg (by omega : ¬ k + 1 = 0)]
        simp
      · unfold decimal_decimal_p4_step
        simp only
        rw [decide_eq_true (by omega), cond_true]
        refine (gd_pos (by omega) _).trans ?_
        refine (gd_pos (by omega) _).trans ?_
        rw [hd, p_write _ _ _ (by omega), Option.bind_some]
        have : (decide ((k : Int) = (b : Int)) && decide ((0 : Int) < (k : Int))) = false := by
          rw [Bool.and_eq_false_iff, decide_eq_false_iff_not, decide_eq_false_iff_not]; omega
        rw [this, cond_false]
        refine (gd_pos (by unfold InI64; omega) _).trans rfl
theorem p_string (ad : Bool) (buf : List Int) (h0 : buf ≠ []) (h : ∀ x ∈ buf, 0 ≤ x ∧ x < 256) : strings_Builder_String_s ⟨ad, buf⟩ = some (⟨ad, []⟩, bytesI buf) := by
  unfold strings_Builder_String_s
  have : 0 < buf.length := List.length_pos_iff.2 h0
  refine (gd_pos this _).trans ?_
  refine (gd_pos ⟨rfl, this, h⟩ _).trans rfl
theorem wrL_range (l : List Int) (b : Nat) : ∀ k, ∀ x ∈ wrL l b k, 0 ≤ x ∧ x < 256
  | 0, x, h => by cases h
  | k + 1, x, h => by
    have ih := wrL_range l b k
    simp only [wrL, List.mem_cons] at h
    rcases h with rfl | h
    · omega
    · split at h
      · rcases List.mem_cons.1 h with rfl | h
        · omega
        · exact ih x h
      · exact ih x h
/-- What stands ahead of noughts and the dot that go. -/
def M2 (f : Nat) (x : Int) : Nat := if 0 ≤ x then 2 ^ x.toNat * f else 5 ^ (-x).toNat * f
def behindN (x : Int) : Nat := (-x).toNat
/-- The bytes that are written, all of them. -/
def wholeW (f : Nat) (x : Int) : List Int := wrL (padL (behindN x) (dg (M2 f x))) (behindN x) (padL (behindN x) (dg (M2 f x))).length
theorem p_trimR46 (s : ByteArray) (h : s.size < 9223372036854775807) : strings_TrimRight_s s (⟨#[46]⟩ : ByteArray) = some (trimR s 46) := by
  unfold strings_TrimRight_s
  have h1 : decide ((⟨#[46]⟩ : ByteArray) = (⟨#[]⟩ : ByteArray)) = false := by decide
  rw [h1, Bool.or_false]
  by_cases he : s = ⟨#[]⟩
  · rw [decide_eq_true he, cond_true]
    congr 1
    have := eq_none.1 he
    unfold trimR
    rw [he]
    refine (eq_none.2 ?_).symm
    rw [ByteArray.size_extract]
    have : (⟨#[]⟩ : ByteArray).size = 0 := rfl
    omega
  · rw [decide_eq_false he, cond_false]
    refine (gd_pos (fun _ => by decide) _).trans ?_
    have h2 : (decide (((⟨#[46]⟩ : ByteArray).size : Int) = 1) && decide (bAt (⟨#[46]⟩ : ByteArray) 0 < 128)) = true := by decide
    rw [h2, cond_true]
    refine (gd_pos (by decide) _).trans ?_
    rw [show bAt (⟨#[46]⟩ : ByteArray) 0 = 46 by decide, p_trimR1 s 46 h]
    rfl
theorem bytesI_size (l : List Int) : (bytesI l).size = l.length := by
  rw [bytesI_eq]
  show (Array.size _) = _
  simp
/-- The text that the program makes of f times 2 to the power of x. -/
def decT (f : Nat) (x : Int) : ByteArray := if 0 ≤ x then bytesI (wholeW f x) else trimR (trimR (bytesI (wholeW f x)) 48) 46
theorem p_decimal (f : Nat) (x : Int) (hf : f < 18446744073709551616) (hx : -300 ≤ x ∧ x ≤ 300) : decimal_decimal_s f x = some (decT f x) := by
  have hten : (10 : Nat) ^ 20 = 100000000000000000000 := by decide
  have hlf : (dg f).length ≤ 20 := dg_len_lt 20 f (by omega)
  have h0 := p_dec0 f [] hf (by simp; omega)
  rw [List.nil_append] at h0
  have hb : (if (0 - x) > 0 then (0 - x) else 0) = ((behindN x : Nat) : Int) := by unfold behindN; split <;> omega
  have hup : (if x > 0 then x else 0) = ((x.toNat : Nat) : Int) := by split <;> omega
  unfold decimal_decimal_s
  rw [h0, Option.bind_some, gd_pos (by unfold InI64; omega), hb, hup]
  have h1 := p_dec1 x.toNat (by omega) x.toNat 0 f (by omega) (by omega)
  rw [show ((0 : Nat) : Int) = 0 from rfl] at h1
  rw [h1, Option.bind_some]
  have hl1 : ∀ k, (dg (2 ^ k * f)).length ≤ 20 + k := by
    intro k
    induction k with
    | zero => simpa using hlf
    | succ k ih =>
      have := dg_len_mul (m := 2) (n := 2 ^ k * f) (by omega) (by omega)
      rw [show 2 ^ (k + 1) * f = 2 * (2 ^ k * f) by rw [Nat.pow_succ, Nat.mul_comm (2 ^ k) 2, Nat.mul_assoc]]
      omega
  have hl2 : ∀ k m, (dg (5 ^ k * m)).length ≤ (dg m).length + k := by
    intro k m
    induction k with
    | zero => simp
    | succ k ih =>
      have := dg_len_mul (m := 5) (n := 5 ^ k * m) (by omega) (by omega)
      rw [show 5 ^ (k + 1) * m = 5 * (5 ^ k * m) by rw [Nat.pow_succ, Nat.mul_comm (5 ^ k) 5, Nat.mul_assoc]]
      omega
  have hl1x := hl1 x.toNat
  have h2 := p_dec2 (behindN x) (by unfold behindN; omega) (behindN x) 0 (2 ^ x.toNat * f) (by omega) (by unfold behindN; omega)
  rw [show ((0 : Nat) : Int) = 0 from rfl] at h2
  rw [h2, Option.bind_some]
  have hM : 5 ^ behindN x * (2 ^ x.toNat * f) = M2 f x := by
    unfold M2 behindN
    by_cases hx0 : 0 ≤ x
    · rw [if_pos hx0, show (-x).toNat = 0 by omega]; simp
    · rw [if_neg hx0, show x.toNat = 0 by omega]; simp
  rw [hM]
  have hlM : (dg (M2 f x)).length ≤ 700 := by
    have := hl2 (behindN x) (2 ^ x.toNat * f)
    rw [hM] at this
    unfold behindN at this
    omega
  have hlP : (padL (behindN x) (dg (M2 f x))).length ≤ 1001 + 700 := by
    unfold padL
    rw [List.length_append, List.length_replicate]
    unfold behindN
    omega
  have hlP0 : 0 < (padL (behindN x) (dg (M2 f x))).length := by
    unfold padL
    rw [List.length_append, List.length_replicate]
    omega
  rw [p_dec3 (behindN x) (by unfold behindN; omega) _ _ rfl (by omega), Option.bind_some]
  refine (gd_pos (by unfold InI64; omega) _).trans ?_
  rw [p_dec4 (behindN x) _ (by omega) _ false [] (Nat.le_refl _) (by simp; omega), Option.bind_some, if_neg (by omega), List.nil_append]
  simp only
  have hne : wholeW f x ≠ [] := by
    unfold wholeW
    cases hn : (padL (behindN x) (dg (M2 f x))).length with
    | zero => omega
    | succ k => simp [wrL]
  rw [show wrL (padL (behindN x) (dg (M2 f x))) (behindN x) (padL (behindN x) (dg (M2 f x))).length = wholeW f x from rfl]
  have hr : ∀ y ∈ wholeW f x, 0 ≤ y ∧ y < 256 := wrL_range _ _ _
  have hwl : (wholeW f x).length ≤ 2 * (padL (behindN x) (dg (M2 f x))).length := wrL_len _ _ _
  rw [p_string true _ hne hr]
  simp only [Option.bind_some]
  unfold decT
  by_cases hx0 : 0 ≤ x
  · rw [if_pos hx0, decide_eq_true (by unfold behindN; omega), cond_true]
  · have hsz := bytesI_size (wholeW f x)
    have hsz2 : (trimR (bytesI (wholeW f x)) 48).size ≤ (bytesI (wholeW f x)).size := by unfold trimR; rw [ByteArray.size_extract]; omega
    rw [if_neg hx0, decide_eq_false (by unfold behindN; omega), cond_false, p_trimR _ (by omega), Option.bind_some, p_trimR46 _ (by omega), Option.bind_some]
end Go.Proofs.YtdibapfehdhfjaaDoor

/-
  The program's text of f times 2 to the power of x: its digits, how it is read, its key. No program.
-/
namespace Go.Proofs.YtdibapfehdhfjaaDoor
open Go.Eng
set_option linter.unusedVariables false
set_option linter.unusedSimpArgs false

def chI (d : Int) : Int := (48 + d) % 256
theorem take_snoc {l : List Int} {k : Nat} (h : k < l.length) : l.take (k + 1) = l.take k ++ [l.getD k 0] := by
  rw [List.take_succ_eq_append_getElem h]
  simp [List.getD, h]
theorem wrL_low (l : List Int) (b : Nat) : ∀ k, k ≤ b → k ≤ l.length → wrL l b k = (l.take k).reverse.map chI
  | 0, _, _ => by simp [wrL]
  | k + 1, h, h2 => by
    have ih := wrL_low l b k (by omega) (by omega)
    rw [take_snoc (by omega), List.reverse_append, List.map_append, ← ih]
    simp only [wrL]
    rw [if_neg (by omega)]
    rfl
theorem wrL_high (l : List Int) (b : Nat) : ∀ k, b < k → k ≤ l.length → wrL l b k = ((l.take k).drop b).reverse.map chI ++ (if 0 < b then 46 :: (l.take b).reverse.map chI else [])
  | 0, h, _ => by omega
  | k + 1, h, h2 => by
    have hd : (l.take (k + 1)).drop b = (l.take k).drop b ++ [l.getD k 0] := by
      rw [take_snoc (by omega), List.drop_append_of_le_length (by rw [List.length_take]; omega)]
    rw [hd, List.reverse_append, List.map_append]
    by_cases hk : k = b
    · subst hk
      have h0 : (l.take k).drop k = [] := List.drop_of_length_le (by rw [List.length_take]; omega)
      rw [h0]
      simp only [wrL]
      by_cases h00 : 0 < k
      · rw [if_pos (by simp [h00]), if_pos h00, wrL_low l k k (Nat.le_refl _) (by omega)]
        rfl
      · rw [if_neg (fun h => h00 h.2), if_neg h00, wrL_low l k k (Nat.le_refl _) (by omega), show k = 0 by omega]
        rfl
    · have ih := wrL_high l b k (by omega) (by omega)
      simp only [wrL]
      rw [if_neg (fun h => hk h.1), ih]
      rfl
theorem bytesI_list (l : List Int) : (bytesI l).data.toList = l.map fun n => UInt8.ofNat n.toNat := by
  rw [bytesI_eq]
theorem chI_chr (l : List Int) : (l.map chI).map (fun n => UInt8.ofNat n.toNat) = byteD l := by
  rw [List.map_map]; rfl
/-- The digits, the lowest first, and noughts to the place of the dot. -/
def digT (f : Nat) (x : Int) : List Int := padL (behindN x) (dg (M2 f x))
theorem digT_len (f : Nat) (x : Int) : behindN x < (digT f x).length := by
  unfold digT padL
  rw [List.length_append, List.length_replicate]
  omega
theorem digT_dig (f : Nat) (x : Int) : Dig (digT f x) := by
  intro d hd
  unfold digT padL at hd
  rcases List.mem_append.1 hd with h | h
  · exact dg_dig _ d h
  · have := (List.mem_replicate.1 h).2
    omega
def intT (f : Nat) (x : Int) : List Int := ((digT f x).drop (behindN x)).reverse
def frT (f : Nat) (x : Int) : List Int := ((digT f x).take (behindN x)).reverse
theorem whole_list (f : Nat) (x : Int) : (bytesI (wholeW f x)).data.toList = byteD (intT f x) ++ (if 0 < behindN x then 46 :: byteD (frT f x) else []) := by
  rw [bytesI_list]
  have : wholeW f x = wrL (digT f x) (behindN x) (digT f x).length := rfl
  rw [this, wrL_high _ _ _ (digT_len f x) (Nat.le_refl _), List.map_append, List.take_length, chI_chr]
  congr 1
  by_cases h : 0 < behindN x
  · rw [if_pos h, if_pos h, List.map_cons, chI_chr]
    rfl
  · rw [if_neg h, if_neg h]; rfl
theorem intT_ne (f : Nat) (x : Int) : intT f x ≠ [] := by
  have := digT_len f x
  intro h
  have h2 := congrArg List.length h
  unfold intT at h2
  rw [List.length_reverse, List.length_drop, List.length_nil] at h2
  omega
theorem int_dig (f : Nat) (x : Int) : Dig (intT f x) := dig_rev fun d hd => digT_dig f x d (List.mem_of_mem_drop hd)
theorem fr_dig (f : Nat) (x : Int) : Dig (frT f x) := dig_rev fun d hd => digT_dig f x d (List.mem_of_mem_take hd)
theorem int_head (f : Nat) (x : Int) : (intT f x).head? ≠ some 0 ∨ (intT f x).length = 1 := by
  by_cases h : behindN x + 1 ≤ (dg (M2 f x)).length
  · left
    intro h0
    have e : digT f x = dg (M2 f x) := by
      unfold digT padL
      rw [show behindN x + 1 - (dg (M2 f x)).length = 0 by omega]
      simp
    unfold intT at h0
    rw [e] at h0
    have e2 : (dg (M2 f x)).reverse = ((dg (M2 f x)).drop (behindN x)).reverse ++ ((dg (M2 f x)).take (behindN x)).reverse := by
      rw [← List.reverse_append, List.take_append_drop]
    refine dg_head (M2 f x) 0 ?_ rfl
    rw [e2, List.head?_append, h0]
    rfl
  · right
    unfold intT
    rw [List.length_reverse, List.length_drop]
    unfold digT padL
    rw [List.length_append, List.length_replicate]
    omega
theorem last_ne {d : Int} (h : 0 ≤ d ∧ d ≤ 9) : chr d ≠ 46 := by
  intro e
  have := chr_nat h
  rw [e] at this
  have e46 : ((46 : UInt8).toNat : Int) = 46 := rfl
  omega
theorem backB_same {s : ByteArray} {b : Int} (h : ∀ n, s.size = n + 1 → bAt s n ≠ b) : trimR s b = s := by
  unfold trimR
  cases hn : s.size with
  | zero => exact (eq_none.2 (by rw [ByteArray.size_extract]; omega)).trans (eq_none.2 hn).symm
  | succ n => rw [backB, if_neg (h n hn), ← hn, all_of]
theorem trimR46_list {s : ByteArray} (l : List UInt8) (hs : s.data.toList = l) (hl : ∀ x, l.getLast? = some x → x ≠ 46) : trimR s 46 = s := by
  refine backB_same fun n hn h => ?_
  have hz := size_of_list hs
  cases hg : l.getLast? with
  | none =>
    rw [List.getLast?_eq_none_iff] at hg
    subst hg
    rw [List.length_nil] at hz
    omega
  | some x =>
    have h1 : l[n]? = some x := by rw [← hg, List.getLast?_eq_getElem?]; congr 1; omega
    have h2 := bAt_of_list hs n x h1
    rw [h2] at h
    refine hl x hg (UInt8.toNat_inj.1 ?_)
    show x.toNat = 46
    omega
theorem trimR46_dot {s : ByteArray} (l : List UInt8) (hs : s.data.toList = l ++ [46]) (hl : ∀ x, l.getLast? = some x → x ≠ 46) : (trimR s 46).data.toList = l := by
  have hz := size_of_list hs
  rw [List.length_append, List.length_singleton] at hz
  have h0 : bAt s l.length = 46 := by
    rw [bAt_of_list hs l.length 46 (by simp)]
    rfl
  have hb : backB s 46 s.size = backB s 46 l.length := by rw [hz, backB, if_pos h0]
  have hb2 : backB s 46 l.length = l.length := by
    cases hn : l.length with
    | zero => rfl
    | succ n =>
      rw [backB, if_neg]
      intro h
      have hlt : n < l.length := by omega
      have h1 : (l ++ [46])[n]? = some l[n] := by rw [List.getElem?_append_left hlt]; simp
      have h2 := bAt_of_list hs n _ h1
      have h3 : l.getLast? = some l[n] := by rw [List.getLast?_eq_getElem?]; simp [hn]
      rw [h2] at h
      refine hl _ h3 (UInt8.toNat_inj.1 ?_)
      show (l[n]).toNat = 46
      omega
  unfold trimR
  rw [hb, hb2, extract_toList, hs, List.drop_zero, Nat.sub_zero, List.take_append_of_le_length (Nat.le_refl _), List.take_length]
theorem byteD_last {l : List Int} (h : Dig l) (x : UInt8) (hx : (byteD l).getLast? = some x) : x ≠ 46 := by
  have hm := List.mem_of_getLast? hx
  unfold byteD at hm
  obtain ⟨d, hd, rfl⟩ := List.mem_map.1 hm
  exact last_ne (h d hd)
theorem decT_nt (f : Nat) (x : Int) : NumTxt (decT f x) (intT f x) (trail (frT f x)) := by
  refine ⟨?_, int_dig f x, (fr_dig f x).trail, intT_ne f x, int_head f x⟩
  have hw := whole_list f x
  unfold decT
  by_cases hx : 0 ≤ x
  · have hb : behindN x = 0 := by unfold behindN; omega
    have hf : frT f x = [] := by unfold frT; rw [hb]; rfl
    rw [if_pos hx, hw, if_neg (by omega), hf]
    rfl
  · have hb : 0 < behindN x := by unfold behindN; omega
    rw [if_neg hx]
    rw [if_pos hb] at hw
    have h1 : (trimR (bytesI (wholeW f x)) 48).data.toList = byteD (intT f x) ++ 46 :: byteD (trail (frT f x)) := by
      rw [trimR_list, hw]
      have e : trailB (46 :: byteD (frT f x)) = 46 :: byteD (trail (frT f x)) := by
        rw [trailB_cons_ne _ _ (by decide), trailB_byteD (fr_dig f x)]
      rw [trailB_append _ _ (by rw [e]; simp), e]
    unfold dotF
    by_cases hF : trail (frT f x) = []
    · rw [if_pos hF, List.append_nil]
      rw [hF] at h1
      exact trimR46_dot _ h1 fun y hy => byteD_last (int_dig f x) y hy
    · rw [if_neg hF]
      rw [trimR46_list _ h1 ?_, h1]
      intro y hy
      rw [List.getLast?_append, List.getLast?_cons] at hy
      cases hl : (byteD (trail (frT f x))).getLast? with
      | none =>
        rw [List.getLast?_eq_none_iff] at hl
        unfold byteD at hl
        exact absurd (List.map_eq_nil_iff.1 hl) hF
      | some z =>
        rw [hl] at hy
        have hz := byteD_last (fr_dig f x).trail z hl
        simp only [Option.getD_some, Option.some_or, Option.some.injEq] at hy
        rw [← hy]
        exact hz
theorem numL_zeros (n : Nat) (l : List Int) : numL (List.replicate n 0 ++ l) = numL l := by
  induction n with
  | zero => rfl
  | succ n ih =>
    rw [List.replicate_succ, List.cons_append]
    unfold numL at ih ⊢
    rw [List.length_cons, frac, Int.zero_mul, Int.zero_add]
    exact ih
theorem digT_num (f : Nat) (x : Int) : numL (digT f x).reverse = M2 f x := by
  unfold digT padL
  rw [List.reverse_append, List.reverse_replicate, numL_zeros, numL_dg]
theorem decT_val (f : Nat) (x : Int) {K : Nat} (hK : behindN x ≤ K) : valK K (keyS (decT f x)) = M2 f x * 10 ^ (K - behindN x) ∧ Fits K (keyS (decT f x)) := by
  have hfl : (frT f x).length = behindN x := by
    have := digT_len f x
    unfold frT
    rw [List.length_reverse, List.length_take]
    omega
  have htl := trail_le (frT f x)
  have h := nt_val (decT_nt f x) (K := K) (by omega)
  refine ⟨?_, h.2⟩
  have e2 : (digT f x).reverse = intT f x ++ frT f x := by
    unfold intT frT
    rw [← List.reverse_append, List.take_append_drop]
  have e3 : frac (intT f x ++ frT f x) ((intT f x).length + K) = frac (intT f x ++ trail (frT f x)) ((intT f x).length + K) := by
    rw [frac_append, frac_append, frac_trail]
  rw [h.1, ← e3, ← e2, ← digT_num, show (intT f x).length + K = (digT f x).reverse.length + (K - behindN x) by rw [e2, List.length_append, hfl]; omega, frac_num]
theorem decT_key {f : Nat} {x : Int} (hM : M2 f x ≠ 0) : keyS (decT f x) = kN (M2 f x) (behindN x) := by
  have h1 := decT_val f x (Nat.le_refl (behindN x))
  have h2 := val_kN (M := M2 f x) (Nat.le_refl (behindN x))
  refine (key_eq (norm_kN _ _) (norm_key _) h2.2 h1.2 (by rw [h1.1, h2.1]) ?_).symm
  intro e
  exact hM (kN_nil.1 e)
theorem M2_len (f : Nat) (x : Int) (hf : f < 18446744073709551616) (hx : -300 ≤ x ∧ x ≤ 300) : (dg (M2 f x)).length ≤ 700 := by
  have hten : (10 : Nat) ^ 20 = 100000000000000000000 := by decide
  have hlf : (dg f).length ≤ 20 := dg_len_lt 20 f (by omega)
  have hl : ∀ k m, 1 ≤ m → m ≤ 9 → (dg (m ^ k * f)).length ≤ 20 + k := by
    intro k m h1 h2
    induction k with
    | zero => simpa using hlf
    | succ k ih =>
      have := dg_len_mul (m := m) (n := m ^ k * f) h1 h2
      rw [show m ^ (k + 1) * f = m * (m ^ k * f) by rw [Nat.pow_succ, Nat.mul_comm (m ^ k) m, Nat.mul_assoc]]
      omega
  unfold M2
  split
  · have := hl x.toNat 2 (by omega) (by omega)
    omega
  · have := hl (-x).toNat 5 (by omega) (by omega)
    omega
theorem decT_size (f : Nat) (x : Int) (hf : f < 18446744073709551616) (hx : -300 ≤ x ∧ x ≤ 300) : (decT f x).size < 10000 := by
  have h := M2_len f x hf hx
  have h2 := nt_size (decT_nt f x)
  have h3 := trail_le (frT f x)
  have h4 : (intT f x).length + (frT f x).length ≤ 1100 := by
    unfold intT frT digT padL
    simp only [List.length_reverse, List.length_drop, List.length_take, List.length_append, List.length_replicate]
    unfold behindN
    omega
  rw [h2]
  split <;> omega
end Go.Proofs.YtdibapfehdhfjaaDoor

/-
  What the document writes of digits and the place of the dot is what the program writes. No program.
-/
namespace Go.Proofs.YtdibapfehdhfjaaDoor
open Go.Eng
set_option linter.unusedVariables false
set_option linter.unusedSimpArgs false

theorem trail_getD : ∀ (l : List Int) (i : Nat), (trail l).getD i 0 = l.getD i 0
  | [], _ => rfl
  | x :: l, i => by
    have ih := trail_getD l
    simp only [trail]
    split
    · rename_i h
      rw [h] at ih
      split
      · rename_i h0
        cases i with
        | zero => simp [h0]
        | succ i => have := ih i; simpa using this
      · cases i with
        | zero => simp
        | succ i => have := ih i; simpa using this
    · rename_i y r h
      rw [h] at ih
      cases i with
      | zero => simp
      | succ i => have := ih i; simpa using this
theorem trail_drop : ∀ (l : List Int) (k : Nat), trail (l.drop k) = (trail l).drop k
  | [], k => by simp [trail]
  | x :: l, 0 => rfl
  | x :: l, k + 1 => by
    have ih := trail_drop l k
    rw [List.drop_succ_cons, ih]
    simp only [trail]
    split
    · rename_i h
      rw [h]
      split <;> simp
    · rename_i y r h
      rw [h]
      simp
theorem trail_zeros (n : Nat) (l : List Int) : trail (List.replicate n 0 ++ l) = if trail l = [] then [] else List.replicate n 0 ++ trail l := by
  induction n with
  | zero => by_cases h : trail l = [] <;> simp [h]
  | succ n ih =>
    rw [List.replicate_succ, List.cons_append]
    simp only [trail]
    rw [ih]
    by_cases h : trail l = []
    · rw [if_pos h, if_pos h]
      simp
    · rw [if_neg h, if_neg h]
      cases hr : List.replicate n 0 ++ trail l with
      | nil => exact absurd (List.append_eq_nil_iff.1 hr).2 h
      | cons y r => simp only [List.cons_append, hr]
/-- The first k digits, noughts behind the last. -/
def takeP (ds : List Int) (k : Nat) : List Int := (List.range k).map fun i => ds.getD i 0
theorem takeP_len (ds : List Int) (k : Nat) : (takeP ds k).length = k := by simp [takeP]
theorem take_takeP {E : List Int} {k : Nat} (h : k ≤ E.length) : E.take k = takeP (trail E) k := by
  apply List.ext_getElem
  · rw [List.length_take, takeP_len]; omega
  · intro i h1 h2
    rw [takeP_len] at h2
    simp only [takeP, List.getElem_map, List.getElem_range, List.getElem_take]
    rw [trail_getD, List.getD_eq_getElem?_getD, List.getElem?_eq_getElem (by omega)]
    rfl
/-- The digits ahead of the dot and behind it, as the document has them. -/
def refI (ds : List Int) (off : Int) : List Int := if off ≤ 0 ∨ ds = [] then [0] else takeP ds off.toNat
def refF (ds : List Int) (off : Int) : List Int := if off < ds.length ∧ ds ≠ [] then List.replicate (-off).toNat 0 ++ ds.drop off.toNat else []
def dsM (f : Nat) (x : Int) : List Int := trail (dg (M2 f x)).reverse
def offM (f : Nat) (x : Int) : Int := (dg (M2 f x)).length - behindN x
theorem dsM_nil {f : Nat} {x : Int} : dsM f x = [] ↔ M2 f x = 0 := kN_nil (b := behindN x)
theorem int_ref (f : Nat) (x : Int) : intT f x = refI (dsM f x) (offM f x) := by
  unfold intT digT padL refI offM
  by_cases h : behindN x + 1 ≤ (dg (M2 f x)).length
  · rw [show behindN x + 1 - (dg (M2 f x)).length = 0 by omega, List.replicate_zero, List.append_nil, List.reverse_drop]
    have hne : dsM f x ≠ [] := fun hn => by
      rw [dsM_nil.1 hn, dg_zero] at h
      simp at h
    rw [if_neg (by rintro (h1 | h1); · omega
                   · exact hne h1), take_takeP (by rw [List.length_reverse]; omega)]
    unfold dsM
    congr 1
    omega
  · rw [if_pos (.inl (by omega)), List.drop_append, List.drop_eq_nil_of_le (by omega), List.nil_append, List.drop_replicate]
    rw [show behindN x + 1 - (dg (M2 f x)).length - (behindN x - (dg (M2 f x)).length) = 1 by omega]
    rfl
theorem fr_ref (f : Nat) (x : Int) : trail (frT f x) = refF (dsM f x) (offM f x) := by
  unfold frT digT padL refF offM
  by_cases h : behindN x + 1 ≤ (dg (M2 f x)).length
  · rw [show behindN x + 1 - (dg (M2 f x)).length = 0 by omega, List.replicate_zero, List.append_nil, List.reverse_take, trail_drop]
    rw [show (trail (dg (M2 f x)).reverse) = dsM f x from rfl]
    have hne : dsM f x ≠ [] := fun hn => by
      rw [dsM_nil.1 hn, dg_zero] at h
      simp at h
    by_cases h2 : ((dg (M2 f x)).length : Int) - behindN x < (dsM f x).length
    · rw [if_pos ⟨h2, hne⟩, show (-(((dg (M2 f x)).length : Int) - behindN x)).toNat = 0 by omega, List.replicate_zero, List.nil_append]
      congr 1
      omega
    · rw [if_neg (fun hh => h2 hh.1), List.drop_eq_nil_of_le (by omega)]
  · rw [List.take_append, List.take_of_length_le (by omega), List.take_replicate, List.reverse_append, List.reverse_replicate, trail_zeros]
    rw [show (trail (dg (M2 f x)).reverse) = dsM f x from rfl]
    by_cases hn : dsM f x = []
    · rw [if_pos hn, if_neg (fun hh => hh.2 hn)]
    · have hl : 0 < (dsM f x).length := List.length_pos_iff.2 hn
      rw [if_neg hn, if_pos ⟨by omega, hn⟩, show (((dg (M2 f x)).length : Int) - behindN x).toNat = 0 by omega, List.drop_zero]
      congr 2
      omega
/-- A text of bytes. -/
def mkB (l : List UInt8) : ByteArray := ⟨l.toArray⟩
theorem mkB_list (s : ByteArray) : mkB s.data.toList = s := by
  unfold mkB
  rw [Array.toArray_toList]
theorem mkB_app (l m : List UInt8) : mkB l ++ mkB m = mkB (l ++ m) := by
  apply ByteArray.ext
  rw [ByteArray.data_append]
  simp [mkB]
theorem mkB_size (l : List UInt8) : (mkB l).size = l.length := by
  show Array.size _ = _
  simp [mkB]
theorem decT_ref (f : Nat) (x : Int) : decT f x = mkB (byteD (refI (dsM f x) (offM f x)) ++ dotF (refF (dsM f x) (offM f x))) := by
  rw [← int_ref, ← fr_ref, ← (decT_nt f x).txt, mkB_list]
end Go.Proofs.YtdibapfehdhfjaaDoor

/-
  The document's digits of f times 2 to the power of x, digit by digit. No program.
-/
namespace Go.Proofs.YtdibapfehdhfjaaDoor
open Go.Eng
set_option linter.unusedVariables false
set_option linter.unusedSimpArgs false

/-- The document's number f times 2 to the power of x. -/
def twiceN (f : Nat) (x : Int) : signetref2_Num := ⟨false, dsM f x, offM f x, false, [], false, ⟨#[]⟩⟩
end Go.Proofs.YtdibapfehdhfjaaDoor
