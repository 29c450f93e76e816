/-
  The middles between float32s; the nearest float32 of a key. No program.
-/
import Derived.Test.YtdibapfehdhfjaaDoorPDecSays
namespace Go.Proofs.YtdibapfehdhfjaaDoor
open Go.Eng
set_option linter.unusedVariables false
set_option linter.unusedSimpArgs false

/-- The value of a float32 (its sign apart) in units of 2^-149. -/
def valB (b : Nat) : Nat := partF b * 2 ^ (partX b + 149).toNat
theorem valB_succ {b : Nat} (h : b < 2147483647) : valB (b + 1) = valB b + 2 ^ (partX b + 149).toNat := by
  unfold valB partF partX
  by_cases hm : b % 8388608 + 1 < 8388608
  · have e1 : (b + 1) / 8388608 % 256 = b / 8388608 % 256 := by omega
    have e2 : (b + 1) % 8388608 = b % 8388608 + 1 := by omega
    rw [e1, e2]
    split
    · rw [Nat.add_mul, Nat.one_mul]
    · rw [show b % 8388608 + 1 + 8388608 = b % 8388608 + 8388608 + 1 by omega, Nat.add_mul _ 1, Nat.one_mul]
  · have e1 : (b + 1) / 8388608 % 256 = b / 8388608 % 256 + 1 := by omega
    have e2 : (b + 1) % 8388608 = 0 := by omega
    have e3 : b % 8388608 = 8388607 := by omega
    rw [e1, e2, e3, if_neg (by omega), if_neg (by omega)]
    by_cases h0 : b / 8388608 % 256 = 0
    · rw [if_pos h0, if_pos h0, h0]
      decide
    · rw [if_neg h0, if_neg h0]
      obtain ⟨k, hk⟩ : ∃ k, b / 8388608 % 256 = k + 1 := ⟨b / 8388608 % 256 - 1, by omega⟩
      rw [hk, show (((k + 1 + 1 : Nat) : Int) - 150 + 149).toNat = k + 1 by omega, show (((k + 1 : Nat) : Int) - 150 + 149).toNat = k by omega, Nat.pow_succ]
      omega
/-- Twice the middle behind it. -/
def midV (b : Nat) : Nat := (2 * partF b + 1) * 2 ^ (partX b + 149).toNat
theorem midV_eq {b : Nat} (h : b < 2147483647) : midV b = valB b + valB (b + 1) := by
  rw [valB_succ h]
  unfold midV valB
  rw [Nat.add_mul, Nat.one_mul, Nat.mul_assoc]
  omega
theorem valB_lt {b : Nat} (h : b < 2147483647) : valB b < valB (b + 1) := by
  have := Nat.pow_pos (a := 2) (n := (partX b + 149).toNat) (by omega)
  rw [valB_succ h]; omega
theorem midV_lt {b : Nat} (h : b + 1 < 2147483647) : midV b < midV (b + 1) := by
  have h1 := valB_lt (b := b) (by omega)
  have h2 := valB_lt (b := b + 1) (by omega)
  rw [midV_eq (by omega), midV_eq h]
  omega
theorem midV_mono {b : Nat} : ∀ {c : Nat}, b < c → c < 2147483647 → midV b < midV c
  | 0, h, _ => by omega
  | c + 1, h, hc => by
    have h1 := midV_lt (b := c) hc
    by_cases hb : b = c
    · rw [hb]; exact h1
    · exact Nat.lt_trans (midV_mono (by omega) (by omega)) h1
/-- The key of the middle behind a float32. -/
def midK (b : Nat) : DKey := kN (M2 (2 * partF b + 1) (partX b - 1)) (behindN (partX b - 1))
theorem scale {f : Nat} {y : Int} {Q : Nat} (hy : -(Q : Int) ≤ y) {K : Nat} (hK : Q ≤ K) : M2 f y * 10 ^ (K - behindN y) = f * 2 ^ (y + Q).toNat * (5 ^ Q * 10 ^ (K - Q)) := by
  have hKe : (10 : Nat) ^ K = 10 ^ Q * 10 ^ (K - Q) := by rw [← Nat.pow_add]; congr 1; omega
  have ht : ∀ n : Nat, (10 : Nat) ^ n = 2 ^ n * 5 ^ n := fun n => by rw [← Nat.mul_pow]
  unfold M2 behindN
  by_cases h : 0 ≤ y
  · rw [if_pos h, show (-y).toNat = 0 by omega, Nat.sub_zero, hKe, ht Q, show (y + Q).toNat = y.toNat + Q by omega, Nat.pow_add 2]
    simp only [Nat.mul_assoc, Nat.mul_comm, Nat.mul_left_comm]
  · rw [if_neg h]
    obtain ⟨k, hk⟩ : ∃ k : Nat, (-y).toNat = k := ⟨_, rfl⟩
    have hk2 : k ≤ Q := by omega
    have h1 : (10 : Nat) ^ (K - k) = 10 ^ (Q - k) * 10 ^ (K - Q) := by rw [← Nat.pow_add]; congr 1; omega
    have h2 : (5 : Nat) ^ Q = 5 ^ k * 5 ^ (Q - k) := by rw [← Nat.pow_add]; congr 1; omega
    rw [hk, h1, ht (Q - k), h2, show (y + Q).toNat = Q - k by omega]
    simp only [Nat.mul_assoc, Nat.mul_comm, Nat.mul_left_comm]
def unitK (Q K : Nat) : Nat := 5 ^ Q * 10 ^ (K - Q)
theorem unitK_pos (Q K : Nat) : 0 < unitK Q K := Nat.mul_pos (Nat.pow_pos (by omega)) (Nat.pow_pos (by omega))
theorem val_mid (b : Nat) {K Q : Nat} (hQ : Q = 150) (hK : Q ≤ K) : valK K (midK b) = (midV b : Int) * (unitK Q K : Int) ∧ Fits K (midK b) := by
  obtain ⟨h1, h2, h3⟩ := part_range b
  obtain ⟨e1, e2⟩ := val_kN (M := M2 (2 * partF b + 1) (partX b - 1)) (b := behindN (partX b - 1)) (K := K) (by unfold behindN; omega)
  refine ⟨?_, e2⟩
  rw [show midK b = kN (M2 (2 * partF b + 1) (partX b - 1)) (behindN (partX b - 1)) from rfl, e1]
  have := scale (f := 2 * partF b + 1) (y := partX b - 1) (Q := Q) (by omega) hK
  rw [show partX b - 1 + (Q : Int) = partX b + 149 by omega] at this
  have h : (M2 (2 * partF b + 1) (partX b - 1) : Int) * 10 ^ (K - behindN (partX b - 1)) = ((M2 (2 * partF b + 1) (partX b - 1) * 10 ^ (K - behindN (partX b - 1)) : Nat) : Int) := by
    rw [Int.natCast_mul, Int.natCast_pow]; rfl
  rw [h, this, Int.natCast_mul]
  rfl
theorem mid_norm (b : Nat) : Norm (midK b) := norm_kN _ _
theorem mid_ne (b : Nat) : (midK b).ds ≠ [] := by
  intro h
  have := kN_nil.1 h
  unfold M2 at this
  split at this
  · have h2 := Nat.pow_pos (a := 2) (n := (partX b - 1).toNat) (by omega)
    have := Nat.mul_eq_zero.1 this
    omega
  · have h2 := Nat.pow_pos (a := 5) (n := (-(partX b - 1)).toNat) (by omega)
    have := Nat.mul_eq_zero.1 this
    omega
/-- A key among the middles: one number among theirs. -/
theorem cmp_mid {a : DKey} (na : Norm a) : ∃ A C : Int, 0 < C ∧ 0 ≤ A ∧ ∀ b, cmpK a (midK b) = sgn (A - (midV b : Int) * C) := by
  obtain ⟨Q, hQ⟩ : ∃ Q : Nat, Q = 150 := ⟨_, rfl⟩
  have hf : Fits (Q + (a.ds.length + a.pow.natAbs)) a := by
    unfold Fits
    right
    omega
  refine ⟨valK (Q + (a.ds.length + a.pow.natAbs)) a, (unitK Q (Q + (a.ds.length + a.pow.natAbs)) : Int), ?_, ?_, fun b => ?_⟩
  · exact Int.ofNat_lt.2 (unitK_pos _ _)
  · unfold valK
    refine (frac_lt na.dig ?_).1
    omega
  · obtain ⟨e1, e2⟩ := val_mid b (K := Q + (a.ds.length + a.pow.natAbs)) hQ (by omega)
    rw [cmpK_val na (mid_norm b) hf e2, e1]
/-- The nearest float32 of a key: the least one with the value not above the middle behind it. -/
def nearT (a : DKey) (b : Nat) : Prop := cmpK a (midK b) < 0 ∨ (cmpK a (midK b) = 0 ∧ b % 2 = 0)
structure IsNear (a : DKey) (b : Nat) : Prop where
  le : b ≤ 2139095040
  yes : b < 2139095040 → nearT a b
  no : ∀ c, c < b → ¬ nearT a c
theorem IsNear.unique {a : DKey} {b c : Nat} (h : IsNear a b) (h' : IsNear a c) : b = c := by
  rcases Nat.lt_trichotomy b c with hl | he | hl
  · exact (h'.no b hl (h.yes (by have := h'.le; omega))).elim
  · exact he
  · exact (h.no c hl (h'.yes (by have := h.le; omega))).elim
theorem mid_up {a : DKey} (na : Norm a) {b c : Nat} (h : b < c) (hc : c < 2147483647) : (cmpK a (midK b) ≤ 0 → cmpK a (midK c) < 0) ∧ (0 ≤ cmpK a (midK c) → 0 < cmpK a (midK b)) := by
  obtain ⟨A, C, h1, h2, h3⟩ := cmp_mid na
  have hv : (midV b : Int) < midV c := Int.ofNat_lt.2 (midV_mono h hc)
  have hm : (midV b : Int) * C < (midV c : Int) * C := Int.mul_lt_mul_of_pos_right hv h1
  rw [h3, h3]
  generalize (midV b : Int) * C = x at *
  generalize (midV c : Int) * C = y at *
  unfold sgn
  constructor
  · intro h
    split at h
    · rw [if_pos (by omega)]; omega
    · split at h
      · omega
      · rw [if_pos (by omega)]; omega
  · intro h
    split at h
    · omega
    · split at h
      · rw [if_neg (by omega), if_pos (by omega)]; omega
      · rw [if_neg (by omega), if_pos (by omega)]; omega
theorem near_of {a : DKey} (na : Norm a) {b : Nat} (hle : b ≤ 2139095040) (h1 : b = 2139095040 ∨ cmpK a (midK b) ≤ 0) (h2 : b = 0 ∨ 0 ≤ cmpK a (midK (b - 1))) :
    IsNear a (if 0 < b ∧ b % 2 = 1 ∧ cmpK a (midK (b - 1)) = 0 then b - 1 else if b < 2139095040 ∧ b % 2 = 1 ∧ cmpK a (midK b) = 0 then b + 1 else b) := by
  have low : ∀ {c d : Nat}, c < d → d < 2147483647 → 0 ≤ cmpK a (midK d) → ¬ nearT a c := fun {c d} hcd hd h hn => by
    have := (mid_up na hcd hd).2 h
    rcases hn with hn | hn <;> omega
  split
  · rename_i h
    obtain ⟨p1, p2, p3⟩ := h
    refine ⟨by omega, fun _ => .inr ⟨p3, by omega⟩, fun c hc => low hc (by omega) (by omega)⟩
  · rename_i hn1
    split
    · rename_i h
      obtain ⟨p1, p2, p3⟩ := h
      refine ⟨by omega, fun h => .inl ((mid_up na (Nat.lt_succ_self b) (by omega)).1 (by omega)), fun c hc => ?_⟩
      rcases Nat.lt_or_ge c b with h | h
      · exact low h (by omega) (by omega)
      · have : c = b := by omega
        subst this
        rintro (h | h) <;> omega
    · rename_i hn2
      refine ⟨hle, fun h => ?_, fun c hc => ?_⟩
      · rcases h1 with h1 | h1
        · omega
        · by_cases h0 : cmpK a (midK b) = 0
          · refine .inr ⟨h0, ?_⟩
            by_cases h5 : b % 2 = 1
            · exact (hn2 ⟨h, h5, h0⟩).elim
            · omega
          · exact .inl (by omega)
      · rcases h2 with h2 | h2
        · omega
        · rcases Nat.lt_or_ge c (b - 1) with h | h
          · exact low h (by omega) h2
          · have : c = b - 1 := by omega
            subst this
            rintro (h | ⟨h, h'⟩)
            · omega
            · exact hn1 ⟨by omega, by omega, h⟩
theorem sgn_pos' {x : Int} (h : 0 < x) : sgn x = 1 := sgn_of_gt h
/-- A value below all middles. -/
theorem near_low {a : DKey} (na : Norm a) (h : a.ds = [] ∨ a.pow < -60) : IsNear a 0 := by
  refine ⟨by omega, fun _ => .inl ?_, fun c hc => by omega⟩
  unfold cmpK
  by_cases h0 : a.ds = []
  · rw [if_pos h0, if_neg (mid_ne 0)]
    omega
  · rw [if_neg h0, if_neg (mid_ne 0)]
    have hp : (midK 0).pow ≥ -60 := by
      show ((dg (M2 (2 * partF 0 + 1) (partX 0 - 1))).length : Int) - behindN (partX 0 - 1) ≥ -60
      have e1 : M2 (2 * partF 0 + 1) (partX 0 - 1) = 5 ^ 150 := by decide
      have e2 : behindN (partX 0 - 1) = 150 := by decide
      rw [e1, e2]
      have hl : 90 < (dg (5 ^ 150)).length + 1 := by
        rcases Nat.lt_or_ge (dg (5 ^ 150)).length 90 with h9 | h9
        · exfalso
          have hn := numL_dg (5 ^ 150)
          have hb := (frac_lt (l := (dg (5 ^ 150)).reverse) (k := 90) (dig_rev (dg_dig _)) (by rw [List.length_reverse]; omega)).2
          have hge : numL (dg (5 ^ 150)).reverse ≤ frac (dg (5 ^ 150)).reverse 90 := by
            have := frac_num (dg (5 ^ 150)).reverse (90 - (dg (5 ^ 150)).length)
            rw [List.length_reverse, show (dg (5 ^ 150)).length + (90 - (dg (5 ^ 150)).length) = 90 by omega] at this
            rw [this, hn]
            have h10 : (1 : Int) ≤ 10 ^ (90 - (dg (5 ^ 150)).length) := Int.pow_pos (by decide)
            have h5 : (0 : Int) ≤ ((5 ^ 150 : Nat) : Int) := Int.natCast_nonneg _
            have := Int.mul_le_mul_of_nonneg_left h10 h5
            rw [Int.mul_one] at this
            exact this
          rw [hn] at hge
          have : ((5 ^ 150 : Nat) : Int) < 10 ^ 90 := by omega
          revert this
          decide
        · omega
      omega
    have hlt : a.pow < -60 := by rcases h with h | h; · exact (h0 h).elim
                                 · exact h
    rw [if_neg (by omega), sgn_of_lt (by omega)]
    decide
theorem dg_len_pow {n k : Nat} (h : n < 10 ^ k) : (dg n).length ≤ k := dg_len_lt k n h
/-- A value above all middles. -/
theorem near_high {a : DKey} (na : Norm a) (h0 : a.ds ≠ []) (h : 60 < a.pow) : IsNear a 2139095040 := by
  refine ⟨by omega, fun h => by omega, fun c hc => ?_⟩
  have hp : (midK c).pow ≤ 60 := by
    show ((dg (M2 (2 * partF c + 1) (partX c - 1))).length : Int) - behindN (partX c - 1) ≤ 60
    obtain ⟨h1, h2, h3⟩ := part_range c
    unfold M2 behindN
    by_cases hx : 0 ≤ partX c - 1
    · rw [if_pos hx]
      have hl : (dg (2 ^ (partX c - 1).toNat * (2 * partF c + 1))).length ≤ 40 := by
        refine dg_len_pow ?_
        have e1 : 2 ^ (partX c - 1).toNat ≤ 2 ^ 104 := Nat.pow_le_pow_right (by omega) (by omega)
        have e2 : 2 ^ (partX c - 1).toNat * (2 * partF c + 1) ≤ 2 ^ 104 * 33554432 := Nat.mul_le_mul e1 (by omega)
        refine Nat.lt_of_le_of_lt e2 (by decide)
      omega
    · rw [if_neg hx]
      obtain ⟨k, hk⟩ : ∃ k, (-(partX c - 1)).toNat = k := ⟨_, rfl⟩
      rw [hk]
      have hl : (dg (5 ^ k * (2 * partF c + 1))).length ≤ k + 8 := by
        refine dg_len_pow ?_
        have e1 : 5 ^ k ≤ 10 ^ k := Nat.pow_le_pow_left (by omega) k
        have e2 : 5 ^ k * (2 * partF c + 1) ≤ 10 ^ k * 33554432 := Nat.mul_le_mul e1 (by omega)
        rw [Nat.pow_add]
        refine Nat.lt_of_le_of_lt e2 (Nat.mul_lt_mul_of_pos_left (by decide) (Nat.pow_pos (by omega)))
      omega
  have hc1 : cmpK a (midK c) = 1 := by
    unfold cmpK
    rw [if_neg h0, if_neg (mid_ne c), if_neg (by omega), sgn_of_gt (by omega)]
  rintro (hn | ⟨hn, _⟩) <;> omega
end Go.Proofs.YtdibapfehdhfjaaDoor
