/-
  Natural numbers' digits, multiplied digit by digit; the key of M times 10^-b. No program.
-/
import Derived.Test.YtdibapfehdhfjaaDoorDecVal
namespace Go.Proofs.YtdibapfehdhfjaaDoor
open Go.Eng
set_option linter.unusedVariables false
set_option linter.unusedSimpArgs false

/-- The digits, the lowest first. -/
def dg (n : Nat) : List Int := if h : n = 0 then [] else ((n % 10 : Nat) : Int) :: dg (n / 10)
  termination_by n
  decreasing_by omega
theorem dg_zero : dg 0 = [] := by rw [dg, dif_pos rfl]
theorem dg_pos {n : Nat} (h : n ≠ 0) : dg n = ((n % 10 : Nat) : Int) :: dg (n / 10) := by rw [dg, dif_neg h]
theorem dg_dig (n : Nat) : Dig (dg n) := by
  by_cases h : n = 0
  · subst h; rw [dg_zero]; intro d hd; cases hd
  · rw [dg_pos h]
    intro d hd
    cases hd with
    | head => omega
    | tail _ hd => exact dg_dig (n / 10) d hd
termination_by n
decreasing_by omega
theorem dg_nil {n : Nat} : dg n = [] ↔ n = 0 := by
  constructor
  · intro h
    by_cases hn : n = 0
    · exact hn
    · rw [dg_pos hn] at h; cases h
  · rintro rfl; exact dg_zero
theorem dg_one {c : Nat} (h : c ≠ 0) (h9 : c ≤ 9) : dg c = [(c : Int)] := by
  rw [dg_pos h, show c / 10 = 0 by omega, dg_zero, show c % 10 = c by omega]
/-- Multiplied digit by digit. -/
def mulD (by_ c : Int) : List Int → List Int
  | [] => if 0 < c then [c] else []
  | d :: l => ((d * by_ + c) % 10) :: mulD by_ ((d * by_ + c) / 10) l
theorem mulD_dg (m : Nat) : ∀ (n c : Nat), 1 ≤ m → m ≤ 9 → c ≤ 9 → mulD m c (dg n) = dg (m * n + c) := by
  intro n c h1 h2 hc
  by_cases h : n = 0
  · subst h
    rw [dg_zero, Nat.mul_zero, Nat.zero_add]
    simp only [mulD]
    by_cases h0 : c = 0
    · subst h0; rw [dg_zero]; rfl
    · rw [if_pos (by omega), dg_one h0 hc]
  · rw [dg_pos h]
    simp only [mulD]
    have hpos : m * n + c ≠ 0 := by
      have : 1 * 1 ≤ m * n := Nat.mul_le_mul h1 (by omega)
      omega
    rw [dg_pos hpos]
    have e : m * n + c = (n % 10 * m + c) + 10 * (m * (n / 10)) := by
      have h3 : n = n % 10 + 10 * (n / 10) := by omega
      calc m * n + c = m * (n % 10 + 10 * (n / 10)) + c := by rw [← h3]
        _ = (n % 10 * m + c) + 10 * (m * (n / 10)) := by rw [Nat.mul_add, Nat.mul_comm m (n % 10), Nat.mul_left_comm]; omega
    have e1 : (((n % 10 : Nat) : Int) * (m : Int) + (c : Int)) = ((n % 10 * m + c : Nat) : Int) := by simp
    have hb : n % 10 * m ≤ 9 * 9 := Nat.mul_le_mul (by omega) h2
    rw [e1]
    generalize hq : n % 10 * m + c = q at e ⊢
    have e2 : ((q : Nat) : Int) / 10 = ((q / 10 : Nat) : Int) := by omega
    rw [e2, mulD_dg m (n / 10) (q / 10) h1 h2 (by omega)]
    have e3 : (m * n + c) / 10 = m * (n / 10) + q / 10 := by omega
    have e4 : (m * n + c) % 10 = q % 10 := by omega
    rw [e3, e4]
    rfl
termination_by n => n
decreasing_by omega
theorem mulD_len (by_ : Int) : ∀ (l : List Int) (c : Int), l.length ≤ (mulD by_ c l).length ∧ (mulD by_ c l).length ≤ l.length + 1
  | [], c => by simp only [mulD]; split <;> simp
  | d :: l, c => by
    have := mulD_len by_ l ((d * by_ + c) / 10)
    simp only [mulD, List.length_cons]
    omega
theorem dg_len_mul {m n : Nat} (h1 : 1 ≤ m) (h2 : m ≤ 9) : (dg (m * n)).length ≤ (dg n).length + 1 := by
  have h := mulD_dg m n 0 h1 h2 (by omega)
  rw [Nat.add_zero] at h
  rw [← h]
  exact (mulD_len m (dg n) 0).2

theorem frac_append : ∀ (l m : List Int) (k : Nat), frac (l ++ m) (l.length + k) = frac l l.length * 10 ^ k + frac m k
  | [], m, k => by simp [frac]
  | d :: l, m, k => by
    have ih := frac_append l m k
    simp only [List.cons_append, List.length_cons]
    rw [show l.length + 1 + k = (l.length + k) + 1 by omega]
    simp only [frac]
    rw [ih, Int.pow_add, Int.add_mul, Int.mul_assoc]
    omega
/-- The number that digits say, the highest first. -/
def numL (l : List Int) : Int := frac l l.length
theorem frac_num (l : List Int) (k : Nat) : frac l (l.length + k) = numL l * 10 ^ k := by
  have := frac_append l [] k
  simpa [frac, numL] using this
theorem numL_snoc (l : List Int) (d : Int) : numL (l ++ [d]) = numL l * 10 + d := by
  unfold numL
  have := frac_append l [d] 1
  rw [List.length_append]
  rw [show [d].length = 1 from rfl, this]
  simp [frac]
theorem numL_dg (n : Nat) : numL (dg n).reverse = n := by
  by_cases h : n = 0
  · subst h; rw [dg_zero]; rfl
  · rw [dg_pos h, List.reverse_cons, numL_snoc, numL_dg (n / 10)]
    omega
termination_by n
decreasing_by omega
theorem dg_head (n : Nat) (d : Int) (h : (dg n).reverse.head? = some d) : d ≠ 0 := by
  by_cases hn : n = 0
  · subst hn; rw [dg_zero] at h; cases h
  · rw [dg_pos hn, List.reverse_cons] at h
    by_cases h10 : n / 10 = 0
    · rw [h10, dg_zero] at h
      simp at h
      omega
    · cases hr : (dg (n / 10)).reverse with
      | nil =>
        have := List.reverse_eq_nil_iff.1 hr
        exact absurd (dg_nil.1 this) h10
      | cons x r =>
        rw [hr] at h
        have := dg_head (n / 10) x (by rw [hr]; rfl)
        simp only [List.cons_append, List.head?_cons, Option.some.injEq] at h
        rw [← h]
        exact this
termination_by n
decreasing_by omega
/-- The key of M times 10^-b. -/
def kN (M b : Nat) : DKey := ⟨trail (dg M).reverse, (dg M).length - b⟩
theorem dig_rev {l : List Int} (h : Dig l) : Dig l.reverse := fun d hd => h d (List.mem_reverse.1 hd)
theorem norm_kN (M b : Nat) : Norm (kN M b) := ⟨(dig_rev (dg_dig M)).trail, trail_last _, fun d hd => dg_head M d (trail_head _ _ hd)⟩
theorem val_kN {M b K : Nat} (h : b ≤ K) : valK K (kN M b) = M * 10 ^ (K - b) ∧ Fits K (kN M b) := by
  constructor
  · unfold valK kN
    rw [frac_trail, show (((dg M).length : Int) - b + K).toNat = (dg M).reverse.length + (K - b) by rw [List.length_reverse]; omega, frac_num, numL_dg]
  · right
    have := trail_le (dg M).reverse
    rw [List.length_reverse] at this
    show ((trail (dg M).reverse).length : Int) ≤ ((dg M).length : Int) - b + K
    omega
theorem lexI_zero : ∀ {l m : List Int}, lexI l m = 0 → l = m
  | [], [], _ => rfl
  | [], _ :: _, h => by simp [lexI] at h
  | _ :: _, [], h => by simp [lexI] at h
  | x :: l, y :: m, h => by
    have e : lexI (x :: l) (y :: m) = if x < y then -1 else if y < x then 1 else lexI l m := rfl
    rw [e] at h
    split at h
    · cases h
    · split at h
      · cases h
      · rw [lexI_zero h, show x = y by omega]
/-- Keys of one value are one, but for nought's. -/
theorem key_eq {K : Nat} {a b : DKey} (na : Norm a) (nb : Norm b) (fa : Fits K a) (fb : Fits K b) (h : valK K a = valK K b) (h0 : a.ds ≠ []) : a = b := by
  have hc := cmpK_val na nb fa fb
  rw [h, Int.sub_self] at hc
  have h00 : sgn 0 = 0 := rfl
  rw [h00] at hc
  unfold cmpK at hc
  rw [if_neg h0] at hc
  split at hc
  · cases hc
  · split at hc
    · rename_i hp
      have := lexI_zero hc
      cases a; cases b
      simp only at this hp
      rw [this, hp]
    · rename_i hp
      have := sgn_zero.1 hc
      omega
/-- No digits just of nought. -/
theorem kN_nil {M b : Nat} : (kN M b).ds = [] ↔ M = 0 := by
  constructor
  · intro h
    have := trail_nil h
    by_cases hM : M = 0
    · exact hM
    · exfalso
      have hr : (dg M).reverse ≠ [] := fun e => hM (dg_nil.1 (List.reverse_eq_nil_iff.1 e))
      cases hd : (dg M).reverse with
      | nil => exact hr hd
      | cons x r => exact dg_head M x (by rw [hd]; rfl) (this x (by rw [hd]; exact List.mem_cons_self))
  · rintro rfl
    show trail (dg 0).reverse = []
    rw [dg_zero]; rfl
end Go.Proofs.YtdibapfehdhfjaaDoor
