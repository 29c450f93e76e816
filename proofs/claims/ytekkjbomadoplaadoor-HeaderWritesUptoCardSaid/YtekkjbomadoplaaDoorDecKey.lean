/-
 How the values of two numbers stand to one another: the keys of numbers and their order. No program.
-/
import Derived.Test.YtekkjbomadoplaaDoorDecRel
namespace Go.Proofs.YtekkjbomadoplaaDoor
open Go.Eng
set_option linter.unusedVariables false
set_option linter.unusedSimpArgs false

theorem dV_range (s : ByteArray) (i : Nat) : 0 ≤ dV s i ∧ dV s i < 256 := by unfold dV; omega
/-- The digit with the place value 10^i. -/
def atL (l : List Int) (i : Nat) : Int := if l.length ≤ i then 0 else l.getD (l.length - 1 - i) 0
def sgI (d : Bool) (x : Int) : Int := if d = true then -x else x
def difL (d1 : Bool) (e1 : List Int) (d2 : Bool) (e2 : List Int) (i : Nat) : Int := sgI d1 (atL e1 i) - sgI d2 (atL e2 i)
/-- The difference of the exponents' digits. -/
def difS (a b : ByteArray) : Nat → Int := difL (progS a).down (dl (progS a).exp) (progS b).down (dl (progS b).exp)
def powS (a b : ByteArray) : Int := ap (difS a b) 0 (max (progS a).exp.size (progS b).exp.size) + ((progS a).off - (progS b).off)
/-- How two numbers' values stand, the signs apart. -/
def sizeS (a b : ByteArray) : Int :=
 if (progS a).digits.size = 0 then (if (progS b).digits.size = 0 then 0 else -1)
 else if (progS b).digits.size = 0 then 1
 else if powS a b = 0 then lexI (dl (progS a).digits) (dl (progS b).digits) else sgn (powS a b)
theorem sgn_zero {x : Int} : sgn x = 0 ↔ x = 0 := by
 unfold sgn
 constructor
 ·intro h
  split at h
  ·cases h
  ·split at h
   ·cases h
   ·omega
 ·intro h; subst h; rfl
/-! ### keys: 0.digits times 10 to the power of pow -/
structure DKey where
 ds : List Int
 pow : Int
def cmpK (a b : DKey) : Int :=
 if a.ds = [] then (if b.ds = [] then 0 else -1)
 else if b.ds = [] then 1
 else if a.pow = b.pow then lexI a.ds b.ds else sgn (a.pow - b.pow)
/-- What an exponent's digits say. -/
def powE (e : List Int) : Int := ap (atL e) 0 e.length
/-! ### values -/
/-- The digits behind the dot, as so many units of 10^-k. -/
def frac : List Int → Nat → Int
 | [], _ => 0
 | _ :: _, 0 => 0
 | d :: l, k + 1 => d * 10 ^ k + frac l k
def Dig (l : List Int) : Prop := ∀ d ∈ l, 0 ≤ d ∧ d ≤ 9
/-- The last one is none of nought. -/
def LastNZ : List Int → Prop
 | [] => True
 | [d] => d ≠ 0
 | _ :: l => LastNZ l
theorem LastNZ.tail {d : Int} : ∀ {l : List Int}, LastNZ (d :: l) → LastNZ l
 | [], _ => trivial
 | _ :: _, h => h
theorem Dig.tail {d : Int} {l : List Int} (h : Dig (d :: l)) : Dig l := fun x hx => h x (List.mem_cons_of_mem _ hx)
theorem ten_pos (k : Nat) : (0 : Int) < 10 ^ k := Int.pow_pos (by decide)
theorem frac_lt : ∀ {l : List Int} {k : Nat}, Dig l → l.length ≤ k → 0 ≤ frac l k ∧ frac l k < 10 ^ k
 | [], k, _, _ => ⟨Int.le_refl _, ten_pos k⟩
 | d :: l, 0, _, h => by simp at h
 | d :: l, k + 1, hd, h => by
  obtain ⟨h1, h2⟩ := frac_lt hd.tail (show l.length ≤ k by simpa using h)
  obtain ⟨g1, g2⟩ := hd d List.mem_cons_self
  have hp := ten_pos k
  have hm1 : 0 ≤ d * 10 ^ k := Int.mul_nonneg g1 (Int.le_of_lt hp)
  have hm2 : d * 10 ^ k ≤ 9 * 10 ^ k := Int.mul_le_mul_of_nonneg_right g2 (Int.le_of_lt hp)
  have e : (10 : Int) ^ (k + 1) = 10 * 10 ^ k := by rw [Int.pow_succ, Int.mul_comm]
  simp only [frac]
  rw [e]
  omega
theorem frac_pos : ∀ {l : List Int} {k : Nat}, Dig l → LastNZ l → l ≠ [] → l.length ≤ k → 0 < frac l k
 | [], _, _, _, h, _ => absurd rfl h
 | d :: l, 0, _, _, _, h => by simp at h
 | [d], k + 1, hd, hz, _, h => by
  have g := hd d List.mem_cons_self
  have hp := ten_pos k
  have hz' : d ≠ 0 := hz
  have : 0 < d * 10 ^ k := Int.mul_pos (by omega) hp
  simp only [frac]
  omega
 | d :: x :: l, k + 1, hd, hz, _, h => by
  have ih := frac_pos (l := x :: l) (k := k) hd.tail hz (by simp) (by simpa using h)
  have g := hd d List.mem_cons_self
  have hp := ten_pos k
  have : 0 ≤ d * 10 ^ k := Int.mul_nonneg g.1 (Int.le_of_lt hp)
  simp only [frac] at ih ⊢
  omega
theorem sgn_of_lt {x : Int} (h : x < 0) : sgn x = -1 := by unfold sgn; rw [if_pos h]
theorem sgn_of_gt {x : Int} (h : 0 < x) : sgn x = 1 := by unfold sgn; rw [if_neg (by omega), if_pos h]
theorem lex_frac : ∀ {l m : List Int} {k : Nat}, Dig l → Dig m → LastNZ l → LastNZ m → l.length ≤ k → m.length ≤ k → lexI l m = sgn (frac l k - frac m k)
 | [], [], k, _, _, _, _, _, _ => by simp [lexI, frac, sgn]
 | [], y :: m, k, _, hm, _, zm, _, h => by
  have := frac_pos hm zm (by simp) h
  rw [sgn_of_lt (by simp only [frac]; omega)]
  rfl
 | x :: l, [], k, hl, _, zl, _, h, _ => by
  have := frac_pos hl zl (by simp) h
  rw [sgn_of_gt (by simp only [frac]; omega)]
  rfl
 | x :: l, y :: m, 0, _, _, _, _, h, _ => by simp at h
 | x :: l, y :: m, k + 1, hl, hm, zl, zm, h, h' => by
  have ih := lex_frac (k := k) hl.tail hm.tail zl.tail zm.tail (by simpa using h) (by simpa using h')
  obtain ⟨a1, a2⟩ := frac_lt hl.tail (show l.length ≤ k by simpa using h)
  obtain ⟨b1, b2⟩ := frac_lt hm.tail (show m.length ≤ k by simpa using h')
  have hp := ten_pos k
  simp only [lexI, frac]
  by_cases c1 : x < y
  ·have : (x + 1) * 10 ^ k ≤ y * 10 ^ k := Int.mul_le_mul_of_nonneg_right (by omega) (Int.le_of_lt hp)
   rw [Int.add_mul] at this
   rw [if_pos c1, sgn_of_lt (by omega)]
  ·by_cases c2 : y < x
   ·have : (y + 1) * 10 ^ k ≤ x * 10 ^ k := Int.mul_le_mul_of_nonneg_right (by omega) (Int.le_of_lt hp)
    rw [Int.add_mul] at this
    rw [if_neg c1, if_pos c2, sgn_of_gt (by omega)]
   ·have : x = y := by omega
    subst this
    rw [if_neg c1, if_neg c2, ih]
    congr 1
    omega
/-- The value of a key as so many units of 10^-K. -/
def valK (K : Nat) (a : DKey) : Int := frac a.ds (a.pow + K).toNat
structure Norm (a : DKey) : Prop where
 dig : Dig a.ds
 last : LastNZ a.ds
 first : ∀ d, a.ds.head? = some d → d ≠ 0
def Fits (K : Nat) (a : DKey) : Prop := a.ds = [] ∨ (a.ds.length : Int) ≤ a.pow + K
theorem frac_ge {d : Int} {l : List Int} {k : Nat} (hd : Dig (d :: l)) (h0 : d ≠ 0) (h : l.length ≤ k) : 10 ^ k ≤ frac (d :: l) (k + 1) := by
 obtain ⟨a1, a2⟩ := frac_lt hd.tail h
 have g := hd d List.mem_cons_self
 have hp := ten_pos k
 have : 1 * 10 ^ k ≤ d * 10 ^ k := Int.mul_le_mul_of_nonneg_right (by omega) (Int.le_of_lt hp)
 simp only [frac]
 omega
theorem ten_le {i j : Nat} (h : i ≤ j) : (10 : Int) ^ i ≤ 10 ^ j := by
 obtain ⟨n, rfl⟩ := Nat.exists_eq_add_of_le h
 have h1 := ten_pos i
 have h2 := ten_pos n
 rw [Int.pow_add]
 have : 10 ^ i * 1 ≤ (10 : Int) ^ i * 10 ^ n := Int.mul_le_mul_of_nonneg_left (by omega) (Int.le_of_lt h1)
 omega
/-- Keys stand to one another as their values do. -/
theorem cmpK_val {K : Nat} {a b : DKey} (na : Norm a) (nb : Norm b) (fa : Fits K a) (fb : Fits K b) : cmpK a b = sgn (valK K a - valK K b) := by
 have low : ∀ {a b : DKey}, Norm a → Norm b → a.ds ≠ [] → b.ds ≠ [] → (a.ds.length : Int) ≤ a.pow + K → (b.ds.length : Int) ≤ b.pow + K → a.pow < b.pow → valK K a < valK K b := by
  intro a b na nb ha hb fa fb h
  have h1 := (frac_lt na.dig (show a.ds.length ≤ (a.pow + K).toNat by omega)).2
  cases hbd : b.ds with
  | nil => exact absurd hbd hb
  | cons d l =>
   rw [hbd] at fb
   simp only [List.length_cons] at fb
   have h2 := frac_ge (k := (b.pow + K).toNat - 1) (hbd ▸ nb.dig) (nb.first d (by rw [hbd]; rfl)) (by omega)
   rw [show (b.pow + K).toNat - 1 + 1 = (b.pow + K).toNat by omega, ← hbd] at h2
   have h3 := ten_le (show (a.pow + K).toNat ≤ (b.pow + K).toNat - 1 by omega)
   show frac a.ds _ < frac b.ds _
   omega
 by_cases ha : a.ds = []
 ·have e1 : valK K a = 0 := by unfold valK; rw [ha]; rfl
  by_cases hb : b.ds = []
  ·have e2 : valK K b = 0 := by unfold valK; rw [hb]; rfl
   simp [cmpK, ha, hb, e1, e2, sgn]
  ·have := frac_pos nb.dig nb.last hb (show b.ds.length ≤ (b.pow + K).toNat by rcases fb with h | h; exact absurd h hb; omega)
   have e2 : 0 < valK K b := this
   rw [e1, sgn_of_lt (by omega)]
   simp [cmpK, ha, hb]
 ·have fa' : (a.ds.length : Int) ≤ a.pow + K := fa.resolve_left ha
  by_cases hb : b.ds = []
  ·have e2 : valK K b = 0 := by unfold valK; rw [hb]; rfl
   have e1 : 0 < valK K a := frac_pos na.dig na.last ha (show a.ds.length ≤ (a.pow + K).toNat by omega)
   rw [e2, sgn_of_gt (by omega)]
   simp [cmpK, ha, hb]
  ·have fb' : (b.ds.length : Int) ≤ b.pow + K := fb.resolve_left hb
   have e : cmpK a b = if a.pow = b.pow then lexI a.ds b.ds else sgn (a.pow - b.pow) := by simp [cmpK, ha, hb]
   rw [e]
   by_cases p : a.pow = b.pow
   ·rw [if_pos p]
    unfold valK
    rw [← p]
    exact lex_frac na.dig nb.dig na.last nb.last (by omega) (by omega)
   ·rw [if_neg p]
    rcases Int.lt_or_gt_of_ne p with h | h
    ·have := low na nb ha hb fa' fb' h
     rw [sgn_of_lt (by omega), sgn_of_lt (by omega)]
    ·have := low nb na hb ha fb' fa' h
     rw [sgn_of_gt (by omega), sgn_of_gt (by omega)]
end Go.Proofs.YtekkjbomadoplaaDoor

/-
 The keys of texts, and their values where there is no exponent. No program.
-/
namespace Go.Proofs.YtekkjbomadoplaaDoor
open Go.Eng
set_option linter.unusedVariables false
set_option linter.unusedSimpArgs false

theorem trail_mem {d : Int} : ∀ {l : List Int}, d ∈ trail l → d ∈ l
 | [], h => h
 | y :: l, h => by
  have ih := trail_mem (d := d) (l := l)
  simp only [trail] at h
  split at h
  ·split at h
   ·cases h
   ·simp only [List.mem_singleton] at h; simp [h]
  ·rename_i z r hr
   rw [hr] at ih
   cases h with
   | head => exact List.mem_cons_self
   | tail _ h => exact List.mem_cons_of_mem _ (ih h)
theorem Dig.trail {l : List Int} (h : Dig l) : Dig (trail l) := fun d hd => h d (trail_mem hd)
theorem trail_nil : ∀ {l : List Int}, trail l = [] → ∀ d ∈ l, d = 0
 | [], _, d, hd => by cases hd
 | x :: l, h, d, hd => by
  simp only [trail] at h
  split at h
  ·rename_i ht
   split at h
   ·rename_i hx
    cases hd with
    | head => exact hx
    | tail _ hd => exact trail_nil ht d hd
   ·cases h
  ·cases h
/-- A text's digits ahead of the dot. -/
def intN (s : ByteArray) : Nat := atB s - atA s
end Go.Proofs.YtekkjbomadoplaaDoor

/-
 Natural numbers' digits, multiplied digit by digit; the key of M times 10^-b. No program.
-/
namespace Go.Proofs.YtekkjbomadoplaaDoor
open Go.Eng
set_option linter.unusedVariables false
set_option linter.unusedSimpArgs false

/-- The digits, the lowest first. -/
def dg (n : Nat) : List Int := if h : n = 0 then [] else ((n % 10 : Nat) : Int) :: dg (n / 10)
 termination_by n
 decreasing_by omega
theorem dg_zero : dg 0 = [] := by rw [dg, dif_pos rfl]
theorem dg_pos {n : Nat} (h : n ≠ 0) : dg n = ((n % 10 : Nat) : Int) :: dg (n / 10) := by rw [dg, dif_neg h]
theorem dg_nil {n : Nat} : dg n = [] ↔ n = 0 := by
 constructor
 ·intro h
  by_cases hn : n = 0
  ·exact hn
  ·rw [dg_pos hn] at h; cases h
 ·rintro rfl; exact dg_zero
/-- Multiplied digit by digit. -/
def mulD (by_ c : Int) : List Int → List Int
 | [] => if 0 < c then [c] else []
 | d :: l => ((d * by_ + c) % 10) :: mulD by_ ((d * by_ + c) / 10) l
/-- The number that digits say, the highest first. -/
def numL (l : List Int) : Int := frac l l.length
theorem dg_head (n : Nat) (d : Int) (h : (dg n).reverse.head? = some d) : d ≠ 0 := by
 by_cases hn : n = 0
 ·subst hn; rw [dg_zero] at h; cases h
 ·rw [dg_pos hn, List.reverse_cons] at h
  by_cases h10 : n / 10 = 0
  ·rw [h10, dg_zero] at h
   simp at h
   omega
  ·cases hr : (dg (n / 10)).reverse with
   | nil =>
    have := List.reverse_eq_nil_iff.1 hr
    exact absurd (dg_nil.1 this) h10
   | cons x r =>
    rw [hr] at h
    have := dg_head (n / 10) x (by rw [hr]; rfl)
    simp only [List.cons_append, List.head?_cons, snJ] at h
    rw [← h]
    exact this
termination_by n
decreasing_by omega
/-- The key of M times 10^-b. -/
def kN (M b : Nat) : DKey := ⟨trail (dg M).reverse, (dg M).length - b⟩
theorem lexI_zero : ∀ {l m : List Int}, lexI l m = 0 → l = m
 | [], [], _ => rfl
 | [], _ :: _, h => by simp [lexI] at h
 | _ :: _, [], h => by simp [lexI] at h
 | x :: l, y :: m, h => by
  have e : lexI (x :: l) (y :: m) = if x < y then -1 else if y < x then 1 else lexI l m := rfl
  rw [e] at h
  split at h
  ·cases h
  ·split at h
   ·cases h
   ·rw [lexI_zero h, show x = y by omega]
/-- Keys of one value are one, but for nought's. -/
theorem key_eq {K : Nat} {a b : DKey} (na : Norm a) (nb : Norm b) (fa : Fits K a) (fb : Fits K b) (h : valK K a = valK K b) (h0 : a.ds ≠ []) : a = b := by
 have hc := cmpK_val na nb fa fb
 rw [h, Int.sub_self] at hc
 have h00 : sgn 0 = 0 := rfl
 rw [h00] at hc
 unfold cmpK at hc
 rw [if_neg h0] at hc
 split at hc
 ·cases hc
 ·split at hc
  ·rename_i hp
   have := lexI_zero hc
   cases a; cases b
   simp only at this hp
   rw [this, hp]
  ·rename_i hp
   have := sgn_zero.1 hc
   omega
/-- No digits just of nought. -/
theorem kN_nil {M b : Nat} : (kN M b).ds = [] ↔ M = 0 := by
 constructor
 ·intro h
  have := trail_nil h
  by_cases hM : M = 0
  ·exact hM
  ·exfalso
   have hr : (dg M).reverse ≠ [] := fun e => hM (dg_nil.1 (List.reverse_eq_nil_iff.1 e))
   cases hd : (dg M).reverse with
   | nil => exact hr hd
   | cons x r => exact dg_head M x (by rw [hd]; rfl) (this x (by rw [hd]; exact List.mem_cons_self))
 ·rintro rfl
  show trail (dg 0).reverse = []
  rw [dg_zero]; rfl
end Go.Proofs.YtekkjbomadoplaaDoor

/-
 Texts of digits with a dot or none: how they are read, what their keys are. No program.
-/
namespace Go.Proofs.YtekkjbomadoplaaDoor
open Go.Eng
set_option linter.unusedVariables false
set_option linter.unusedSimpArgs false

/-- A digit's byte. -/
def chr (d : Int) : UInt8 := UInt8.ofNat ((48 + d) % 256).toNat
def byteD (l : List Int) : List UInt8 := l.map chr
/-- What stands behind the whole part. -/
def dotF (F : List Int) : List UInt8 := if F = [] then [] else 46 :: byteD F
structure NumTxt (t : ByteArray) (W F : List Int) : Prop where
 txt : t.data.toList = byteD W ++ dotF F
 dw : Dig W
 df : Dig F
 ne : W ≠ []
 head : W.head? ≠ some 0 ∨ W.length = 1

section
variable {t : ByteArray} {W F : List Int} (h : NumTxt t W F)
include h
end
/-! ### the text of M times 10^-b -/
end Go.Proofs.YtekkjbomadoplaaDoor
