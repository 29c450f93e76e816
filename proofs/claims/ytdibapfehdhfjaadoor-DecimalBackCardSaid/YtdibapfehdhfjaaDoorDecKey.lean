/-
  How the values of two numbers stand to one another: the keys of numbers and their order. No program.
-/
import Derived.Test.YtdibapfehdhfjaaDoorDecRel
namespace Go.Proofs.YtdibapfehdhfjaaDoor
open Go.Eng
set_option linter.unusedVariables false
set_option linter.unusedSimpArgs false

theorem dV_range (s : ByteArray) (i : Nat) : 0 ≤ dV s i ∧ dV s i < 256 := by unfold dV; omega
/-- The digit with the place value 10^i. -/
def atL (l : List Int) (i : Nat) : Int := if l.length ≤ i then 0 else l.getD (l.length - 1 - i) 0
def sgI (d : Bool) (x : Int) : Int := if d = true then -x else x
def LowL (l : List Int) : Prop := ∀ i, 0 ≤ atL l i ∧ atL l i ≤ 255
theorem low_dl (b : ByteArray) : LowL (dl b) := by
  intro i
  unfold atL
  split
  · omega
  · rename_i h
    rw [dl_length] at h ⊢
    have hi : b.size - 1 - i < (dl b).length := by rw [dl_length]; omega
    rw [List.getD_eq_getElem?_getD, List.getElem?_eq_getElem hi, Option.getD_some, dl_get b _ (by omega)]
    have := dV_range b (b.size - 1 - i)
    omega
def difL (d1 : Bool) (e1 : List Int) (d2 : Bool) (e2 : List Int) (i : Nat) : Int := sgI d1 (atL e1 i) - sgI d2 (atL e2 i)
theorem sgI_low (d : Bool) {x : Int} (h : 0 ≤ x ∧ x ≤ 255) : -255 ≤ sgI d x ∧ sgI d x ≤ 255 := by unfold sgI; split <;> omega
theorem difL_low {d1 d2 : Bool} {e1 e2 : List Int} (h1 : LowL e1) (h2 : LowL e2) (i : Nat) : -510 ≤ difL d1 e1 d2 e2 i ∧ difL d1 e1 d2 e2 i ≤ 510 := by
  have a := sgI_low d1 (h1 i)
  have b := sgI_low d2 (h2 i)
  unfold difL
  omega

theorem atL_nil (i : Nat) : atL [] i = 0 := rfl
theorem sgI_zero (d : Bool) : sgI d 0 = 0 := by cases d <;> rfl
/-- The difference of the exponents' digits. -/
def difS (a b : ByteArray) : Nat → Int := difL (progS a).down (dl (progS a).exp) (progS b).down (dl (progS b).exp)
def powS (a b : ByteArray) : Int := ap (difS a b) 0 (max (progS a).exp.size (progS b).exp.size) + ((progS a).off - (progS b).off)
/-- How two numbers' values stand, the signs apart. -/
def sizeS (a b : ByteArray) : Int :=
  if (progS a).digits.size = 0 then (if (progS b).digits.size = 0 then 0 else -1)
  else if (progS b).digits.size = 0 then 1
  else if powS a b = 0 then lexI (dl (progS a).digits) (dl (progS b).digits) else sgn (powS a b)
theorem difS_neg (a b : ByteArray) : difS b a = fun i => -difS a b i := by
  funext i
  unfold difS difL
  omega
theorem powS_neg (a b : ByteArray) : powS b a = -powS a b := by
  unfold powS
  rw [difS_neg a b, Nat.max_comm]
  have := ap_neg (difS a b) (max (progS a).exp.size (progS b).exp.size) 0
  rw [Int.neg_zero] at this
  rw [this]
  omega
theorem sizeS_neg (a b : ByteArray) : sizeS b a = -sizeS a b := by
  unfold sizeS
  rw [powS_neg a b, sgn_neg, lexI_neg (dl (progS a).digits) (dl (progS b).digits)]
  by_cases h1 : (progS a).digits.size = 0
  · by_cases h2 : (progS b).digits.size = 0 <;> simp [h1, h2]
  · by_cases h2 : (progS b).digits.size = 0
    · simp [h1, h2]
    · simp only [if_neg h1, if_neg h2]
      by_cases h3 : powS a b = 0
      · simp [h3]
      · rw [if_neg h3, if_neg (by omega)]
theorem sgn_clamp (x : Int) : (if (if x < 1 then x else 1) > -1 then (if x < 1 then x else 1) else -1) = sgn x := by
  unfold sgn
  split <;> split <;> first | omega | (split <;> first | omega | (split <;> omega))
theorem sgn_zero {x : Int} : sgn x = 0 ↔ x = 0 := by
  unfold sgn
  constructor
  · intro h
    split at h
    · cases h
    · split at h
      · cases h
      · omega
  · intro h; subst h; rfl
theorem lexI_range : ∀ (l m : List Int), -1 ≤ lexI l m ∧ lexI l m ≤ 1
  | [], [] => by simp [lexI]
  | [], _ :: _ => by simp [lexI]
  | _ :: _, [] => by simp [lexI]
  | a :: l, b :: m => by
    have := lexI_range l m
    simp only [lexI]
    split
    · omega
    · split <;> omega
theorem sgn_range (x : Int) : -1 ≤ sgn x ∧ sgn x ≤ 1 := by unfold sgn; split <;> first | omega | (split <;> omega)
theorem sizeS_range (a b : ByteArray) : -1 ≤ sizeS a b ∧ sizeS a b ≤ 1 := by
  have h1 := lexI_range (dl (progS a).digits) (dl (progS b).digits)
  have h2 := sgn_range (powS a b)
  unfold sizeS
  split
  · split <;> omega
  · split
    · omega
    · split
      · exact h1
      · exact h2


/-! ### keys: 0.digits times 10 to the power of pow -/
structure DKey where
  ds : List Int
  pow : Int
def cmpK (a b : DKey) : Int :=
  if a.ds = [] then (if b.ds = [] then 0 else -1)
  else if b.ds = [] then 1
  else if a.pow = b.pow then lexI a.ds b.ds else sgn (a.pow - b.pow)
/-- What an exponent's digits say. -/
def powE (e : List Int) : Int := ap (atL e) 0 e.length
def keyS (s : ByteArray) : DKey := ⟨dl (progS s).digits, sgI (progS s).down (powE (dl (progS s).exp)) + (progS s).off⟩

theorem ap_lin (f g : Nat → Int) : ∀ (k : Nat) (e e' : Int), ap (fun i => f i - g i) (e - e') k = ap f e k - ap g e' k
  | 0, e, e' => rfl
  | k + 1, e, e' => by
    simp only [ap]
    rw [show 10 * (e - e') + (f k - g k) = (10 * e + f k) - (10 * e' + g k) by omega]
    exact ap_lin f g k _ _
theorem ap_sgI (d : Bool) (f : Nat → Int) : ∀ (k : Nat) (e : Int), ap (fun i => sgI d (f i)) (sgI d e) k = sgI d (ap f e k) := by
  intro k e
  cases d with
  | false => rfl
  | true => exact ap_neg f k e
theorem atL_out {l : List Int} {i : Nat} (h : l.length ≤ i) : atL l i = 0 := by unfold atL; rw [if_pos h]
theorem ap_more (l : List Int) : ∀ k, l.length ≤ k → ap (atL l) 0 k = powE l := by
  intro k hk
  induction k with
  | zero =>
    have : l.length = 0 := by omega
    unfold powE
    rw [this]
  | succ k ih =>
    rcases Nat.eq_or_lt_of_le hk with h | h
    · unfold powE; rw [h]
    · simp only [ap]
      rw [atL_out (by omega : l.length ≤ k)]
      exact ih (by omega)
theorem ap_difL (d1 : Bool) (e1 : List Int) (d2 : Bool) (e2 : List Int) (n : Nat) (h1 : e1.length ≤ n) (h2 : e2.length ≤ n) : ap (difL d1 e1 d2 e2) 0 n = sgI d1 (powE e1) - sgI d2 (powE e2) := by
  have h := ap_lin (fun i => sgI d1 (atL e1 i)) (fun i => sgI d2 (atL e2 i)) n (sgI d1 0) (sgI d2 0)
  rw [ap_sgI, ap_sgI, ap_more e1 n h1, ap_more e2 n h2, sgI_zero, sgI_zero] at h
  exact h
theorem powS_key (a b : ByteArray) : powS a b = (keyS a).pow - (keyS b).pow := by
  have h := ap_difL (progS a).down (dl (progS a).exp) (progS b).down (dl (progS b).exp) (max (progS a).exp.size (progS b).exp.size) (by rw [dl_length]; omega) (by rw [dl_length]; omega)
  have e : powS a b = ap (difL (progS a).down (dl (progS a).exp) (progS b).down (dl (progS b).exp)) 0 (max (progS a).exp.size (progS b).exp.size) + ((progS a).off - (progS b).off) := rfl
  rw [e, h]
  have e1 : (keyS a).pow = sgI (progS a).down (powE (dl (progS a).exp)) + (progS a).off := by unfold keyS; dsimp only
  have e2 : (keyS b).pow = sgI (progS b).down (powE (dl (progS b).exp)) + (progS b).off := by unfold keyS; dsimp only
  rw [e1, e2]
  generalize sgI (progS a).down (powE (dl (progS a).exp)) = x
  generalize sgI (progS b).down (powE (dl (progS b).exp)) = y
  generalize (progS a).off = z
  generalize (progS b).off = t
  omega
theorem keyS_ds (s : ByteArray) : (keyS s).ds = dl (progS s).digits := by unfold keyS; dsimp only
theorem dl_nil (b : ByteArray) : (dl b = []) = (b.size = 0) := by
  rw [← dl_length]
  exact propext List.length_eq_zero_iff.symm
theorem sub_eq0 (x y : Int) : (x - y = 0) = (x = y) := propext (by omega)
theorem sizeS_key (a b : ByteArray) : sizeS a b = cmpK (keyS a) (keyS b) := by
  unfold sizeS cmpK
  simp only [powS_key, keyS_ds, dl_nil, sub_eq0]
theorem lexI_refl : ∀ l : List Int, lexI l l = 0
  | [] => rfl
  | x :: l => by simp only [lexI, Int.lt_irrefl, if_false]; exact lexI_refl l
theorem lexI_trans : ∀ (l m n : List Int), lexI l m ≤ 0 → lexI m n ≤ 0 → lexI l n ≤ 0 ∧ (lexI l m < 0 ∨ lexI m n < 0 → lexI l n < 0)
  | [], [], [], _, _ => ⟨by decide, fun h => by rcases h with h | h <;> exact absurd h (by decide)⟩
  | [], _ :: _, [], _, h => absurd h (by simp [lexI])
  | [], [], _ :: _, _, _ => ⟨by simp [lexI], fun _ => by simp [lexI]⟩
  | [], _ :: _, _ :: _, _, _ => ⟨by simp [lexI], fun _ => by simp [lexI]⟩
  | _ :: _, [], _, h, _ => absurd h (by simp [lexI])
  | _ :: _, _ :: _, [], _, h => absurd h (by simp [lexI])
  | x :: l, y :: m, z :: n, h1, h2 => by
    have ih := lexI_trans l m n
    have e1 : lexI (x :: l) (y :: m) = if x < y then -1 else if y < x then 1 else lexI l m := rfl
    have e2 : lexI (y :: m) (z :: n) = if y < z then -1 else if z < y then 1 else lexI m n := rfl
    have e3 : lexI (x :: l) (z :: n) = if x < z then -1 else if z < x then 1 else lexI l n := rfl
    by_cases a1 : x < y
    · have hyz : ¬ z < y := fun h => by rw [e2, if_neg (by omega), if_pos h] at h2; omega
      rw [e3, if_pos (by omega)]
      omega
    · have hyx : ¬ y < x := fun h => by rw [e1, if_neg a1, if_pos h] at h1; omega
      rw [e1, if_neg a1, if_neg hyx] at h1 ⊢
      by_cases b1 : y < z
      · rw [e3, if_pos (by omega)]
        omega
      · have hzy : ¬ z < y := fun h => by rw [e2, if_neg b1, if_pos h] at h2; omega
        rw [e2, if_neg b1, if_neg hzy] at h2 ⊢
        rw [e3, if_neg (by omega), if_neg (by omega)]
        exact ih h1 h2
theorem cmpK_refl (a : DKey) : cmpK a a = 0 := by
  unfold cmpK
  by_cases h : a.ds = []
  · simp [h]
  · simp [h, lexI_refl]
theorem cmpK_neg (a b : DKey) : cmpK b a = -cmpK a b := by
  unfold cmpK
  rw [lexI_neg a.ds b.ds, show b.pow - a.pow = -(a.pow - b.pow) by omega, sgn_neg]
  by_cases h1 : a.ds = [] <;> by_cases h2 : b.ds = [] <;> simp [h1, h2]
  by_cases h : a.pow = b.pow
  · simp [h]
  · rw [if_neg (Ne.symm h), if_neg h]
theorem sgn_ltz {x : Int} : sgn x < 0 ↔ x < 0 := by unfold sgn; split <;> (try split) <;> omega
theorem sgn_lez {x : Int} : sgn x ≤ 0 ↔ x ≤ 0 := by unfold sgn; split <;> (try split) <;> omega
theorem cmpK_trans {a b c : DKey} (h1 : cmpK a b ≤ 0) (h2 : cmpK b c ≤ 0) : cmpK a c ≤ 0 ∧ (cmpK a b < 0 ∨ cmpK b c < 0 → cmpK a c < 0) := by
  by_cases ha : a.ds = []
  · by_cases hb : b.ds = []
    · by_cases hc : c.ds = []
      · simp [cmpK, ha, hb, hc]
      · simp [cmpK, ha, hb, hc]
    · by_cases hc : c.ds = []
      · simp [cmpK, hb, hc] at h2
      · simp [cmpK, ha, hb, hc]
  · by_cases hb : b.ds = []
    · simp [cmpK, ha, hb] at h1
    · by_cases hc : c.ds = []
      · simp [cmpK, hb, hc] at h2
      · have e1 : cmpK a b = if a.pow = b.pow then lexI a.ds b.ds else sgn (a.pow - b.pow) := by simp [cmpK, ha, hb]
        have e2 : cmpK b c = if b.pow = c.pow then lexI b.ds c.ds else sgn (b.pow - c.pow) := by simp [cmpK, hb, hc]
        have e3 : cmpK a c = if a.pow = c.pow then lexI a.ds c.ds else sgn (a.pow - c.pow) := by simp [cmpK, ha, hc]
        rw [e1] at h1 ⊢
        rw [e2] at h2 ⊢
        rw [e3]
        by_cases p : a.pow = b.pow
        · rw [if_pos p] at h1 ⊢
          by_cases q : b.pow = c.pow
          · rw [if_pos q] at h2 ⊢
            rw [if_pos (by omega)]
            exact lexI_trans _ _ _ h1 h2
          · rw [if_neg q, sgn_lez] at h2
            rw [if_neg (by omega), sgn_lez, sgn_ltz]
            omega
        · rw [if_neg p, sgn_lez] at h1
          by_cases q : b.pow = c.pow
          · rw [if_neg (by omega), sgn_lez, sgn_ltz]
            omega
          · rw [if_neg q, sgn_lez] at h2
            rw [if_neg (by omega), sgn_lez, sgn_ltz]
            omega

/-! ### values -/
/-- The digits behind the dot, as so many units of 10^-k. -/
def frac : List Int → Nat → Int
  | [], _ => 0
  | _ :: _, 0 => 0
  | d :: l, k + 1 => d * 10 ^ k + frac l k
def Dig (l : List Int) : Prop := ∀ d ∈ l, 0 ≤ d ∧ d ≤ 9
/-- The last one is none of nought. -/
def LastNZ : List Int → Prop
  | [] => True
  | [d] => d ≠ 0
  | _ :: l => LastNZ l
theorem LastNZ.tail {d : Int} : ∀ {l : List Int}, LastNZ (d :: l) → LastNZ l
  | [], _ => trivial
  | _ :: _, h => h
theorem Dig.tail {d : Int} {l : List Int} (h : Dig (d :: l)) : Dig l := fun x hx => h x (List.mem_cons_of_mem _ hx)
theorem ten_pos (k : Nat) : (0 : Int) < 10 ^ k := Int.pow_pos (by decide)
theorem frac_lt : ∀ {l : List Int} {k : Nat}, Dig l → l.length ≤ k → 0 ≤ frac l k ∧ frac l k < 10 ^ k
  | [], k, _, _ => ⟨Int.le_refl _, ten_pos k⟩
  | d :: l, 0, _, h => by simp at h
  | d :: l, k + 1, hd, h => by
    obtain ⟨h1, h2⟩ := frac_lt hd.tail (show l.length ≤ k by simpa using h)
    obtain ⟨g1, g2⟩ := hd d List.mem_cons_self
    have hp := ten_pos k
    have hm1 : 0 ≤ d * 10 ^ k := Int.mul_nonneg g1 (Int.le_of_lt hp)
    have hm2 : d * 10 ^ k ≤ 9 * 10 ^ k := Int.mul_le_mul_of_nonneg_right g2 (Int.le_of_lt hp)
    have e : (10 : Int) ^ (k + 1) = 10 * 10 ^ k := by rw [Int.pow_succ, Int.mul_comm]
    simp only [frac]
    rw [e]
    omega
theorem frac_pos : ∀ {l : List Int} {k : Nat}, Dig l → LastNZ l → l ≠ [] → l.length ≤ k → 0 < frac l k
  | [], _, _, _, h, _ => absurd rfl h
  | d :: l, 0, _, _, _, h => by simp at h
  | [d], k + 1, hd, hz, _, h => by
    have g := hd d List.mem_cons_self
    have hp := ten_pos k
    have hz' : d ≠ 0 := hz
    have : 0 < d * 10 ^ k := Int.mul_pos (by omega) hp
    simp only [frac]
    omega
  | d :: x :: l, k + 1, hd, hz, _, h => by
    have ih := frac_pos (l := x :: l) (k := k) hd.tail hz (by simp) (by simpa using h)
    have g := hd d List.mem_cons_self
    have hp := ten_pos k
    have : 0 ≤ d * 10 ^ k := Int.mul_nonneg g.1 (Int.le_of_lt hp)
    simp only [frac] at ih ⊢
    omega
theorem sgn_of_lt {x : Int} (h : x < 0) : sgn x = -1 := by unfold sgn; rw [if_pos h]
theorem sgn_of_gt {x : Int} (h : 0 < x) : sgn x = 1 := by unfold sgn; rw [if_neg (by omega), if_pos h]
theorem lex_frac : ∀ {l m : List Int} {k : Nat}, Dig l → Dig m → LastNZ l → LastNZ m → l.length ≤ k → m.length ≤ k → lexI l m = sgn (frac l k - frac m k)
  | [], [], k, _, _, _, _, _, _ => by simp [lexI, frac, sgn]
  | [], y :: m, k, _, hm, _, zm, _, h => by
    have := frac_pos hm zm (by simp) h
    rw [sgn_of_lt (by simp only [frac]; omega)]
    rfl
  | x :: l, [], k, hl, _, zl, _, h, _ => by
    have := frac_pos hl zl (by simp) h
    rw [sgn_of_gt (by simp only [frac]; omega)]
    rfl
  | x :: l, y :: m, 0, _, _, _, _, h, _ => by simp at h
  | x :: l, y :: m, k + 1, hl, hm, zl, zm, h, h' => by
    have ih := lex_frac (k := k) hl.tail hm.tail zl.tail zm.tail (by simpa using h) (by simpa using h')
    obtain ⟨a1, a2⟩ := frac_lt hl.tail (show l.length ≤ k by simpa using h)
    obtain ⟨b1, b2⟩ := frac_lt hm.tail (show m.length ≤ k by simpa using h')
    have hp := ten_pos k
    simp only [lexI, frac]
    by_cases c1 : x < y
    · have : (x + 1) * 10 ^ k ≤ y * 10 ^ k := Int.mul_le_mul_of_nonneg_right (by omega) (Int.le_of_lt hp)
      rw [Int.add_mul] at this
      rw [if_pos c1, sgn_of_lt (by omega)]
    · by_cases c2 : y < x
      · have : (y + 1) * 10 ^ k ≤ x * 10 ^ k := Int.mul_le_mul_of_nonneg_right (by omega) (Int.le_of_lt hp)
        rw [Int.add_mul] at this
        rw [if_neg c1, if_pos c2, sgn_of_gt (by omega)]
      · have : x = y := by omega
        subst this
        rw [if_neg c1, if_neg c2, ih]
        congr 1
        omega
/-- The value of a key as so many units of 10^-K. -/
def valK (K : Nat) (a : DKey) : Int := frac a.ds (a.pow + K).toNat
structure Norm (a : DKey) : Prop where
  dig : Dig a.ds
  last : LastNZ a.ds
  first : ∀ d, a.ds.head? = some d → d ≠ 0
def Fits (K : Nat) (a : DKey) : Prop := a.ds = [] ∨ (a.ds.length : Int) ≤ a.pow + K
theorem frac_ge {d : Int} {l : List Int} {k : Nat} (hd : Dig (d :: l)) (h0 : d ≠ 0) (h : l.length ≤ k) : 10 ^ k ≤ frac (d :: l) (k + 1) := by
  obtain ⟨a1, a2⟩ := frac_lt hd.tail h
  have g := hd d List.mem_cons_self
  have hp := ten_pos k
  have : 1 * 10 ^ k ≤ d * 10 ^ k := Int.mul_le_mul_of_nonneg_right (by omega) (Int.le_of_lt hp)
  simp only [frac]
  omega
theorem ten_le {i j : Nat} (h : i ≤ j) : (10 : Int) ^ i ≤ 10 ^ j := by
  obtain ⟨n, rfl⟩ := Nat.exists_eq_add_of_le h
  have h1 := ten_pos i
  have h2 := ten_pos n
  rw [Int.pow_add]
  have : 10 ^ i * 1 ≤ (10 : Int) ^ i * 10 ^ n := Int.mul_le_mul_of_nonneg_left (by omega) (Int.le_of_lt h1)
  omega
/-- Keys stand to one another as their values do. -/
theorem cmpK_val {K : Nat} {a b : DKey} (na : Norm a) (nb : Norm b) (fa : Fits K a) (fb : Fits K b) : cmpK a b = sgn (valK K a - valK K b) := by
  have low : ∀ {a b : DKey}, Norm a → Norm b → a.ds ≠ [] → b.ds ≠ [] → (a.ds.length : Int) ≤ a.pow + K → (b.ds.length : Int) ≤ b.pow + K → a.pow < b.pow → valK K a < valK K b := by
    intro a b na nb ha hb fa fb h
    have h1 := (frac_lt na.dig (show a.ds.length ≤ (a.pow + K).toNat by omega)).2
    cases hbd : b.ds with
    | nil => exact absurd hbd hb
    | cons d l =>
      rw [hbd] at fb
      simp only [List.length_cons] at fb
      have h2 := frac_ge (k := (b.pow + K).toNat - 1) (hbd ▸ nb.dig) (nb.first d (by rw [hbd]; rfl)) (by omega)
      rw [show (b.pow + K).toNat - 1 + 1 = (b.pow + K).toNat by omega, ← hbd] at h2
      have h3 := ten_le (show (a.pow + K).toNat ≤ (b.pow + K).toNat - 1 by omega)
      show frac a.ds _ < frac b.ds _
      omega
  by_cases ha : a.ds = []
  · have e1 : valK K a = 0 := by unfold valK; rw [ha]; rfl
    by_cases hb : b.ds = []
    · have e2 : valK K b = 0 := by unfold valK; rw [hb]; rfl
      simp [cmpK, ha, hb, e1, e2, sgn]
    · have := frac_pos nb.dig nb.last hb (show b.ds.length ≤ (b.pow + K).toNat by rcases fb with h | h; exact absurd h hb; omega)
      have e2 : 0 < valK K b := this
      rw [e1, sgn_of_lt (by omega)]
      simp [cmpK, ha, hb]
  · have fa' : (a.ds.length : Int) ≤ a.pow + K := fa.resolve_left ha
    by_cases hb : b.ds = []
    · have e2 : valK K b = 0 := by unfold valK; rw [hb]; rfl
      have e1 : 0 < valK K a := frac_pos na.dig na.last ha (show a.ds.length ≤ (a.pow + K).toNat by omega)
      rw [e2, sgn_of_gt (by omega)]
      simp [cmpK, ha, hb]
    · have fb' : (b.ds.length : Int) ≤ b.pow + K := fb.resolve_left hb
      have e : cmpK a b = if a.pow = b.pow then lexI a.ds b.ds else sgn (a.pow - b.pow) := by simp [cmpK, ha, hb]
      rw [e]
      by_cases p : a.pow = b.pow
      · rw [if_pos p]
        unfold valK
        rw [← p]
        exact lex_frac na.dig nb.dig na.last nb.last (by omega) (by omega)
      · rw [if_neg p]
        rcases Int.lt_or_gt_of_ne p with h | h
        · have := low na nb ha hb fa' fb' h
          rw [sgn_of_lt (by omega), sgn_of_lt (by omega)]
        · have := low nb na hb ha fb' fa' h
          rw [sgn_of_gt (by omega), sgn_of_gt (by omega)]
end Go.Proofs.YtdibapfehdhfjaaDoor
