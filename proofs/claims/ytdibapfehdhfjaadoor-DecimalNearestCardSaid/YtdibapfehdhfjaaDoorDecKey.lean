/-
  How the values of two numbers stand to one another: the keys of numbers and their order. No program.
-/
import Derived.Test.YtdibapfehdhfjaaDoorDecRel
namespace Go.Proofs.YtdibapfehdhfjaaDoor
open Go.Eng
set_option linter.unusedVariables false
set_option linter.unusedSimpArgs false

theorem dV_range (s : ByteArray) (i : Nat) : 0 ≤ dV s i ∧ dV s i < 256 := by unfold dV; omega
/-- The digit with the place value 10^i. -/
def atL (l : List Int) (i : Nat) : Int := if l.length ≤ i then 0 else l.getD (l.length - 1 - i) 0
def sgI (d : Bool) (x : Int) : Int := if d = true then -x else x
def LowL (l : List Int) : Prop := ∀ i, 0 ≤ atL l i ∧ atL l i ≤ 255
theorem low_dl (b : ByteArray) : LowL (dl b) := by
  intro i
  unfold atL
  split
  · omega
  · rename_i h
    rw [dl_length] at h ⊢
    have hi : b.size - 1 - i < (dl b).length := by rw [dl_length]; omega
    rw [List.getD_eq_getElem?_getD, List.getElem?_eq_getElem hi, Option.getD_some, dl_get b _ (by omega)]
    have := dV_range b (b.size - 1 - i)
    omega
def difL (d1 : Bool) (e1 : List Int) (d2 : Bool) (e2 : List Int) (i : Nat) : Int := sgI d1 (atL e1 i) - sgI d2 (atL e2 i)
theorem sgI_low (d : Bool) {x : Int} (h : 0 ≤ x ∧ x ≤ 255) : -255 ≤ sgI d x ∧ sgI d x ≤ 255 := by unfold sgI; split <;> omega
theorem difL_low {d1 d2 : Bool} {e1 e2 : List Int} (h1 : LowL e1) (h2 : LowL e2) (i : Nat) : -510 ≤ difL d1 e1 d2 e2 i ∧ difL d1 e1 d2 e2 i ≤ 510 := by
  have a := sgI_low d1 (h1 i)
  have b := sgI_low d2 (h2 i)
  unfold difL
  omega

theorem sgI_zero (d : Bool) : sgI d 0 = 0 := by cases d <;> rfl
/-- The difference of the exponents' digits. -/
def difS (a b : ByteArray) : Nat → Int := difL (progS a).down (dl (progS a).exp) (progS b).down (dl (progS b).exp)
def powS (a b : ByteArray) : Int := ap (difS a b) 0 (max (progS a).exp.size (progS b).exp.size) + ((progS a).off - (progS b).off)
/-- How two numbers' values stand, the signs apart. -/
def sizeS (a b : ByteArray) : Int :=
  if (progS a).digits.size = 0 then (if (progS b).digits.size = 0 then 0 else -1)
  else if (progS b).digits.size = 0 then 1
  else if powS a b = 0 then lexI (dl (progS a).digits) (dl (progS b).digits) else sgn (powS a b)
theorem difS_neg (a b : ByteArray) : difS b a = fun i => -difS a b i := by
  funext i
  unfold difS difL
  omega
theorem powS_neg (a b : ByteArray) : powS b a = -powS a b := by
  unfold powS
  rw [difS_neg a b, Nat.max_comm]
  have := ap_neg (difS a b) (max (progS a).exp.size (progS b).exp.size) 0
  rw [Int.neg_zero] at this
  rw [this]
  omega
theorem sizeS_neg (a b : ByteArray) : sizeS b a = -sizeS a b := by
  unfold sizeS
  rw [powS_neg a b, sgn_neg, lexI_neg (dl (progS a).digits) (dl (progS b).digits)]
  by_cases h1 : (progS a).digits.size = 0
  · by_cases h2 : (progS b).digits.size = 0 <;> simp [h1, h2]
  · by_cases h2 : (progS b).digits.size = 0
    · simp [h1, h2]
    · simp only [if_neg h1, if_neg h2]
      by_cases h3 : powS a b = 0
      · simp [h3]
      · rw [if_neg h3, if_neg (by omega)]
theorem sgn_clamp (x : Int) : (if (if x < 1 then x else 1) > -1 then (if x < 1 then x else 1) else -1) = sgn x := by
  unfold sgn
  split <;> split <;> first | omega | (split <;> first | omega | (split <;> omega))
theorem sgn_zero {x : Int} : sgn x = 0 ↔ x = 0 := by
  unfold sgn
  constructor
  · intro h
    split at h
    · cases h
    · split at h
      · cases h
      · omega
  · intro h; subst h; rfl
/-! ### keys: 0.digits times 10 to the power of pow -/
structure DKey where
  ds : List Int
  pow : Int
def cmpK (a b : DKey) : Int :=
  if a.ds = [] then (if b.ds = [] then 0 else -1)
  else if b.ds = [] then 1
  else if a.pow = b.pow then lexI a.ds b.ds else sgn (a.pow - b.pow)
/-- What an exponent's digits say. -/
def powE (e : List Int) : Int := ap (atL e) 0 e.length
def keyS (s : ByteArray) : DKey := ⟨dl (progS s).digits, sgI (progS s).down (powE (dl (progS s).exp)) + (progS s).off⟩

theorem ap_lin (f g : Nat → Int) : ∀ (k : Nat) (e e' : Int), ap (fun i => f i - g i) (e - e') k = ap f e k - ap g e' k
  | 0, e, e' => rfl
  | k + 1, e, e' => by
    simp only [ap]
    rw [show 10 * (e - e') + (f k - g k) = (10 * e + f k) - (10 * e' + g k) by omega]
    exact ap_lin f g k _ _
theorem ap_sgI (d : Bool) (f : Nat → Int) : ∀ (k : Nat) (e : Int), ap (fun i => sgI d (f i)) (sgI d e) k = sgI d (ap f e k) := by
  intro k e
  cases d with
  | false => rfl
  | true => exact ap_neg f k e
theorem atL_out {l : List Int} {i : Nat} (h : l.length ≤ i) : atL l i = 0 := by unfold atL; rw [if_pos h]
theorem ap_more (l : List Int) : ∀ k, l.length ≤ k → ap (atL l) 0 k = powE l := by
  intro k hk
  induction k with
  | zero =>
    have : l.length = 0 := by omega
    unfold powE
    rw [this]
  | succ k ih =>
    rcases Nat.eq_or_lt_of_le hk with h | h
    · unfold powE; rw [h]
    · simp only [ap]
      rw [atL_out (by omega : l.length ≤ k)]
      exact ih (by omega)
theorem ap_difL (d1 : Bool) (e1 : List Int) (d2 : Bool) (e2 : List Int) (n : Nat) (h1 : e1.length ≤ n) (h2 : e2.length ≤ n) : ap (difL d1 e1 d2 e2) 0 n = sgI d1 (powE e1) - sgI d2 (powE e2) := by
  have h := ap_lin (fun i => sgI d1 (atL e1 i)) (fun i => sgI d2 (atL e2 i)) n (sgI d1 0) (sgI d2 0)
  rw [ap_sgI, ap_sgI, ap_more e1 n h1, ap_more e2 n h2, sgI_zero, sgI_zero] at h
  exact h
theorem powS_key (a b : ByteArray) : powS a b = (keyS a).pow - (keyS b).pow := by
  have h := ap_difL (progS a).down (dl (progS a).exp) (progS b).down (dl (progS b).exp) (max (progS a).exp.size (progS b).exp.size) (by rw [dl_length]; omega) (by rw [dl_length]; omega)
  have e : powS a b = ap (difL (progS a).down (dl (progS a).exp) (progS b).down (dl (progS b).exp)) 0 (max (progS a).exp.size (progS b).exp.size) + ((progS a).off - (progS b).off) := rfl
  rw [e, h]
  have e1 : (keyS a).pow = sgI (progS a).down (powE (dl (progS a).exp)) + (progS a).off := by unfold keyS; dsimp only
  have e2 : (keyS b).pow = sgI (progS b).down (powE (dl (progS b).exp)) + (progS b).off := by unfold keyS; dsimp only
  rw [e1, e2]
  generalize sgI (progS a).down (powE (dl (progS a).exp)) = x
  generalize sgI (progS b).down (powE (dl (progS b).exp)) = y
  generalize (progS a).off = z
  generalize (progS b).off = t
  omega
theorem keyS_ds (s : ByteArray) : (keyS s).ds = dl (progS s).digits := by unfold keyS; dsimp only
theorem dl_nil (b : ByteArray) : (dl b = []) = (b.size = 0) := by
  rw [← dl_length]
  exact propext List.length_eq_zero_iff.symm
theorem sub_eq0 (x y : Int) : (x - y = 0) = (x = y) := propext (by omega)
theorem sizeS_key (a b : ByteArray) : sizeS a b = cmpK (keyS a) (keyS b) := by
  unfold sizeS cmpK
  simp only [powS_key, keyS_ds, dl_nil, sub_eq0]
theorem sgn_ltz {x : Int} : sgn x < 0 ↔ x < 0 := by unfold sgn; split <;> (try split) <;> omega
theorem sgn_lez {x : Int} : sgn x ≤ 0 ↔ x ≤ 0 := by unfold sgn; split <;> (try split) <;> omega
/-! ### values -/
/-- The digits behind the dot, as so many units of 10^-k. -/
def frac : List Int → Nat → Int
  | [], _ => 0
  | _ :: _, 0 => 0
  | d :: l, k + 1 => d * 10 ^ k + frac l k
def Dig (l : List Int) : Prop := ∀ d ∈ l, 0 ≤ d ∧ d ≤ 9
/-- The last one is none of nought. -/
def LastNZ : List Int → Prop
  | [] => True
  | [d] => d ≠ 0
  | _ :: l => LastNZ l
theorem LastNZ.tail {d : Int} : ∀ {l : List Int}, LastNZ (d :: l) → LastNZ l
  | [], _ => trivial
  | _ :: _, h => h
theorem Dig.tail {d : Int} {l : List Int} (h : Dig (d :: l)) : Dig l := fun x hx => h x (List.mem_cons_of_mem _ hx)
theorem ten_pos (k : Nat) : (0 : Int) < 10 ^ k := Int.pow_pos (by decide)
theorem frac_lt : ∀ {l : List Int} {k : Nat}, Dig l → l.length ≤ k → 0 ≤ frac l k ∧ frac l k < 10 ^ k
  | [], k, _, _ => ⟨Int.le_refl _, ten_pos k⟩
  | d :: l, 0, _, h => by simp at h
  | d :: l, k + 1, hd, h => by
    obtain ⟨h1, h2⟩ := frac_lt hd.tail (show l.length ≤ k by simpa using h)
    obtain ⟨g1, g2⟩ := hd d List.mem_cons_self
    have hp := ten_pos k
    have hm1 : 0 ≤ d * 10 ^ k := Int.mul_nonneg g1 (Int.le_of_lt hp)
    have hm2 : d * 10 ^ k ≤ 9 * 10 ^ k := Int.mul_le_mul_of_nonneg_right g2 (Int.le_of_lt hp)
    have e : (10 : Int) ^ (k + 1) = 10 * 10 ^ k := by rw [Int.pow_succ, Int.mul_comm]
    simp only [frac]
    rw [e]
    omega
theorem frac_pos : ∀ {l : List Int} {k : Nat}, Dig l → LastNZ l → l ≠ [] → l.length ≤ k → 0 < frac l k
  | [], _, _, _, h, _ => absurd rfl h
  | d :: l, 0, _, _, _, h => by simp at h
  | [d], k + 1, hd, hz, _, h => by
    have g := hd d List.mem_cons_self
    have hp := ten_pos k
    have hz' : d ≠ 0 := hz
    have : 0 < d * 10 ^ k := Int.mul_pos (by omega) hp
    simp only [frac]
    omega
  | d :: x :: l, k + 1, hd, hz, _, h => by
    have ih := frac_pos (l := x :: l) (k := k) hd.tail hz (by simp) (by simpa using h)
    have g := hd d List.mem_cons_self
    have hp := ten_pos k
    have : 0 ≤ d * 10 ^ k := Int.mul_nonneg g.1 (Int.le_of_lt hp)
    simp only [frac] at ih ⊢
    omega
theorem sgn_of_lt {x : Int} (h : x < 0) : sgn x = -1 := by unfold sgn; rw [if_pos h]
theorem sgn_of_gt {x : Int} (h : 0 < x) : sgn x = 1 := by unfold sgn; rw [if_neg (by omega), if_pos h]
theorem lex_frac : ∀ {l m : List Int} {k : Nat}, Dig l → Dig m → LastNZ l → LastNZ m → l.length ≤ k → m.length ≤ k → lexI l m = sgn (frac l k - frac m k)
  | [], [], k, _, _, _, _, _, _ => by simp [lexI, frac, sgn]
  | [], y :: m, k, _, hm, _, zm, _, h => by
    have := frac_pos hm zm (by simp) h
    rw [sgn_of_lt (by simp only [frac]; omega)]
    rfl
  | x :: l, [], k, hl, _, zl, _, h, _ => by
    have := frac_pos hl zl (by simp) h
    rw [sgn_of_gt (by simp only [frac]; omega)]
    rfl
  | x :: l, y :: m, 0, _, _, _, _, h, _ => by simp at h
  | x :: l, y :: m, k + 1, hl, hm, zl, zm, h, h' => by
    have ih := lex_frac (k := k) hl.tail hm.tail zl.tail zm.tail (by simpa using h) (by simpa using h')
    obtain ⟨a1, a2⟩ := frac_lt hl.tail (show l.length ≤ k by simpa using h)
    obtain ⟨b1, b2⟩ := frac_lt hm.tail (show m.length ≤ k by simpa using h')
    have hp := ten_pos k
    simp only [lexI, frac]
    by_cases c1 : x < y
    · have : (x + 1) * 10 ^ k ≤ y * 10 ^ k := Int.mul_le_mul_of_nonneg_right (by omega) (Int.le_of_lt hp)
      rw [Int.add_mul] at this
      rw [if_pos c1, sgn_of_lt (by omega)]
    · by_cases c2 : y < x
      · have : (y + 1) * 10 ^ k ≤ x * 10 ^ k := Int.mul_le_mul_of_nonneg_right (by omega) (Int.le_of_lt hp)
        rw [Int.add_mul] at this
        rw [if_neg c1, if_pos c2, sgn_of_gt (by omega)]
      · have : x = y := by omega
        subst this
        rw [if_neg c1, if_neg c2, ih]
        congr 1
        omega
/-- The value of a key as so many units of 10^-K. -/
def valK (K : Nat) (a : DKey) : Int := frac a.ds (a.pow + K).toNat
structure Norm (a : DKey) : Prop where
  dig : Dig a.ds
  last : LastNZ a.ds
  first : ∀ d, a.ds.head? = some d → d ≠ 0
def Fits (K : Nat) (a : DKey) : Prop := a.ds = [] ∨ (a.ds.length : Int) ≤ a.pow + K
theorem frac_ge {d : Int} {l : List Int} {k : Nat} (hd : Dig (d :: l)) (h0 : d ≠ 0) (h : l.length ≤ k) : 10 ^ k ≤ frac (d :: l) (k + 1) := by
  obtain ⟨a1, a2⟩ := frac_lt hd.tail h
  have g := hd d List.mem_cons_self
  have hp := ten_pos k
  have : 1 * 10 ^ k ≤ d * 10 ^ k := Int.mul_le_mul_of_nonneg_right (by omega) (Int.le_of_lt hp)
  simp only [frac]
  omega
theorem ten_le {i j : Nat} (h : i ≤ j) : (10 : Int) ^ i ≤ 10 ^ j := by
  obtain ⟨n, rfl⟩ := Nat.exists_eq_add_of_le h
  have h1 := ten_pos i
  have h2 := ten_pos n
  rw [Int.pow_add]
  have : 10 ^ i * 1 ≤ (10 : Int) ^ i * 10 ^ n := Int.mul_le_mul_of_nonneg_left (by omega) (Int.le_of_lt h1)
  omega
/-- Keys stand to one another as their values do. -/
theorem cmpK_val {K : Nat} {a b : DKey} (na : Norm a) (nb : Norm b) (fa : Fits K a) (fb : Fits K b) : cmpK a b = sgn (valK K a - valK K b) := by
  have low : ∀ {a b : DKey}, Norm a → Norm b → a.ds ≠ [] → b.ds ≠ [] → (a.ds.length : Int) ≤ a.pow + K → (b.ds.length : Int) ≤ b.pow + K → a.pow < b.pow → valK K a < valK K b := by
    intro a b na nb ha hb fa fb h
    have h1 := (frac_lt na.dig (show a.ds.length ≤ (a.pow + K).toNat by omega)).2
    cases hbd : b.ds with
    | nil => exact absurd hbd hb
    | cons d l =>
      rw [hbd] at fb
      simp only [List.length_cons] at fb
      have h2 := frac_ge (k := (b.pow + K).toNat - 1) (hbd ▸ nb.dig) (nb.first d (by rw [hbd]; rfl)) (by omega)
      rw [show (b.pow + K).toNat - 1 + 1 = (b.pow + K).toNat by omega, ← hbd] at h2
      have h3 := ten_le (show (a.pow + K).toNat ≤ (b.pow + K).toNat - 1 by omega)
      show frac a.ds _ < frac b.ds _
      omega
  by_cases ha : a.ds = []
  · have e1 : valK K a = 0 := by unfold valK; rw [ha]; rfl
    by_cases hb : b.ds = []
    · have e2 : valK K b = 0 := by unfold valK; rw [hb]; rfl
      simp [cmpK, ha, hb, e1, e2, sgn]
    · have := frac_pos nb.dig nb.last hb (show b.ds.length ≤ (b.pow + K).toNat by rcases fb with h | h; exact absurd h hb; omega)
      have e2 : 0 < valK K b := this
      rw [e1, sgn_of_lt (by omega)]
      simp [cmpK, ha, hb]
  · have fa' : (a.ds.length : Int) ≤ a.pow + K := fa.resolve_left ha
    by_cases hb : b.ds = []
    · have e2 : valK K b = 0 := by unfold valK; rw [hb]; rfl
      have e1 : 0 < valK K a := frac_pos na.dig na.last ha (show a.ds.length ≤ (a.pow + K).toNat by omega)
      rw [e2, sgn_of_gt (by omega)]
      simp [cmpK, ha, hb]
    · have fb' : (b.ds.length : Int) ≤ b.pow + K := fb.resolve_left hb
      have e : cmpK a b = if a.pow = b.pow then lexI a.ds b.ds else sgn (a.pow - b.pow) := by simp [cmpK, ha, hb]
      rw [e]
      by_cases p : a.pow = b.pow
      · rw [if_pos p]
        unfold valK
        rw [← p]
        exact lex_frac na.dig nb.dig na.last nb.last (by omega) (by omega)
      · rw [if_neg p]
        rcases Int.lt_or_gt_of_ne p with h | h
        · have := low na nb ha hb fa' fb' h
          rw [sgn_of_lt (by omega), sgn_of_lt (by omega)]
        · have := low nb na hb ha fb' fa' h
          rw [sgn_of_gt (by omega), sgn_of_gt (by omega)]
end Go.Proofs.YtdibapfehdhfjaaDoor

/-
  The keys of texts, and their values where there is no exponent. No program.
-/
namespace Go.Proofs.YtdibapfehdhfjaaDoor
open Go.Eng
set_option linter.unusedVariables false
set_option linter.unusedSimpArgs false

theorem extract_digits9 (s : ByteArray) (k : Nat) : ∀ x ∈ (s.extract k (manyS s k)).data.toList, 48 ≤ x.toNat ∧ x.toNat ≤ 57 := by
  intro x hx
  obtain ⟨j, hj, rfl⟩ := List.getElem_of_mem hx
  have hj' : j < (s.extract k (manyS s k)).size := by rwa [Array.length_toList] at hj
  have e := bAt_list _ j hj'
  rw [ByteArray.size_extract] at hj'
  rw [bAt_extract s k (manyS s k) j (by omega) (by omega)] at e
  have := manyS_digS s k (k + j) (by omega) (by omega)
  simp only [digS, Bool.and_eq_true, decide_eq_true_eq] at this
  rw [show ((k + j : Nat) : Int) = (k : Int) + j by omega] at this
  omega
theorem all_digits (s : ByteArray) : ∀ x ∈ (allS s).data.toList, 48 ≤ x.toNat ∧ x.toNat ≤ 57 := by
  intro x h1
  have hA := extract_digits9 s (atA s)
  have hK := extract_digits9 s (atB s + 1)
  unfold allS at h1
  split at h1
  · rw [ByteArray.data_append, Array.toList_append, List.mem_append] at h1
    exact h1.elim (hA x) (hK x)
  · exact hA x h1
theorem dig_dl {b : ByteArray} (h : ∀ x ∈ b.data.toList, 48 ≤ x.toNat ∧ x.toNat ≤ 57) : Dig (dl b) := by
  intro d hd
  unfold dl at hd
  obtain ⟨x, hx, rfl⟩ := List.mem_map.1 hd
  have := h x hx
  unfold dvB
  omega
theorem dig_all (s : ByteArray) : Dig (dl (allS s)) := dig_dl (all_digits s)
theorem trail_mem {d : Int} : ∀ {l : List Int}, d ∈ trail l → d ∈ l
  | [], h => h
  | y :: l, h => by
    have ih := trail_mem (d := d) (l := l)
    simp only [trail] at h
    split at h
    · split at h
      · cases h
      · simp only [List.mem_singleton] at h; simp [h]
    · rename_i z r hr
      rw [hr] at ih
      cases h with
      | head => exact List.mem_cons_self
      | tail _ h => exact List.mem_cons_of_mem _ (ih h)
theorem Dig.lead {l : List Int} (h : Dig l) : Dig (lead l) := fun d hd => h d ((List.dropWhile_sublist _).subset hd)
theorem Dig.trail {l : List Int} (h : Dig l) : Dig (trail l) := fun d hd => h d (trail_mem hd)
theorem trail_last : ∀ l : List Int, LastNZ (trail l)
  | [] => trivial
  | x :: l => by
    have ih := trail_last l
    simp only [trail]
    split
    · split
      · trivial
      · assumption
    · rename_i y r hr
      rw [hr] at ih
      exact ih
theorem trail_head : ∀ (l : List Int) (d : Int), (trail l).head? = some d → l.head? = some d
  | [], d, h => h
  | x :: l, d, h => by
    simp only [trail] at h
    split at h
    · split at h
      · cases h
      · exact h
    · exact h
theorem lead_head : ∀ (l : List Int) (d : Int), (lead l).head? = some d → d ≠ 0
  | [], d, h => by cases h
  | x :: l, d, h => by
    unfold lead at h
    rw [List.dropWhile_cons] at h
    by_cases hx : x = 0
    · subst hx
      exact lead_head l d h
    · have : (x == 0) = false := by simpa using hx
      rw [this] at h
      simp only [Bool.false_eq_true, if_false, List.head?_cons, Option.some.injEq] at h
      rw [← h]
      exact hx
theorem norm_tl {l : List Int} (h : Dig l) (p : Int) : Norm ⟨trail (lead l), p⟩ := ⟨h.lead.trail, trail_last _, fun d hd => lead_head l d (trail_head _ _ hd)⟩
theorem digits_dl (s : ByteArray) : dl (progS s).digits = trail (lead (dl (allS s))) := by
  have e : (readS s).digits = trail (lead (dsFrom (allS s) 0 (allS s).size)) := by unfold readS; dsimp only
  rw [← ref_digits, e, dsFrom_dl]
theorem norm_key (s : ByteArray) : Norm (keyS s) := by
  have h := norm_tl (dig_all s) (keyS s).pow
  rw [← digits_dl, ← keyS_ds] at h
  have e : (⟨(keyS s).ds, (keyS s).pow⟩ : DKey) = keyS s := by cases keyS s; dsimp only
  rw [e] at h
  exact h

theorem frac_zero : ∀ {l : List Int} {k : Nat}, (∀ d ∈ l, d = 0) → frac l k = 0
  | [], _, _ => rfl
  | _ :: _, 0, _ => rfl
  | d :: l, k + 1, h => by
    simp only [frac]
    rw [h d List.mem_cons_self, frac_zero fun x hx => h x (List.mem_cons_of_mem _ hx), Int.zero_mul]
    rfl
theorem trail_nil : ∀ {l : List Int}, trail l = [] → ∀ d ∈ l, d = 0
  | [], _, d, hd => by cases hd
  | x :: l, h, d, hd => by
    simp only [trail] at h
    split at h
    · rename_i ht
      split at h
      · rename_i hx
        cases hd with
        | head => exact hx
        | tail _ hd => exact trail_nil ht d hd
      · cases h
    · cases h
theorem frac_trail : ∀ (l : List Int) (k : Nat), frac (trail l) k = frac l k
  | [], _ => rfl
  | x :: l, 0 => by
    cases h : trail (x :: l) with
    | nil => rfl
    | cons _ _ => rfl
  | x :: l, k + 1 => by
    have ih := frac_trail l k
    simp only [trail]
    split
    · rename_i ht
      rw [ht] at ih
      have : frac l k = 0 := ih.symm
      split
      · rename_i hx
        subst hx
        simp only [frac]
        rw [this]
        simp
      · simp only [frac]
        rw [this]
    · rename_i y r hr
      rw [hr] at ih
      simp only [frac] at ih ⊢
      rw [ih]
theorem frac_lead : ∀ (l : List Int) (k : Nat), l.length ≤ k → frac (lead l) (k - (l.length - (lead l).length)) = frac l k
  | [], k, _ => rfl
  | x :: l, 0, h => by simp at h
  | x :: l, k + 1, h => by
    have hk : l.length ≤ k := by simpa using h
    have ih := frac_lead l k hk
    have hle := lead_le l
    by_cases hx : x = 0
    · subst hx
      have e : lead (0 :: l) = lead l := rfl
      rw [e]
      simp only [List.length_cons, frac, Int.zero_mul, Int.zero_add]
      rw [show k + 1 - (l.length + 1 - (lead l).length) = k - (l.length - (lead l).length) by omega]
      exact ih
    · have e : lead (x :: l) = x :: l := by
        unfold lead
        rw [List.dropWhile_cons]
        have : (x == 0) = false := by simpa using hx
        rw [this]
        rfl
      rw [e, Nat.sub_self, Nat.sub_zero]
/-- A text's digits ahead of the dot. -/
def intN (s : ByteArray) : Nat := atB s - atA s
theorem all_size (s : ByteArray) : (allS s).size = intN s + (fracS s).size := by
  rw [← allS_eq, ByteArray.size_append, ByteArray.size_extract]
  have h1 := atA_le_atB s
  have h2 := atB_le s
  unfold intN
  omega
theorem off_eq (s : ByteArray) : (progS s).off = (intN s : Int) - ((dl (allS s)).length - (lead (dl (allS s))).length) := by
  have e : (readS s).off = (atB s : Int) - atA s - ((allS s).size - (lead (dsFrom (allS s) 0 (allS s).size)).length) := by unfold readS; dsimp only
  have h1 := atA_le_atB s
  rw [← ref_off, e, dsFrom_dl, dl_length]
  unfold intN
  omega
theorem key_pow {s : ByteArray} (h : (progS s).exp.size = 0) : (keyS s).pow = (progS s).off := by
  unfold keyS
  dsimp only
  have : dl (progS s).exp = [] := by rw [dl_nil]; exact h
  rw [this]
  have : powE [] = 0 := rfl
  rw [this, sgI_zero]
  omega
theorem val_key {s : ByteArray} {K : Nat} (h : (progS s).exp.size = 0) (hK : (fracS s).size ≤ K) : valK K (keyS s) = frac (dl (allS s)) (intN s + K) ∧ Fits K (keyS s) := by
  have hl : (dl (allS s)).length ≤ intN s + K := by rw [dl_length, all_size]; omega
  have h1 := frac_lead (dl (allS s)) (intN s + K) hl
  have hle := lead_le (dl (allS s))
  have htl := trail_le (lead (dl (allS s)))
  have hoff := off_eq s
  have hpow := key_pow h
  have hn : (keyS s).pow + K = ((intN s + K - ((dl (allS s)).length - (lead (dl (allS s))).length) : Nat) : Int) := by
    rw [hpow, hoff]
    omega
  constructor
  · unfold valK
    rw [hn, Int.toNat_natCast, keyS_ds, digits_dl, frac_trail, h1]
  · right
    rw [hn, keyS_ds, digits_dl]
    omega
end Go.Proofs.YtdibapfehdhfjaaDoor

/-
  Natural numbers' digits, multiplied digit by digit; the key of M times 10^-b. No program.
-/
namespace Go.Proofs.YtdibapfehdhfjaaDoor
open Go.Eng
set_option linter.unusedVariables false
set_option linter.unusedSimpArgs false

/-- The digits, the lowest first. -/
def dg (n : Nat) : List Int := if h : n = 0 then [] else ((n % 10 : Nat) : Int) :: dg (n / 10)
  termination_by n
  decreasing_by omega
theorem dg_zero : dg 0 = [] := by rw [dg, dif_pos rfl]
theorem dg_pos {n : Nat} (h : n ≠ 0) : dg n = ((n % 10 : Nat) : Int) :: dg (n / 10) := by rw [dg, dif_neg h]
theorem dg_dig (n : Nat) : Dig (dg n) := by
  by_cases h : n = 0
  · subst h; rw [dg_zero]; intro d hd; cases hd
  · rw [dg_pos h]
    intro d hd
    cases hd with
    | head => omega
    | tail _ hd => exact dg_dig (n / 10) d hd
termination_by n
decreasing_by omega
theorem dg_nil {n : Nat} : dg n = [] ↔ n = 0 := by
  constructor
  · intro h
    by_cases hn : n = 0
    · exact hn
    · rw [dg_pos hn] at h; cases h
  · rintro rfl; exact dg_zero
theorem dg_one {c : Nat} (h : c ≠ 0) (h9 : c ≤ 9) : dg c = [(c : Int)] := by
  rw [dg_pos h, show c / 10 = 0 by omega, dg_zero, show c % 10 = c by omega]
/-- Multiplied digit by digit. -/
def mulD (by_ c : Int) : List Int → List Int
  | [] => if 0 < c then [c] else []
  | d :: l => ((d * by_ + c) % 10) :: mulD by_ ((d * by_ + c) / 10) l
theorem mulD_dg (m : Nat) : ∀ (n c : Nat), 1 ≤ m → m ≤ 9 → c ≤ 9 → mulD m c (dg n) = dg (m * n + c) := by
  intro n c h1 h2 hc
  by_cases h : n = 0
  · subst h
    rw [dg_zero, Nat.mul_zero, Nat.zero_add]
    simp only [mulD]
    by_cases h0 : c = 0
    · subst h0; rw [dg_zero]; rfl
    · rw [if_pos (by omega), dg_one h0 hc]
  · rw [dg_pos h]
    simp only [mulD]
    have hpos : m * n + c ≠ 0 := by
      have : 1 * 1 ≤ m * n := Nat.mul_le_mul h1 (by omega)
      omega
    rw [dg_pos hpos]
    have e : m * n + c = (n % 10 * m + c) + 10 * (m * (n / 10)) := by
      have h3 : n = n % 10 + 10 * (n / 10) := by omega
      calc m * n + c = m * (n % 10 + 10 * (n / 10)) + c := by rw [← h3]
        _ = (n % 10 * m + c) + 10 * (m * (n / 10)) := by rw [Nat.mul_add, Nat.mul_comm m (n % 10), Nat.mul_left_comm]; omega
    have e1 : (((n % 10 : Nat) : Int) * (m : Int) + (c : Int)) = ((n % 10 * m + c : Nat) : Int) := by simp
    have hb : n % 10 * m ≤ 9 * 9 := Nat.mul_le_mul (by omega) h2
    rw [e1]
    generalize hq : n % 10 * m + c = q at e ⊢
    have e2 : ((q : Nat) : Int) / 10 = ((q / 10 : Nat) : Int) := by omega
    rw [e2, mulD_dg m (n / 10) (q / 10) h1 h2 (by omega)]
    have e3 : (m * n + c) / 10 = m * (n / 10) + q / 10 := by omega
    have e4 : (m * n + c) % 10 = q % 10 := by omega
    rw [e3, e4]
    rfl
termination_by n => n
decreasing_by omega
theorem mulD_len (by_ : Int) : ∀ (l : List Int) (c : Int), l.length ≤ (mulD by_ c l).length ∧ (mulD by_ c l).length ≤ l.length + 1
  | [], c => by simp only [mulD]; split <;> simp
  | d :: l, c => by
    have := mulD_len by_ l ((d * by_ + c) / 10)
    simp only [mulD, List.length_cons]
    omega
theorem dg_len_mul {m n : Nat} (h1 : 1 ≤ m) (h2 : m ≤ 9) : (dg (m * n)).length ≤ (dg n).length + 1 := by
  have h := mulD_dg m n 0 h1 h2 (by omega)
  rw [Nat.add_zero] at h
  rw [← h]
  exact (mulD_len m (dg n) 0).2

theorem frac_append : ∀ (l m : List Int) (k : Nat), frac (l ++ m) (l.length + k) = frac l l.length * 10 ^ k + frac m k
  | [], m, k => by simp [frac]
  | d :: l, m, k => by
    have ih := frac_append l m k
    simp only [List.cons_append, List.length_cons]
    rw [show l.length + 1 + k = (l.length + k) + 1 by omega]
    simp only [frac]
    rw [ih, Int.pow_add, Int.add_mul, Int.mul_assoc]
    omega
/-- The number that digits say, the highest first. -/
def numL (l : List Int) : Int := frac l l.length
theorem frac_num (l : List Int) (k : Nat) : frac l (l.length + k) = numL l * 10 ^ k := by
  have := frac_append l [] k
  simpa [frac, numL] using this
theorem numL_snoc (l : List Int) (d : Int) : numL (l ++ [d]) = numL l * 10 + d := by
  unfold numL
  have := frac_append l [d] 1
  rw [List.length_append]
  rw [show [d].length = 1 from rfl, this]
  simp [frac]
theorem numL_dg (n : Nat) : numL (dg n).reverse = n := by
  by_cases h : n = 0
  · subst h; rw [dg_zero]; rfl
  · rw [dg_pos h, List.reverse_cons, numL_snoc, numL_dg (n / 10)]
    omega
termination_by n
decreasing_by omega
theorem dg_head (n : Nat) (d : Int) (h : (dg n).reverse.head? = some d) : d ≠ 0 := by
  by_cases hn : n = 0
  · subst hn; rw [dg_zero] at h; cases h
  · rw [dg_pos hn, List.reverse_cons] at h
    by_cases h10 : n / 10 = 0
    · rw [h10, dg_zero] at h
      simp at h
      omega
    · cases hr : (dg (n / 10)).reverse with
      | nil =>
        have := List.reverse_eq_nil_iff.1 hr
        exact absurd (dg_nil.1 this) h10
      | cons x r =>
        rw [hr] at h
        have := dg_head (n / 10) x (by rw [hr]; rfl)
        simp only [List.cons_append, List.head?_cons, Option.some.injEq] at h
        rw [← h]
        exact this
termination_by n
decreasing_by omega
/-- The key of M times 10^-b. -/
def kN (M b : Nat) : DKey := ⟨trail (dg M).reverse, (dg M).length - b⟩
theorem dig_rev {l : List Int} (h : Dig l) : Dig l.reverse := fun d hd => h d (List.mem_reverse.1 hd)
theorem norm_kN (M b : Nat) : Norm (kN M b) := ⟨(dig_rev (dg_dig M)).trail, trail_last _, fun d hd => dg_head M d (trail_head _ _ hd)⟩
theorem val_kN {M b K : Nat} (h : b ≤ K) : valK K (kN M b) = M * 10 ^ (K - b) ∧ Fits K (kN M b) := by
  constructor
  · unfold valK kN
    rw [frac_trail, show (((dg M).length : Int) - b + K).toNat = (dg M).reverse.length + (K - b) by rw [List.length_reverse]; omega, frac_num, numL_dg]
  · right
    have := trail_le (dg M).reverse
    rw [List.length_reverse] at this
    show ((trail (dg M).reverse).length : Int) ≤ ((dg M).length : Int) - b + K
    omega
theorem lexI_zero : ∀ {l m : List Int}, lexI l m = 0 → l = m
  | [], [], _ => rfl
  | [], _ :: _, h => by simp [lexI] at h
  | _ :: _, [], h => by simp [lexI] at h
  | x :: l, y :: m, h => by
    have e : lexI (x :: l) (y :: m) = if x < y then -1 else if y < x then 1 else lexI l m := rfl
    rw [e] at h
    split at h
    · cases h
    · split at h
      · cases h
      · rw [lexI_zero h, show x = y by omega]
/-- Keys of one value are one, but for nought's. -/
theorem key_eq {K : Nat} {a b : DKey} (na : Norm a) (nb : Norm b) (fa : Fits K a) (fb : Fits K b) (h : valK K a = valK K b) (h0 : a.ds ≠ []) : a = b := by
  have hc := cmpK_val na nb fa fb
  rw [h, Int.sub_self] at hc
  have h00 : sgn 0 = 0 := rfl
  rw [h00] at hc
  unfold cmpK at hc
  rw [if_neg h0] at hc
  split at hc
  · cases hc
  · split at hc
    · rename_i hp
      have := lexI_zero hc
      cases a; cases b
      simp only at this hp
      rw [this, hp]
    · rename_i hp
      have := sgn_zero.1 hc
      omega
/-- No digits just of nought. -/
theorem kN_nil {M b : Nat} : (kN M b).ds = [] ↔ M = 0 := by
  constructor
  · intro h
    have := trail_nil h
    by_cases hM : M = 0
    · exact hM
    · exfalso
      have hr : (dg M).reverse ≠ [] := fun e => hM (dg_nil.1 (List.reverse_eq_nil_iff.1 e))
      cases hd : (dg M).reverse with
      | nil => exact hr hd
      | cons x r => exact dg_head M x (by rw [hd]; rfl) (this x (by rw [hd]; exact List.mem_cons_self))
  · rintro rfl
    show trail (dg 0).reverse = []
    rw [dg_zero]; rfl
end Go.Proofs.YtdibapfehdhfjaaDoor

/-
  Texts of digits with a dot or none: how they are read, what their keys are. No program.
-/
namespace Go.Proofs.YtdibapfehdhfjaaDoor
open Go.Eng
set_option linter.unusedVariables false
set_option linter.unusedSimpArgs false

/-- A digit's byte. -/
def chr (d : Int) : UInt8 := UInt8.ofNat ((48 + d) % 256).toNat
theorem chr_nat {d : Int} (h : 0 ≤ d ∧ d ≤ 9) : ((chr d).toNat : Int) = 48 + d := by
  unfold chr
  have : ((48 + d) % 256).toNat < 256 := by omega
  rw [UInt8.toNat_ofNat_of_lt' (by simpa using this)]
  omega
def byteD (l : List Int) : List UInt8 := l.map chr
theorem byteD_len (l : List Int) : (byteD l).length = l.length := by simp [byteD]
theorem dvB_chr {d : Int} (h : 0 ≤ d ∧ d ≤ 9) : dvB (chr d) = d := by
  unfold dvB
  rw [chr_nat h]
  omega
theorem dl_byteD {l : List Int} (h : Dig l) : (byteD l).map dvB = l := by
  unfold byteD
  rw [List.map_map]
  have : ∀ x ∈ l, (dvB ∘ chr) x = id x := fun x hx => dvB_chr (h x hx)
  rw [List.map_congr_left this, List.map_id]
/-- What stands behind the whole part. -/
def dotF (F : List Int) : List UInt8 := if F = [] then [] else 46 :: byteD F
theorem head_nz : ∀ (W : List Int) (hp : 0 < W.length), W.head? ≠ some 0 → W[0] ≠ 0
  | [], hp, _ => by simp at hp
  | d :: l, _, hh => by simpa using hh
structure NumTxt (t : ByteArray) (W F : List Int) : Prop where
  txt : t.data.toList = byteD W ++ dotF F
  dw : Dig W
  df : Dig F
  ne : W ≠ []
  head : W.head? ≠ some 0 ∨ W.length = 1

theorem bAt_of_list {t : ByteArray} {l : List UInt8} (h : t.data.toList = l) (i : Nat) (x : UInt8) (hx : l[i]? = some x) : bAt t i = x.toNat := by
  subst h
  obtain ⟨hi, rfl⟩ := List.getElem?_eq_some_iff.1 hx
  exact bAt_list t i (by simpa using hi)
theorem size_of_list {t : ByteArray} {l : List UInt8} (h : t.data.toList = l) : t.size = l.length := by
  rw [← h, Array.length_toList]; rfl
theorem bAt_end (t : ByteArray) (i : Nat) (h : t.size ≤ i) : bAt t i = -1 := bAt_out (by omega)
theorem manyS_run (t : ByteArray) : ∀ (n a : Nat), (∀ i, a ≤ i → i < a + n → digS t i = true) → digS t ((a + n : Nat) : Int) = false → manyS t a = a + n
  | 0, a, _, h2 => manyS_no h2
  | n + 1, a, h1, h2 => by
    rw [manyS_yes (h1 a (by omega) (by omega)), manyS_run t n (a + 1) (fun i g1 g2 => h1 i (by omega) (by omega)) (by rw [show a + 1 + n = a + (n + 1) by omega]; exact h2)]
    omega
section
variable {t : ByteArray} {W F : List Int} (h : NumTxt t W F)
include h
theorem nt_size : t.size = W.length + (if F = [] then 0 else F.length + 1) := by
  rw [size_of_list h.txt, List.length_append, byteD_len]
  unfold dotF
  split <;> simp [byteD_len]
theorem nt_w (i : Nat) (hi : i < W.length) : bAt t i = 48 + W[i] := by
  rw [bAt_of_list h.txt i (chr W[i]) (by rw [List.getElem?_append_left (by rw [byteD_len]; exact hi)]; simp [byteD, hi])]
  exact chr_nat (h.dw _ (List.getElem_mem hi))
theorem nt_dot (hF : F ≠ []) : bAt t W.length = 46 := by
  rw [bAt_of_list h.txt W.length 46 (by rw [List.getElem?_append_right (by rw [byteD_len]; omega), byteD_len, Nat.sub_self]; unfold dotF; rw [if_neg hF]; rfl)]
  rfl
theorem nt_f (hF : F ≠ []) (i : Nat) (hi : i < F.length) : bAt t ((W.length + 1 + i : Nat) : Int) = 48 + F[i] := by
  rw [bAt_of_list h.txt (W.length + 1 + i) (chr F[i]) (by
    rw [List.getElem?_append_right (by rw [byteD_len]; omega), byteD_len]
    unfold dotF
    rw [if_neg hF, show W.length + 1 + i - W.length = i + 1 by omega]
    simp [byteD, hi])]
  exact chr_nat (h.df _ (List.getElem_mem hi))
theorem nt_pos : 0 < W.length := List.length_pos_iff.2 h.ne
theorem nt_atA : atA t = 0 := by
  have hp := nt_pos h
  have := nt_w h 0 hp
  have hd := h.dw _ (List.getElem_mem hp)
  unfold atA
  rw [if_neg (by rw [show ((0 : Nat) : Int) = 0 from rfl] at this; omega)]
theorem nt_atB : atB t = W.length := by
  have h1 : ∀ i, 0 ≤ i → i < 0 + W.length → digS t (i : Nat) = true := fun i _ hi => by
    have := nt_w h i (by omega)
    have hd := h.dw _ (List.getElem_mem (show i < W.length by omega))
    simp only [digS, Bool.and_eq_true, decide_eq_true_eq]
    omega
  have h2 : digS t ((0 + W.length : Nat) : Int) = false := by
    rw [Nat.zero_add]
    have : bAt t (W.length : Nat) = 46 ∨ bAt t (W.length : Nat) = -1 := by
      by_cases hF : F = []
      · exact .inr (bAt_end t _ (by rw [nt_size h, if_pos hF]; omega))
      · exact .inl (nt_dot h hF)
    rw [digS, Bool.and_eq_false_iff, decide_eq_false_iff_not, decide_eq_false_iff_not]
    omega
  unfold atB
  rw [nt_atA h, manyS_run t W.length 0 h1 h2, Nat.zero_add]
theorem nt_dotS : dotS t = !decide (F = []) := by
  unfold dotS
  rw [nt_atB h]
  by_cases hF : F = []
  · rw [bAt_end t _ (by rw [nt_size h, if_pos hF]; omega)]
    simp [hF]
  · rw [nt_dot h hF]
    simp [hF]
theorem nt_atK (hF : F ≠ []) : atK t = t.size := by
  have hs := nt_size h
  rw [if_neg hF] at hs
  have h1 : ∀ i, W.length + 1 ≤ i → i < W.length + 1 + F.length → digS t (i : Nat) = true := fun i g1 hi => by
    have := nt_f h hF (i - (W.length + 1)) (by omega)
    rw [show W.length + 1 + (i - (W.length + 1)) = i by omega] at this
    have hd := h.df _ (List.getElem_mem (show i - (W.length + 1) < F.length by omega))
    simp only [digS, Bool.and_eq_true, decide_eq_true_eq]
    omega
  have h2 : digS t ((W.length + 1 + F.length : Nat) : Int) = false := by
    rw [digS, bAt_end t _ (by omega)]
    rfl
  unfold atK
  rw [nt_atB h, manyS_run t F.length (W.length + 1) h1 h2, hs]
  omega
theorem nt_atC : atC t = t.size := by
  unfold atC
  rw [nt_dotS h]
  by_cases hF : F = []
  · rw [nt_atB h, nt_size h]
    simp [hF]
  · simp [hF, nt_atK h hF]
theorem nt_expS : expS t = false := by
  unfold expS
  rw [nt_atC h, bAt_end t _ (Nat.le_refl _)]
  rfl
theorem nt_ok : readOk t = true := by
  have hp := nt_pos h
  have hbad : badA t = false := by
    unfold badA
    rw [nt_atA h, nt_atB h]
    have h0 := nt_w h 0 hp
    rw [show ((0 : Nat) : Int) = 0 from rfl] at h0
    have e0 : ((0 : Nat) : Int) = 0 := rfl
    rw [e0, h0, Bool.or_eq_false_iff, Bool.and_eq_false_iff, decide_eq_false_iff_not, decide_eq_false_iff_not, decide_eq_false_iff_not]
    refine ⟨by omega, ?_⟩
    rcases h.head with hh | hh
    · left
      have := head_nz W hp hh
      omega
    · right; omega
  have hdot : (dotS t && decide (atK t = atB t + 1)) = false := by
    rw [nt_dotS h]
    by_cases hF : F = []
    · simp [hF]
    · have hs := nt_size h
      rw [if_neg hF] at hs
      have hFl : 0 < F.length := List.length_pos_iff.2 hF
      rw [nt_atK h hF, nt_atB h, decide_eq_false (show ¬ t.size = W.length + 1 by omega), Bool.and_false]
  unfold readOk
  rw [hbad, hdot, nt_expS h]
  have : atG t = t.size := by unfold atG; rw [nt_expS h]; exact nt_atC h
  simp [this]
theorem nt_exp : (progS t).exp.size = 0 := by
  have : (progS t).exp = ⟨#[]⟩ := by
    unfold progS
    dsimp only
    rw [nt_expS h]
    rfl
  rw [this]; rfl
theorem nt_minus : bAt t 0 ≠ 45 := by
  have hp := nt_pos h
  have h0 := nt_w h 0 hp
  have hd := h.dw _ (List.getElem_mem hp)
  rw [show ((0 : Nat) : Int) = 0 from rfl] at h0
  omega
theorem nt_intN : intN t = W.length := by unfold intN; rw [nt_atA h, nt_atB h, Nat.sub_zero]
theorem nt_all : dl (allS t) = W ++ F := by
  have e1 : (t.extract 0 W.length).data.toList = byteD W := by
    rw [extract_toList, h.txt, List.drop_zero, Nat.sub_zero]
    rw [List.take_append_of_le_length (by rw [byteD_len]; exact Nat.le_refl _), List.take_of_length_le (by rw [byteD_len]; exact Nat.le_refl _)]
  unfold allS
  rw [nt_dotS h, nt_atA h, nt_atB h]
  by_cases hF : F = []
  · rw [hF]
    simp only [decide_true, Bool.not_true, Bool.false_eq_true, if_false, List.append_nil]
    unfold dl
    rw [e1, dl_byteD h.dw]
  · have hs := nt_size h
    rw [if_neg hF] at hs
    have e2 : (t.extract (W.length + 1) t.size).data.toList = byteD F := by
      rw [extract_toList, h.txt, List.drop_append, byteD_len, show W.length + 1 - W.length = 1 by omega, List.drop_of_length_le (by rw [byteD_len]; omega), List.nil_append]
      unfold dotF
      rw [if_neg hF, List.drop_succ_cons, List.drop_zero, List.take_of_length_le (by rw [byteD_len]; omega)]
    simp only [hF, decide_false, Bool.not_false, if_true]
    rw [nt_atK h hF]
    unfold dl
    rw [ByteArray.data_append, Array.toList_append, e1, e2, List.map_append, dl_byteD h.dw, dl_byteD h.df]
theorem nt_frac : (fracS t).size = F.length := by
  have h1 := all_size t
  have h2 := nt_all h
  have h3 := congrArg List.length h2
  rw [dl_length, List.length_append] at h3
  rw [nt_intN h] at h1
  omega
theorem nt_val {K : Nat} (hK : F.length ≤ K) : valK K (keyS t) = frac (W ++ F) (W.length + K) ∧ Fits K (keyS t) := by
  have := val_key (K := K) (nt_exp h) (by rw [nt_frac h]; exact hK)
  rw [nt_all h, nt_intN h] at this
  exact this
end
/-! ### the text of M times 10^-b -/
theorem trailB_cons_ne (x : UInt8) (l : List UInt8) (h : x ≠ 48) : trailB (x :: l) = x :: trailB l := by
  simp only [trailB]
  split
  · rename_i hl; rw [hl]; simp [h]
  · rename_i y r hl; rw [hl]
theorem trailB_append (l m : List UInt8) : trailB m ≠ [] → trailB (l ++ m) = l ++ trailB m := by
  intro hm
  induction l with
  | nil => rfl
  | cons x l ih =>
    simp only [List.cons_append, trailB, ih]
    cases hq : l ++ trailB m with
    | nil => simp at hq; exact absurd hq.2 hm
    | cons y r => rfl
theorem chr_zero {d : Int} (h : 0 ≤ d ∧ d ≤ 9) : chr d = 48 ↔ d = 0 := by
  constructor
  · intro e
    have := chr_nat h
    rw [e] at this
    have e48 : ((48 : UInt8).toNat : Int) = 48 := rfl
    omega
  · rintro rfl; rfl
theorem trailB_byteD : ∀ {l : List Int}, Dig l → trailB (byteD l) = byteD (trail l)
  | [], _ => rfl
  | d :: l, h => by
    have ih := trailB_byteD h.tail
    have hd := h d List.mem_cons_self
    unfold byteD at ih ⊢
    simp only [List.map_cons, trailB, trail, ih]
    cases ht : trail l with
    | nil =>
      simp only [List.map_nil]
      by_cases h0 : d = 0
      · rw [if_pos ((chr_zero hd).2 h0), if_pos h0]; rfl
      · rw [if_neg (fun e => h0 ((chr_zero hd).1 e)), if_neg h0]; rfl
    | cons y r => rfl
end Go.Proofs.YtdibapfehdhfjaaDoor
