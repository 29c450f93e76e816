/-
  The keys of texts, and their values where there is no exponent. No program.
-/
import Derived.Test.YtdibapfehdhfjaaDoorDecKey
namespace Go.Proofs.YtdibapfehdhfjaaDoor
open Go.Eng
set_option linter.unusedVariables false
set_option linter.unusedSimpArgs false

theorem extract_digits9 (s : ByteArray) (k : Nat) : ∀ x ∈ (s.extract k (manyS s k)).data.toList, 48 ≤ x.toNat ∧ x.toNat ≤ 57 := by
  intro x hx
  obtain ⟨j, hj, rfl⟩ := List.getElem_of_mem hx
  have hj' : j < (s.extract k (manyS s k)).size := by rwa [Array.length_toList] at hj
  have e := bAt_list _ j hj'
  rw [ByteArray.size_extract] at hj'
  rw [bAt_extract s k (manyS s k) j (by omega) (by omega)] at e
  have := manyS_digS s k (k + j) (by omega) (by omega)
  simp only [digS, Bool.and_eq_true, decide_eq_true_eq] at this
  rw [show ((k + j : Nat) : Int) = (k : Int) + j by omega] at this
  omega
theorem all_digits (s : ByteArray) : ∀ x ∈ (allS s).data.toList, 48 ≤ x.toNat ∧ x.toNat ≤ 57 := by
  intro x h1
  have hA := extract_digits9 s (atA s)
  have hK := extract_digits9 s (atB s + 1)
  unfold allS at h1
  split at h1
  · rw [ByteArray.data_append, Array.toList_append, List.mem_append] at h1
    exact h1.elim (hA x) (hK x)
  · exact hA x h1
theorem dig_dl {b : ByteArray} (h : ∀ x ∈ b.data.toList, 48 ≤ x.toNat ∧ x.toNat ≤ 57) : Dig (dl b) := by
  intro d hd
  unfold dl at hd
  obtain ⟨x, hx, rfl⟩ := List.mem_map.1 hd
  have := h x hx
  unfold dvB
  omega
theorem dig_all (s : ByteArray) : Dig (dl (allS s)) := dig_dl (all_digits s)
theorem trail_mem {d : Int} : ∀ {l : List Int}, d ∈ trail l → d ∈ l
  | [], h => h
  | y :: l, h => by
    have ih := trail_mem (d := d) (l := l)
    simp only [trail] at h
    split at h
    · split at h
      · cases h
      · simp only [List.mem_singleton] at h; simp [h]
    · rename_i z r hr
      rw [hr] at ih
      cases h with
      | head => exact List.mem_cons_self
      | tail _ h => exact List.mem_cons_of_mem _ (ih h)
theorem Dig.lead {l : List Int} (h : Dig l) : Dig (lead l) := fun d hd => h d ((List.dropWhile_sublist _).subset hd)
theorem Dig.trail {l : List Int} (h : Dig l) : Dig (trail l) := fun d hd => h d (trail_mem hd)
theorem trail_last : ∀ l : List Int, LastNZ (trail l)
  | [] => trivial
  | x :: l => by
    have ih := trail_last l
    simp only [trail]
    split
    · split
      · trivial
      · assumption
    · rename_i y r hr
      rw [hr] at ih
      exact ih
theorem trail_head : ∀ (l : List Int) (d : Int), (trail l).head? = some d → l.head? = some d
  | [], d, h => h
  | x :: l, d, h => by
    simp only [trail] at h
    split at h
    · split at h
      · cases h
      · exact h
    · exact h
theorem lead_head : ∀ (l : List Int) (d : Int), (lead l).head? = some d → d ≠ 0
  | [], d, h => by cases h
  | x :: l, d, h => by
    unfold lead at h
    rw [List.dropWhile_cons] at h
    by_cases hx : x = 0
    · subst hx
      exact lead_head l d h
    · have : (x == 0) = false := by simpa using hx
      rw [this] at h
      simp only [Bool.false_eq_true, if_false, List.head?_cons, Option.some.injEq] at h
      rw [← h]
      exact hx
theorem norm_tl {l : List Int} (h : Dig l) (p : Int) : Norm ⟨trail (lead l), p⟩ := ⟨h.lead.trail, trail_last _, fun d hd => lead_head l d (trail_head _ _ hd)⟩
theorem digits_dl (s : ByteArray) : dl (progS s).digits = trail (lead (dl (allS s))) := by
  have e : (readS s).digits = trail (lead (dsFrom (allS s) 0 (allS s).size)) := by unfold readS; dsimp only
  rw [← ref_digits, e, dsFrom_dl]
theorem norm_key (s : ByteArray) : Norm (keyS s) := by
  have h := norm_tl (dig_all s) (keyS s).pow
  rw [← digits_dl, ← keyS_ds] at h
  have e : (⟨(keyS s).ds, (keyS s).pow⟩ : DKey) = keyS s := by cases keyS s; dsimp only
  rw [e] at h
  exact h

theorem frac_zero : ∀ {l : List Int} {k : Nat}, (∀ d ∈ l, d = 0) → frac l k = 0
  | [], _, _ => rfl
  | _ :: _, 0, _ => rfl
  | d :: l, k + 1, h => by
    simp only [frac]
    rw [h d List.mem_cons_self, frac_zero fun x hx => h x (List.mem_cons_of_mem _ hx), Int.zero_mul]
    rfl
theorem trail_nil : ∀ {l : List Int}, trail l = [] → ∀ d ∈ l, d = 0
  | [], _, d, hd => by cases hd
  | x :: l, h, d, hd => by
    simp only [trail] at h
    split at h
    · rename_i ht
      split at h
      · rename_i hx
        cases hd with
        | head => exact hx
        | tail _ hd => exact trail_nil ht d hd
      · cases h
    · cases h
theorem frac_trail : ∀ (l : List Int) (k : Nat), frac (trail l) k = frac l k
  | [], _ => rfl
  | x :: l, 0 => by
    cases h : trail (x :: l) with
    | nil => rfl
    | cons _ _ => rfl
  | x :: l, k + 1 => by
    have ih := frac_trail l k
    simp only [trail]
    split
    · rename_i ht
      rw [ht] at ih
      have : frac l k = 0 := ih.symm
      split
      · rename_i hx
        subst hx
        simp only [frac]
        rw [this]
        simp
      · simp only [frac]
        rw [this]
    · rename_i y r hr
      rw [hr] at ih
      simp only [frac] at ih ⊢
      rw [ih]
theorem frac_lead : ∀ (l : List Int) (k : Nat), l.length ≤ k → frac (lead l) (k - (l.length - (lead l).length)) = frac l k
  | [], k, _ => rfl
  | x :: l, 0, h => by simp at h
  | x :: l, k + 1, h => by
    have hk : l.length ≤ k := by simpa using h
    have ih := frac_lead l k hk
    have hle := lead_le l
    by_cases hx : x = 0
    · subst hx
      have e : lead (0 :: l) = lead l := rfl
      rw [e]
      simp only [List.length_cons, frac, Int.zero_mul, Int.zero_add]
      rw [show k + 1 - (l.length + 1 - (lead l).length) = k - (l.length - (lead l).length) by omega]
      exact ih
    · have e : lead (x :: l) = x :: l := by
        unfold lead
        rw [List.dropWhile_cons]
        have : (x == 0) = false := by simpa using hx
        rw [this]
        rfl
      rw [e, Nat.sub_self, Nat.sub_zero]
/-- A text's digits ahead of the dot. -/
def intN (s : ByteArray) : Nat := atB s - atA s
theorem all_size (s : ByteArray) : (allS s).size = intN s + (fracS s).size := by
  rw [← allS_eq, ByteArray.size_append, ByteArray.size_extract]
  have h1 := atA_le_atB s
  have h2 := atB_le s
  unfold intN
  omega
theorem off_eq (s : ByteArray) : (progS s).off = (intN s : Int) - ((dl (allS s)).length - (lead (dl (allS s))).length) := by
  have e : (readS s).off = (atB s : Int) - atA s - ((allS s).size - (lead (dsFrom (allS s) 0 (allS s).size)).length) := by unfold readS; dsimp only
  have h1 := atA_le_atB s
  rw [← ref_off, e, dsFrom_dl, dl_length]
  unfold intN
  omega
theorem key_pow {s : ByteArray} (h : (progS s).exp.size = 0) : (keyS s).pow = (progS s).off := by
  unfold keyS
  dsimp only
  have : dl (progS s).exp = [] := by rw [dl_nil]; exact h
  rw [this]
  have : powE [] = 0 := rfl
  rw [this, sgI_zero]
  omega
theorem val_key {s : ByteArray} {K : Nat} (h : (progS s).exp.size = 0) (hK : (fracS s).size ≤ K) : valK K (keyS s) = frac (dl (allS s)) (intN s + K) ∧ Fits K (keyS s) := by
  have hl : (dl (allS s)).length ≤ intN s + K := by rw [dl_length, all_size]; omega
  have h1 := frac_lead (dl (allS s)) (intN s + K) hl
  have hle := lead_le (dl (allS s))
  have htl := trail_le (lead (dl (allS s)))
  have hoff := off_eq s
  have hpow := key_pow h
  have hn : (keyS s).pow + K = ((intN s + K - ((dl (allS s)).length - (lead (dl (allS s))).length) : Nat) : Int) := by
    rw [hpow, hoff]
    omega
  constructor
  · unfold valK
    rw [hn, Int.toNat_natCast, keyS_ds, digits_dl, frac_trail, h1]
  · right
    rw [hn, keyS_ds, digits_dl]
    omega
end Go.Proofs.YtdibapfehdhfjaaDoor
