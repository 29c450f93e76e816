/-
  What the program keeps of a number, beside what the document keeps. No program.
-/
import Derived.Test.YtdibapfehdhfjaaDoorDecCmpLaw
namespace Go.Proofs.YtdibapfehdhfjaaDoor
open Go.Eng
set_option linter.unusedVariables false
set_option linter.unusedSimpArgs false

def dvB (x : UInt8) : Int := ((x.toNat : Int) - 48) % 256
/-- A text's bytes as digits. -/
def dl (b : ByteArray) : List Int := b.data.toList.map dvB
theorem dl_length (b : ByteArray) : (dl b).length = b.size := by
  unfold dl
  rw [List.length_map, Array.length_toList]
  rfl
theorem bAt_list (b : ByteArray) (i : Nat) (h : i < b.size) : bAt b i = ((b.data.toList[i]'(by simpa using h)).toNat : Int) := by
  rw [bAt_in h]
  rfl
theorem dl_get (b : ByteArray) (i : Nat) (h : i < b.size) : (dl b)[i]'(by rw [dl_length]; exact h) = dV b i := by
  unfold dl dV dvB
  rw [List.getElem_map, bAt_list b i h]
theorem dsFrom_dl (b : ByteArray) : dsFrom b 0 b.size = dl b := by
  refine List.ext_getElem (by rw [dsFrom_length, dl_length]) fun i h1 h2 => ?_
  rw [dl_get b i (by rwa [dl_length] at h2)]
  simp [dsFrom]
theorem dsFrom_tail (s : ByteArray) (a : Nat) : dsFrom s a (s.size - a) = dl (s.extract a s.size) := by
  rw [← dsFrom_dl]
  have hz := tail_size s a
  rw [hz]
  unfold dsFrom
  refine List.map_congr_left fun i hi => ?_
  unfold dV
  rw [Nat.zero_add, bAt_tail s a i (by omega)]
  rfl
theorem dvB_zero (x : UInt8) : dvB x = 0 ↔ x = 48 := by
  have h := x.toNat_lt
  unfold dvB
  constructor
  · intro e
    exact UInt8.toNat_inj.1 (by show x.toNat = 48; omega)
  · rintro rfl; rfl
theorem lead_dl (l : List UInt8) : lead (l.map dvB) = (l.dropWhile (· == 48)).map dvB := by
  induction l with
  | nil => rfl
  | cons x l ih =>
    unfold lead at ih ⊢
    simp only [List.map_cons, List.dropWhile_cons]
    by_cases h : x = 48
    · subst h
      have e : dvB 48 = 0 := rfl
      simp [e, ih]
    · have : ¬ dvB x = 0 := fun e => h ((dvB_zero x).1 e)
      simp [this, h]
/-- Without the bytes 48 behind. -/
def trailB : List UInt8 → List UInt8
  | [] => []
  | x :: l => match trailB l with
    | [] => if x = 48 then [] else [x]
    | y :: r => x :: y :: r
theorem trail_dl (l : List UInt8) : trail (l.map dvB) = (trailB l).map dvB := by
  induction l with
  | nil => rfl
  | cons x l ih =>
    simp only [List.map_cons, trail, trailB, ih]
    cases trailB l with
    | nil =>
      by_cases h : x = 48
      · subst h
        have e : dvB 48 = 0 := rfl
        simp [e]
      · have : ¬ dvB x = 0 := fun e => h ((dvB_zero x).1 e)
        simp [this, h]
    | cons y r => rfl
theorem extract_toList (s : ByteArray) (a b : Nat) : (s.extract a b).data.toList = (s.data.toList.drop a).take (b - a) := by
  rw [ByteArray.data_extract, Array.toList_extract]
  try simp [List.extract_eq_drop_take]
theorem leadB_list (s : ByteArray) : ∀ (n i : Nat), s.size - i = n → (s.data.toList.drop i).dropWhile (· == 48) = s.data.toList.drop (leadB s 48 i)
  | n, i, hn => by
    by_cases h : i < s.size ∧ bAt s i = 48
    · rw [leadB_yes h, ← leadB_list s (n - 1) (i + 1) (by omega)]
      have hi : i < s.data.toList.length := by simpa using h.1
      rw [List.drop_eq_getElem_cons hi, List.dropWhile_cons]
      have e := bAt_list s i h.1
      have : s.data.toList[i] = 48 := UInt8.toNat_inj.1 (by show (s.data.toList[i]).toNat = 48; omega)
      simp [this]
    · rw [leadB_no h]
      by_cases hi : i < s.size
      · have hi' : i < s.data.toList.length := by simpa using hi
        rw [List.drop_eq_getElem_cons hi', List.dropWhile_cons]
        have e := bAt_list s i hi
        have : (s.data.toList[i] == 48) = false := beq_eq_false_iff_ne.2 fun e' => h ⟨hi, by rw [e, e']; rfl⟩
        rw [this]
        rfl
      · have : s.data.toList.drop i = [] := List.drop_eq_nil_of_le (by simpa using hi)
        rw [this]; rfl
  termination_by n => n
theorem trimL_list (s : ByteArray) : (trimL s 48).data.toList = s.data.toList.dropWhile (· == 48) := by
  unfold trimL
  have h := leadB_list s _ 0 rfl
  rw [List.drop_zero] at h
  rw [extract_toList, h, List.take_of_length_le]
  rw [List.length_drop]
  have : s.data.toList.length = s.size := by rw [Array.length_toList]; rfl
  omega
theorem trailB_snoc_48 (l : List UInt8) : trailB (l ++ [48]) = trailB l := by
  induction l with
  | nil => rfl
  | cons x l ih => simp only [List.cons_append, trailB, ih]
theorem trailB_snoc (l : List UInt8) (x : UInt8) (h : ¬ x = 48) : trailB (l ++ [x]) = l ++ [x] := by
  induction l with
  | nil => simp [trailB, h]
  | cons y l ih =>
    simp only [List.cons_append, trailB, ih]
    cases l <;> rfl
theorem backB_list (s : ByteArray) : ∀ n, n ≤ s.size → trailB (s.data.toList.take n) = s.data.toList.take (backB s 48 n)
  | 0, _ => rfl
  | n + 1, h => by
    have hn : n < s.size := by omega
    have hl : n < s.data.toList.length := by simpa using hn
    rw [List.take_succ_eq_append_getElem hl, backB]
    have e := bAt_list s n hn
    by_cases h48 : s.data.toList[n] = 48
    · rw [h48, trailB_snoc_48, backB_list s n (by omega), if_pos (by rw [e, h48]; rfl)]
    · rw [trailB_snoc _ _ h48, if_neg (fun e' => h48 (UInt8.toNat_inj.1 (by show (s.data.toList[n]).toNat = 48; omega))), List.take_succ_eq_append_getElem hl]
theorem backB_le (s : ByteArray) : ∀ n, backB s 48 n ≤ n
  | 0 => Nat.le_refl _
  | n + 1 => by
    have := backB_le s n
    simp only [backB]
    split <;> omega
theorem trimR_list (s : ByteArray) : (trimR s 48).data.toList = trailB s.data.toList := by
  have h := backB_list s s.size (Nat.le_refl _)
  have hl : s.data.toList.length = s.size := by rw [Array.length_toList]; rfl
  rw [List.take_of_length_le (by omega)] at h
  unfold trimR
  rw [extract_toList, h, List.drop_zero, Nat.sub_zero]
theorem dl_trimL (s : ByteArray) : dl (trimL s 48) = lead (dl s) := by
  unfold dl
  rw [trimL_list, lead_dl]
theorem dl_trimR (s : ByteArray) : dl (trimR s 48) = trail (dl s) := by
  unfold dl
  rw [trimR_list, trail_dl]
theorem allS_eq (s : ByteArray) : s.extract (atA s) (atB s) ++ fracS s = allS s := by
  unfold fracS allS
  split
  · rfl
  · exact ByteArray.append_empty
theorem ref_digits (s : ByteArray) : (readS s).digits = dl (progS s).digits := by
  show trail (lead (dsFrom (allS s) 0 (allS s).size)) = dl (trimR (trimL (s.extract (atA s) (atB s) ++ fracS s) 48) 48)
  rw [allS_eq, dl_trimR, dl_trimL, dsFrom_dl]
theorem ref_exp {s : ByteArray} (h : readOk s = true) : (readS s).exp = dl (progS s).exp := by
  show (if expS s = true then lead (dsFrom s (atE s) (atF s - atE s)) else []) = dl (if expS s = true then trimL (expT s) 48 else ⟨#[]⟩)
  cases he : expS s
  · rfl
  · simp only [if_true]
    have hG : atG s = s.size := by
      unfold readOk at h
      simp only [Bool.and_eq_true, decide_eq_true_eq] at h
      exact h.2
    have hF : atF s = s.size := by
      rw [← hG]
      simp [atG, he]
    rw [dl_trimL, hF, dsFrom_tail]
    rfl
theorem ref_off (s : ByteArray) : (readS s).off = (progS s).off := by
  show (atB s : Int) - atA s - ((allS s).size - (lead (dsFrom (allS s) 0 (allS s).size)).length) = ((s.extract (atA s) (atB s)).size : Int) - ((s.extract (atA s) (atB s) ++ fracS s).size - (trimL (s.extract (atA s) (atB s) ++ fracS s) 48).size)
  rw [allS_eq, dsFrom_dl, ← dl_trimL, dl_length]
  have h1 := atA_le_atB s
  have h2 := atB_le s
  rw [ByteArray.size_extract]
  omega
/-- Lists compared place by place, a shorter one being less. -/
def lexI : List Int → List Int → Int
  | [], [] => 0
  | [], _ :: _ => -1
  | _ :: _, [] => 1
  | a :: l, b :: m => if a < b then -1 else if b < a then 1 else lexI l m
theorem lexI_neg : ∀ (l m : List Int), lexI m l = -lexI l m
  | [], [] => rfl
  | [], _ :: _ => rfl
  | _ :: _, [] => rfl
  | a :: l, b :: m => by
    have := lexI_neg l m
    simp only [lexI]
    split <;> split <;> first | omega | rfl | (rw [this])
theorem lex_dl : ∀ (l m : List UInt8), (∀ x ∈ l, 48 ≤ x.toNat) → (∀ x ∈ m, 48 ≤ x.toNat) → Lib.compareBytes l m = lexI (l.map dvB) (m.map dvB)
  | [], [], _, _ => rfl
  | [], _ :: _, _, _ => rfl
  | _ :: _, [], _, _ => rfl
  | a :: l, b :: m, hl, hm => by
    have ih := lex_dl l m (fun x hx => hl x (List.mem_cons_of_mem _ hx)) (fun x hx => hm x (List.mem_cons_of_mem _ hx))
    have ha := hl a List.mem_cons_self
    have hb := hm b List.mem_cons_self
    have ha' := a.toNat_lt
    have hb' := b.toNat_lt
    simp only [Lib.compareBytes, List.map_cons, lexI, UInt8.lt_iff_toNat_lt]
    have e1 : (dvB a < dvB b) = (a.toNat < b.toNat) := by unfold dvB; exact propext (by omega)
    have e2 : (dvB b < dvB a) = (b.toNat < a.toNat) := by unfold dvB; exact propext (by omega)
    simp only [e1, e2, ih]
theorem trailB_mem {x : UInt8} : ∀ {l : List UInt8}, x ∈ trailB l → x ∈ l
  | [], h => h
  | y :: l, h => by
    have ih := trailB_mem (x := x) (l := l)
    simp only [trailB] at h
    split at h
    · split at h
      · cases h
      · simp only [List.mem_singleton] at h; simp [h]
    · rename_i z r hr
      rw [hr] at ih
      cases h with
      | head => exact List.mem_cons_self
      | tail _ h => exact List.mem_cons_of_mem _ (ih h)
theorem manyS_digS (s : ByteArray) (k : Nat) : ∀ i, k ≤ i → i < manyS s k → digS s i = true := by
  intro i h1 h2
  by_cases h : digS s k = true
  · rcases Nat.eq_or_lt_of_le h1 with rfl | h3
    · exact h
    · rw [manyS_yes h] at h2
      exact manyS_digS s (k + 1) i h3 h2
  · rw [manyS_no (by simpa using h)] at h2
    omega
termination_by s.size - k
decreasing_by have := digS_lt h; omega
theorem extract_digits (s : ByteArray) (k : Nat) : ∀ x ∈ (s.extract k (manyS s k)).data.toList, 48 ≤ x.toNat := by
  intro x hx
  obtain ⟨j, hj, rfl⟩ := List.getElem_of_mem hx
  have hj' : j < (s.extract k (manyS s k)).size := by rwa [Array.length_toList] at hj
  have e := bAt_list _ j hj'
  rw [ByteArray.size_extract] at hj'
  rw [bAt_extract s k (manyS s k) j (by omega) (by omega)] at e
  have := manyS_digS s k (k + j) (by omega) (by omega)
  simp only [digS, Bool.and_eq_true, decide_eq_true_eq] at this
  rw [show ((k + j : Nat) : Int) = (k : Int) + j by omega] at this
  omega
theorem digits_low (s : ByteArray) : ∀ x ∈ (progS s).digits.data.toList, 48 ≤ x.toNat := by
  intro x hx
  have h1 : x ∈ (allS s).data.toList := by
    have : (progS s).digits = trimR (trimL (allS s) 48) 48 := by
      show trimR (trimL (s.extract (atA s) (atB s) ++ fracS s) 48) 48 = _
      rw [allS_eq]
    rw [this, trimR_list, trimL_list] at hx
    exact (List.dropWhile_sublist _).subset (trailB_mem hx)
  have hA := extract_digits s (atA s)
  have hK := extract_digits s (atB s + 1)
  unfold allS at h1
  split at h1
  · rw [ByteArray.data_append, Array.toList_append, List.mem_append] at h1
    exact h1.elim (hA x) (hK x)
  · exact hA x h1
end Go.Proofs.YtdibapfehdhfjaaDoor
