/-
  Texts of digits with a dot or none: how they are read, what their keys are. No program.
-/
import Derived.Test.YtdibapfehdhfjaaDoorDecBig
namespace Go.Proofs.YtdibapfehdhfjaaDoor
open Go.Eng
set_option linter.unusedVariables false
set_option linter.unusedSimpArgs false

/-- A digit's byte. -/
def chr (d : Int) : UInt8 := UInt8.ofNat ((48 + d) % 256).toNat
theorem chr_nat {d : Int} (h : 0 ≤ d ∧ d ≤ 9) : ((chr d).toNat : Int) = 48 + d := by
  unfold chr
  have : ((48 + d) % 256).toNat < 256 := by omega
  rw [UInt8.toNat_ofNat_of_lt' (by simpa using this)]
  omega
def byteD (l : List Int) : List UInt8 := l.map chr
theorem byteD_len (l : List Int) : (byteD l).length = l.length := by simp [byteD]
theorem dvB_chr {d : Int} (h : 0 ≤ d ∧ d ≤ 9) : dvB (chr d) = d := by
  unfold dvB
  rw [chr_nat h]
  omega
theorem dl_byteD {l : List Int} (h : Dig l) : (byteD l).map dvB = l := by
  unfold byteD
  rw [List.map_map]
  have : ∀ x ∈ l, (dvB ∘ chr) x = id x := fun x hx => dvB_chr (h x hx)
  rw [List.map_congr_left this, List.map_id]
/-- What stands behind the whole part. -/
def dotF (F : List Int) : List UInt8 := if F = [] then [] else 46 :: byteD F
theorem head_nz : ∀ (W : List Int) (hp : 0 < W.length), W.head? ≠ some 0 → W[0] ≠ 0
  | [], hp, _ => by simp at hp
  | d :: l, _, hh => by simpa using hh
structure NumTxt (t : ByteArray) (W F : List Int) : Prop where
  txt : t.data.toList = byteD W ++ dotF F
  dw : Dig W
  df : Dig F
  ne : W ≠ []
  head : W.head? ≠ some 0 ∨ W.length = 1

theorem bAt_of_list {t : ByteArray} {l : List UInt8} (h : t.data.toList = l) (i : Nat) (x : UInt8) (hx : l[i]? = some x) : bAt t i = x.toNat := by
  subst h
  obtain ⟨hi, rfl⟩ := List.getElem?_eq_some_iff.1 hx
  exact bAt_list t i (by simpa using hi)
theorem size_of_list {t : ByteArray} {l : List UInt8} (h : t.data.toList = l) : t.size = l.length := by
  rw [← h, Array.length_toList]; rfl
theorem bAt_end (t : ByteArray) (i : Nat) (h : t.size ≤ i) : bAt t i = -1 := bAt_out (by omega)
theorem manyS_run (t : ByteArray) : ∀ (n a : Nat), (∀ i, a ≤ i → i < a + n → digS t i = true) → digS t ((a + n : Nat) : Int) = false → manyS t a = a + n
  | 0, a, _, h2 => manyS_no h2
  | n + 1, a, h1, h2 => by
    rw [manyS_yes (h1 a (by omega) (by omega)), manyS_run t n (a + 1) (fun i g1 g2 => h1 i (by omega) (by omega)) (by rw [show a + 1 + n = a + (n + 1) by omega]; exact h2)]
    omega
section
variable {t : ByteArray} {W F : List Int} (h : NumTxt t W F)
include h
theorem nt_size : t.size = W.length + (if F = [] then 0 else F.length + 1) := by
  rw [size_of_list h.txt, List.length_append, byteD_len]
  unfold dotF
  split <;> simp [byteD_len]
theorem nt_w (i : Nat) (hi : i < W.length) : bAt t i = 48 + W[i] := by
  rw [bAt_of_list h.txt i (chr W[i]) (by rw [List.getElem?_append_left (by rw [byteD_len]; exact hi)]; simp [byteD, hi])]
  exact chr_nat (h.dw _ (List.getElem_mem hi))
theorem nt_dot (hF : F ≠ []) : bAt t W.length = 46 := by
  rw [bAt_of_list h.txt W.length 46 (by rw [List.getElem?_append_right (by rw [byteD_len]; omega), byteD_len, Nat.sub_self]; unfold dotF; rw [if_neg hF]; rfl)]
  rfl
theorem nt_f (hF : F ≠ []) (i : Nat) (hi : i < F.length) : bAt t ((W.length + 1 + i : Nat) : Int) = 48 + F[i] := by
  rw [bAt_of_list h.txt (W.length + 1 + i) (chr F[i]) (by
    rw [List.getElem?_append_right (by rw [byteD_len]; omega), byteD_len]
    unfold dotF
    rw [if_neg hF, show W.length + 1 + i - W.length = i + 1 by omega]
    simp [byteD, hi])]
  exact chr_nat (h.df _ (List.getElem_mem hi))
theorem nt_pos : 0 < W.length := List.length_pos_iff.2 h.ne
theorem nt_atA : atA t = 0 := by
  have hp := nt_pos h
  have := nt_w h 0 hp
  have hd := h.dw _ (List.getElem_mem hp)
  unfold atA
  rw [if_neg (by rw [show ((0 : Nat) : Int) = 0 from rfl] at this; omega)]
theorem nt_atB : atB t = W.length := by
  have h1 : ∀ i, 0 ≤ i → i < 0 + W.length → digS t (i : Nat) = true := fun i _ hi => by
    have := nt_w h i (by omega)
    have hd := h.dw _ (List.getElem_mem (show i < W.length by omega))
    simp only [digS, Bool.and_eq_true, decide_eq_true_eq]
    omega
  have h2 : digS t ((0 + W.length : Nat) : Int) = false := by
    rw [Nat.zero_add]
    have : bAt t (W.length : Nat) = 46 ∨ bAt t (W.length : Nat) = -1 := by
      by_cases hF : F = []
      · exact .inr (bAt_end t _ (by rw [nt_size h, if_pos hF]; omega))
      · exact .inl (nt_dot h hF)
    rw [digS, Bool.and_eq_false_iff, decide_eq_false_iff_not, decide_eq_false_iff_not]
    omega
  unfold atB
  rw [nt_atA h, manyS_run t W.length 0 h1 h2, Nat.zero_add]
theorem nt_dotS : dotS t = !decide (F = []) := by
  unfold dotS
  rw [nt_atB h]
  by_cases hF : F = []
  · rw [bAt_end t _ (by rw [nt_size h, if_pos hF]; omega)]
    simp [hF]
  · rw [nt_dot h hF]
    simp [hF]
theorem nt_atK (hF : F ≠ []) : atK t = t.size := by
  have hs := nt_size h
  rw [if_neg hF] at hs
  have h1 : ∀ i, W.length + 1 ≤ i → i < W.length + 1 + F.length → digS t (i : Nat) = true := fun i g1 hi => by
    have := nt_f h hF (i - (W.length + 1)) (by omega)
    rw [show W.length + 1 + (i - (W.length + 1)) = i by omega] at this
    have hd := h.df _ (List.getElem_mem (show i - (W.length + 1) < F.length by omega))
    simp only [digS, Bool.and_eq_true, decide_eq_true_eq]
    omega
  have h2 : digS t ((W.length + 1 + F.length : Nat) : Int) = false := by
    rw [digS, bAt_end t _ (by omega)]
    rfl
  unfold atK
  rw [nt_atB h, manyS_run t F.length (W.length + 1) h1 h2, hs]
  omega
theorem nt_atC : atC t = t.size := by
  unfold atC
  rw [nt_dotS h]
  by_cases hF : F = []
  · rw [nt_atB h, nt_size h]
    simp [hF]
  · simp [hF, nt_atK h hF]
theorem nt_expS : expS t = false := by
  unfold expS
  rw [nt_atC h, bAt_end t _ (Nat.le_refl _)]
  rfl
theorem nt_ok : readOk t = true := by
  have hp := nt_pos h
  have hbad : badA t = false := by
    unfold badA
    rw [nt_atA h, nt_atB h]
    have h0 := nt_w h 0 hp
    rw [show ((0 : Nat) : Int) = 0 from rfl] at h0
    have e0 : ((0 : Nat) : Int) = 0 := rfl
    rw [e0, h0, Bool.or_eq_false_iff, Bool.and_eq_false_iff, decide_eq_false_iff_not, decide_eq_false_iff_not, decide_eq_false_iff_not]
    refine ⟨by omega, ?_⟩
    rcases h.head with hh | hh
    · left
      have := head_nz W hp hh
      omega
    · right; omega
  have hdot : (dotS t && decide (atK t = atB t + 1)) = false := by
    rw [nt_dotS h]
    by_cases hF : F = []
    · simp [hF]
    · have hs := nt_size h
      rw [if_neg hF] at hs
      have hFl : 0 < F.length := List.length_pos_iff.2 hF
      rw [nt_atK h hF, nt_atB h, decide_eq_false (show ¬ t.size = W.length + 1 by omega), Bool.and_false]
  unfold readOk
  rw [hbad, hdot, nt_expS h]
  have : atG t = t.size := by unfold atG; rw [nt_expS h]; exact nt_atC h
  simp [this]
theorem nt_exp : (progS t).exp.size = 0 := by
  have : (progS t).exp = ⟨#[]⟩ := by
    unfold progS
    dsimp only
    rw [nt_expS h]
    rfl
  rw [this]; rfl
theorem nt_minus : bAt t 0 ≠ 45 := by
  have hp := nt_pos h
  have h0 := nt_w h 0 hp
  have hd := h.dw _ (List.getElem_mem hp)
  rw [show ((0 : Nat) : Int) = 0 from rfl] at h0
  omega
theorem nt_intN : intN t = W.length := by unfold intN; rw [nt_atA h, nt_atB h, Nat.sub_zero]
theorem nt_all : dl (allS t) = W ++ F := by
  have e1 : (t.extract 0 W.length).data.toList = byteD W := by
    rw [extract_toList, h.txt, List.drop_zero, Nat.sub_zero]
    rw [List.take_append_of_le_length (by rw [byteD_len]; exact Nat.le_refl _), List.take_of_length_le (by rw [byteD_len]; exact Nat.le_refl _)]
  unfold allS
  rw [nt_dotS h, nt_atA h, nt_atB h]
  by_cases hF : F = []
  · rw [hF]
    simp only [decide_true, Bool.not_true, Bool.false_eq_true, if_false, List.append_nil]
    unfold dl
    rw [e1, dl_byteD h.dw]
  · have hs := nt_size h
    rw [if_neg hF] at hs
    have e2 : (t.extract (W.length + 1) t.size).data.toList = byteD F := by
      rw [extract_toList, h.txt, List.drop_append, byteD_len, show W.length + 1 - W.length = 1 by omega, List.drop_of_length_le (by rw [byteD_len]; omega), List.nil_append]
      unfold dotF
      rw [if_neg hF, List.drop_succ_cons, List.drop_zero, List.take_of_length_le (by rw [byteD_len]; omega)]
    simp only [hF, decide_false, Bool.not_false, if_true]
    rw [nt_atK h hF]
    unfold dl
    rw [ByteArray.data_append, Array.toList_append, e1, e2, List.map_append, dl_byteD h.dw, dl_byteD h.df]
theorem nt_frac : (fracS t).size = F.length := by
  have h1 := all_size t
  have h2 := nt_all h
  have h3 := congrArg List.length h2
  rw [dl_length, List.length_append] at h3
  rw [nt_intN h] at h1
  omega
theorem nt_val {K : Nat} (hK : F.length ≤ K) : valK K (keyS t) = frac (W ++ F) (W.length + K) ∧ Fits K (keyS t) := by
  have := val_key (K := K) (nt_exp h) (by rw [nt_frac h]; exact hK)
  rw [nt_all h, nt_intN h] at this
  exact this
end
/-! ### the text of M times 10^-b -/
theorem trailB_cons_ne (x : UInt8) (l : List UInt8) (h : x ≠ 48) : trailB (x :: l) = x :: trailB l := by
  simp only [trailB]
  split
  · rename_i hl; rw [hl]; simp [h]
  · rename_i y r hl; rw [hl]
theorem trailB_append (l m : List UInt8) : trailB m ≠ [] → trailB (l ++ m) = l ++ trailB m := by
  intro hm
  induction l with
  | nil => rfl
  | cons x l ih =>
    simp only [List.cons_append, trailB, ih]
    cases hq : l ++ trailB m with
    | nil => simp at hq; exact absurd hq.2 hm
    | cons y r => rfl
theorem chr_zero {d : Int} (h : 0 ≤ d ∧ d ≤ 9) : chr d = 48 ↔ d = 0 := by
  constructor
  · intro e
    have := chr_nat h
    rw [e] at this
    have e48 : ((48 : UInt8).toNat : Int) = 48 := rfl
    omega
  · rintro rfl; rfl
theorem trailB_byteD : ∀ {l : List Int}, Dig l → trailB (byteD l) = byteD (trail l)
  | [], _ => rfl
  | d :: l, h => by
    have ih := trailB_byteD h.tail
    have hd := h d List.mem_cons_self
    unfold byteD at ih ⊢
    simp only [List.map_cons, trailB, trail, ih]
    cases ht : trail l with
    | nil =>
      simp only [List.map_nil]
      by_cases h0 : d = 0
      · rw [if_pos ((chr_zero hd).2 h0), if_pos h0]; rfl
      · rw [if_neg (fun e => h0 ((chr_zero hd).1 e)), if_neg h0]; rfl
    | cons y r => rfl
end Go.Proofs.YtdibapfehdhfjaaDoor
