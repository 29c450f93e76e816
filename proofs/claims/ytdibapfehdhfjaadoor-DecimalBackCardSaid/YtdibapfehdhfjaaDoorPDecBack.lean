/-
  The exact text of a float32 has it as the nearest, and no digit too many. No program.
-/
import Derived.Test.YtdibapfehdhfjaaDoorPDecOrders
import Derived.Test.YtdibapfehdhfjaaDoorGF
namespace Go.Proofs.YtdibapfehdhfjaaDoor
open Go.Eng
set_option linter.unusedVariables false
set_option linter.unusedSimpArgs false

theorem extract_mk (s : ByteArray) (a b : Nat) : s.extract a b = mkB ((s.data.toList.take b).drop a) := by
  apply ByteArray.ext
  apply Array.toList_inj.1
  rw [ByteArray.data_extract, Array.toList_extract]
  simp [mkB, List.extract, List.drop_take]
theorem list_size (s : ByteArray) : s.data.toList.length = s.size := Array.length_toList
/-- What stands ahead of the dot, and behind it. -/
theorem p_cut_dot {s : ByteArray} {pre post : List UInt8} (h : s.data.toList = pre ++ 46 :: post) (hn : ∀ x ∈ pre, x ≠ 46) (hs : s.size < 200000000000000) : signetlaw2_cut_s s = some (mkB pre, mkB post) := by
  have hl := list_size s
  rw [h] at hl
  simp only [List.length_append, List.length_cons] at hl
  have key : signetlaw2_cut_p0 s 0 = some (.inl (mkB pre, mkB post)) := by
    unfold signetlaw2_cut_p0
    refine whileO_rule (fun x : Int => ∃ i : Nat, x = i ∧ i ≤ pre.length) (fun x => (pre.length - x).toNat) (fun _ => (Sum.inl (mkB pre, mkB post) : (ByteArray × ByteArray) ⊕ Unit)) ?_ (x := (0 : Int)) ⟨0, rfl, by omega⟩
    rintro x ⟨i, rfl, hi⟩
    unfold signetlaw2_cut_p0_step
    rw [decide_eq_true (by omega), cond_true, gd_pos (by omega)]
    rcases Nat.lt_or_ge i pre.length with hlt | hge
    · left
      have hb : bAt s i ≠ 46 := by
        rw [bAt_of_list h i pre[i] (by rw [List.getElem?_append_left hlt, List.getElem?_eq_getElem hlt])]
        intro h0
        refine hn _ (List.getElem_mem hlt) ?_
        apply UInt8.toNat_inj.1
        exact Int.ofNat_inj.1 h0
      rw [decide_eq_false hb, cond_false, gd_pos (by unfold InI64; omega)]
      exact ⟨((i + 1 : Nat) : Int), rfl, ⟨i + 1, rfl, hlt⟩, by omega, rfl⟩
    · right
      have he : i = pre.length := by omega
      subst he
      have hb : bAt s (pre.length : Nat) = 46 := by
        rw [bAt_of_list h pre.length 46 (by simp)]
        rfl
      rw [decide_eq_true hb, cond_true, gd_pos (by omega), gd_pos (by unfold InI64; omega), gd_pos (by omega)]
      rw [extract_mk, extract_mk, h, ← list_size s, h]
      rw [Int.toNat_natCast, show Int.toNat ((pre.length : Int) + 1) = pre.length + 1 by omega, List.take_length]
      congr 4
      · simp
      · rw [List.drop_append, List.drop_eq_nil_of_le (by omega), show pre.length + 1 - pre.length = 1 by omega]
        rfl
  unfold signetlaw2_cut_s
  rw [key, Option.bind_some]
  rfl
theorem p_cut_none {s : ByteArray} (hn : ∀ x ∈ s.data.toList, x ≠ 46) (hs : s.size < 200000000000000) : signetlaw2_cut_s s = some (s, ⟨#[]⟩) := by
  have hl := list_size s
  have key : signetlaw2_cut_p0 s 0 = some (.inr ()) := by
    unfold signetlaw2_cut_p0
    refine whileO_rule (fun x : Int => ∃ i : Nat, x = i ∧ i ≤ s.size) (fun x => (s.size - x).toNat) (fun _ => (Sum.inr () : (ByteArray × ByteArray) ⊕ Unit)) ?_ (x := (0 : Int)) ⟨0, rfl, by omega⟩
    rintro x ⟨i, rfl, hi⟩
    unfold signetlaw2_cut_p0_step
    rcases Nat.lt_or_ge i s.size with hlt | hge
    · left
      rw [decide_eq_true (by omega), cond_true, gd_pos (by omega)]
      have hlt' : i < s.data.toList.length := by omega
      have hb : bAt s i ≠ 46 := by
        rw [bAt_of_list rfl i s.data.toList[i] (List.getElem?_eq_getElem hlt')]
        intro h0
        refine hn _ (List.getElem_mem hlt') ?_
        apply UInt8.toNat_inj.1
        exact Int.ofNat_inj.1 h0
      rw [decide_eq_false hb, cond_false, gd_pos (by unfold InI64; omega)]
      exact ⟨((i + 1 : Nat) : Int), rfl, ⟨i + 1, rfl, hlt⟩, by omega, rfl⟩
    · right
      rw [decide_eq_false (by omega), cond_false]
  unfold signetlaw2_cut_s
  rw [key, Option.bind_some]
  rfl
/-- A text with or without a minus. -/
def sT (m : Bool) (t : ByteArray) : ByteArray := if m = true then negT t else t
def mL (m : Bool) : List UInt8 := if m = true then [45] else []
theorem sT_list (m : Bool) (t : ByteArray) : (sT m t).data.toList = mL m ++ t.data.toList := by
  cases m
  · rfl
  · exact neg_list t
section
variable {t : ByteArray} {W F : List Int} (h : NumTxt t W F)
include h
theorem sT_ok (m : Bool) : readOk (sT m t) = true := by
  cases m
  · exact nt_ok h
  · show readOk (negT t) = true
    rw [neg_ok (nt_minus h), nt_ok h]
theorem sT_key (m : Bool) : keyS (sT m t) = keyS t := by
  cases m
  · rfl
  · exact neg_key (nt_minus h)
theorem sT_minus (m : Bool) : bAt (sT m t) 0 = 45 ↔ m = true := by
  cases m
  · exact ⟨fun h0 => (nt_minus h h0).elim, fun h0 => by cases h0⟩
  · exact ⟨fun _ => rfl, fun _ => bAt_neg0 t⟩
theorem mL_ne (m : Bool) : ∀ x ∈ mL m ++ byteD W, x ≠ 46 := by
  intro x hx
  rcases List.mem_append.1 hx with hx | hx
  · cases m
    · cases hx
    · have : x = 45 := by simpa [mL] using hx
      rw [this]; decide
  · obtain ⟨d, hd, rfl⟩ := List.mem_map.1 hx
    exact last_ne (h.dw d hd)
end
theorem lastNZ_snoc {d : Int} : ∀ {l : List Int}, LastNZ (l ++ [d]) → d ≠ 0
  | [], h => h
  | [x], h => h
  | x :: y :: l, h => lastNZ_snoc (l := y :: l) h
/-- One digit less is another value. -/
theorem less_digit {t t' : ByteArray} {W F : List Int} {d : Int} (h : NumTxt t W (F ++ [d])) (h' : NumTxt t' W F) (hd : d ≠ 0) : cmpK (keyS t') (keyS t) ≠ 0 := by
  obtain ⟨v1, f1⟩ := nt_val h (K := F.length + 1) (by simp)
  obtain ⟨v2, f2⟩ := nt_val h' (K := F.length + 1) (by omega)
  rw [cmpK_val (norm_key _) (norm_key _) f2 f1, v1, v2]
  have e1 := frac_num (W ++ (F ++ [d])) 0
  have e2 := frac_num (W ++ F) 1
  rw [show (W ++ (F ++ [d])).length + 0 = W.length + (F.length + 1) by simp] at e1
  rw [show (W ++ F).length + 1 = W.length + (F.length + 1) by simp; omega] at e2
  have e3 := numL_snoc (W ++ F) d
  rw [List.append_assoc] at e3
  intro h0
  have := sgn_zero.1 h0
  rw [e1, e2, e3] at this
  omega
theorem cmpV_ne {a b : Bool} {z : Int} (h : z ≠ 0) : cmpV a b z ≠ 0 := by
  cases a <;> cases b <;> simp [cmpV] <;> omega
theorem valB_exact {b : Nat} (hb : b < 2139095040) : IsNear (keyS (decT (partF b) (partX b))) b := by
  obtain ⟨r1, r2, r3⟩ := part_range b
  have na := norm_key (decT (partF b) (partX b))
  obtain ⟨Q, hQ⟩ : ∃ Q : Nat, Q = 150 := ⟨_, rfl⟩
  obtain ⟨v1, f1⟩ := decT_val (partF b) (partX b) (K := Q) (by unfold behindN; omega)
  have hs := scale (f := partF b) (y := partX b) (Q := Q) (by omega) (Nat.le_refl Q)
  have hv : valK Q (keyS (decT (partF b) (partX b))) = ((2 * valB b : Nat) : Int) * (unitK Q Q : Int) := by
    rw [v1]
    have h : (M2 (partF b) (partX b) : Int) * 10 ^ (Q - behindN (partX b)) = ((M2 (partF b) (partX b) * 10 ^ (Q - behindN (partX b)) : Nat) : Int) := by
      rw [Int.natCast_mul, Int.natCast_pow]; rfl
    have hnat : M2 (partF b) (partX b) * 10 ^ (Q - behindN (partX b)) = 2 * valB b * unitK Q Q := by
      rw [hs]
      unfold valB unitK
      rw [show (partX b + (Q : Int)).toNat = (partX b + 149).toNat + 1 by omega, Nat.pow_succ, ← Nat.mul_assoc (partF b), Nat.mul_comm _ 2]
    rw [h, hnat, Int.natCast_mul]
  have hc : ∀ c, cmpK (keyS (decT (partF b) (partX b))) (midK c) = sgn (((2 * valB b : Nat) : Int) * (unitK Q Q : Int) - (midV c : Int) * (unitK Q Q : Int)) := fun c => by
    obtain ⟨e1, e2⟩ := val_mid c (K := Q) hQ (Nat.le_refl _)
    rw [cmpK_val na (mid_norm c) f1 e2, e1, hv]
  have hu : (0 : Int) < (unitK Q Q : Int) := Int.ofNat_lt.2 (unitK_pos _ _)
  have h1 : cmpK (keyS (decT (partF b) (partX b))) (midK b) < 0 := by
    rw [hc, sgn_ltz]
    have hm : ((2 * valB b : Nat) : Int) < (midV b : Int) := by
      have := valB_lt (b := b) (by omega)
      rw [midV_eq (by omega)]; omega
    have := Int.mul_lt_mul_of_pos_right hm hu
    omega
  have h2 : b = 0 ∨ 0 < cmpK (keyS (decT (partF b) (partX b))) (midK (b - 1)) := by
    rcases Nat.eq_zero_or_pos b with h0 | h0
    · exact .inl h0
    · right
      rw [hc, sgn_of_gt]
      · omega
      · have hm : (midV (b - 1) : Int) < ((2 * valB b : Nat) : Int) := by
          have h3 := valB_lt (b := b - 1) (by omega)
          rw [midV_eq (by omega), show b - 1 + 1 = b by omega] at *
          omega
        have := Int.mul_lt_mul_of_pos_right hm hu
        omega
  have := near_of na (b := b) (by omega) (.inr (by omega)) (h2.imp id (fun h => by omega))
  rw [if_neg (fun hh => by rcases h2 with h2 | h2 <;> omega), if_neg (fun hh => by omega)] at this
  exact this
theorem back_p0 {s t : ByteArray} (hs : s.size < 200000000000000) (ht : t.size < 200000000000000) (rs : readOk s = true) (rt : readOk t = true) (hne : cmpK (keyS t) (keyS s) ≠ 0) : signetlaw2_DecimalBack_p0 s t = some true := by
  unfold signetlaw2_DecimalBack_p0
  rw [p_CompareN ht hs rt rs, Option.bind_some]
  have : cmpN t s ≠ 0 := cmpV_ne hne
  dsimp only
  rw [decide_eq_false this]
  rfl
theorem decimalBack_plain {b : Nat} (hb : b < 4294967296) : signetlaw2_DecimalBack_s b = some true := by
  obtain ⟨r1, r2, r3⟩ := part_range b
  unfold signetlaw2_DecimalBack_s
  rw [p_started, Option.bind_some, Bool.not_true, cond_false, p_Exact hb, Option.bind_some]
  refine (gd_pos (by decide) _).trans ?_
  rw [and255 hb]
  by_cases hi : b / 8388608 % 256 = 255
  · rw [decide_eq_true (by omega), cond_true]
    unfold exactS
    rw [if_pos hi, decide_eq_true rfl]
  · rw [decide_eq_false (by omega), cond_false]
    obtain ⟨m, hm⟩ : ∃ m : Bool, m = decide (b / 2147483648 = 1) := ⟨_, rfl⟩
    obtain ⟨n, hn⟩ : ∃ n : Nat, n = b % 2147483648 := ⟨_, rfl⟩
    have eF : partF n = partF b := by rw [hn]; unfold partF; split <;> split <;> omega
    have eX : partX n = partX b := by rw [hn]; unfold partX; split <;> split <;> omega
    have hnear := valB_exact (b := n) (by omega)
    rw [eF, eX] at hnear
    have nt := decT_nt (partF b) (partX b)
    have hsz := decT_size (partF b) (partX b) (by omega) (by omega)
    have hl : LastNZ (trail (frT (partF b) (partX b))) := trail_last _
    have hex : exactS b = sT m (decT (partF b) (partX b)) := by
      unfold exactS sT sgnB negT
      rw [if_neg hi, hm]
      by_cases h1 : b / 2147483648 = 1
      · rw [if_pos h1, decide_eq_true h1, if_pos rfl]
      · rw [if_neg h1, decide_eq_false h1, if_neg (by decide), none_app]
    rw [hex]
    generalize hW : intT (partF b) (partX b) = W at nt
    generalize hF : trail (frT (partF b) (partX b)) = F at nt hl
    generalize decT (partF b) (partX b) = t at *
    have hst : (sT m t).size < 20000 := by
      unfold sT
      split
      · rw [neg_size]; omega
      · omega
    have hns := p_Nearest (sT m t) (by omega) (N := n) (by rw [sT_key nt]; exact hnear)
    rw [sT_ok nt, if_pos rfl] at hns
    have hbits : minusS (sT m t) + (n : Int) = b := by
      unfold minusS
      by_cases h1 : b / 2147483648 = 1
      · rw [if_pos ((sT_minus nt m).2 (by rw [hm]; simp [h1]))]
        omega
      · rw [if_neg (fun h => by have := (sT_minus nt m).1 h; rw [hm] at this; exact h1 (by simpa using this))]
        omega
    rw [hns, Option.bind_some, p_Valid _ (by omega), Option.bind_some, sT_ok nt, hbits, decide_eq_true rfl, decide_eq_true rfl]
    simp only [Bool.not_true, Bool.or_false, cond_false]
    have hlist : (sT m t).data.toList = mL m ++ byteD W ++ dotF F := by rw [sT_list, nt.txt, List.append_assoc]
    rcases List.eq_nil_or_concat F with hF0 | ⟨F', d, hFd⟩
    · subst hF0
      have hn46 : ∀ x ∈ (sT m t).data.toList, x ≠ 46 := by
        rw [hlist]
        intro x hx
        exact mL_ne nt m x (by simpa [dotF] using hx)
      rw [p_cut_none hn46 (by omega), Option.bind_some, decide_eq_true rfl, cond_true]
    · rw [List.concat_eq_append] at hFd
      subst hFd
      have hd0 : d ≠ 0 := lastNZ_snoc hl
      have hdot : dotF (F' ++ [d]) = 46 :: byteD (F' ++ [d]) := by unfold dotF; rw [if_neg (by simp)]
      rw [hdot] at hlist
      rw [p_cut_dot hlist (mL_ne nt m) (by omega), Option.bind_some]
      dsimp only
      have hne : ¬ mkB (byteD (F' ++ [d])) = (⟨#[]⟩ : ByteArray) := by
        intro h0
        have := eq_none.1 h0
        rw [mkB_size, byteD_len, List.length_append] at this
        simp at this
      have hlen : (sT m t).size = (mL m ++ byteD W).length + (F'.length + 2) := by
        rw [← list_size, hlist]
        simp [byteD_len]
        omega
      have ndF' : Dig F' := fun x hx => nt.df x (List.mem_append_left _ hx)
      have e46 : byteD (F' ++ [d]) = byteD F' ++ [chr d] := by simp [byteD]
      rw [decide_eq_false hne, cond_false, gd_pos (by unfold InI64; omega), gd_pos (by omega), mkB_size, byteD_len, List.length_append, List.length_singleton]
      -- the text without the last digit
      have fin : ∀ k : Nat, ((sT m t).data.toList.take k = mL m ++ byteD W ++ dotF F') → signetlaw2_DecimalBack_p0 (sT m t) ((sT m t).extract 0 k) = some true := fun k hk => by
        have nt' : NumTxt (mkB (byteD W ++ dotF F')) W F' := ⟨by simp [mkB], nt.dw, ndF', nt.ne, nt.head⟩
        have he : (sT m t).extract 0 k = sT m (mkB (byteD W ++ dotF F')) := by
          rw [extract_mk, List.drop_zero, hk, ← mkB_list (sT m (mkB (byteD W ++ dotF F'))), sT_list]
          simp [mkB]
        have hsz' : ((sT m t).extract 0 k).size ≤ (sT m t).size := by rw [ByteArray.size_extract]; omega
        refine back_p0 (by omega) (by omega) (sT_ok nt m) (by rw [he]; exact sT_ok nt' m) ?_
        rw [he, sT_key nt', sT_key nt]
        exact less_digit nt nt' hd0
      by_cases h1 : F' = []
      · subst h1
        rw [decide_eq_true (by simp), cond_true, gd_pos (by unfold InI64; omega), gd_pos (by omega), fin _ ?_, Option.bind_some]
        rw [hlist, hlen, show Int.toNat ((((mL m ++ byteD W).length + (([] : List Int).length + 2) : Nat) : Int) - 2) = (mL m ++ byteD W).length by rw [List.length_nil]; omega, List.take_append, List.take_length]
        simp [dotF]
      · have hp : 0 < F'.length := List.length_pos_iff.2 h1
        rw [decide_eq_false (by omega), cond_false, fin _ ?_, Option.bind_some]
        have hdot' : dotF F' = 46 :: byteD F' := by unfold dotF; rw [if_neg h1]
        rw [hlist, hlen, hdot', e46, show Int.toNat ((((mL m ++ byteD W).length + (F'.length + 2) : Nat) : Int) - 1) = (mL m ++ byteD W).length + (F'.length + 1) by omega]
        rw [List.take_append, List.take_of_length_le (by omega), show (mL m ++ byteD W).length + (F'.length + 1) - (mL m ++ byteD W).length = F'.length + 1 by omega, List.take_succ_cons, List.take_append, List.take_of_length_le (by rw [byteD_len]; omega), byteD_len, Nat.sub_self]
        simp
end Go.Proofs.YtdibapfehdhfjaaDoor
