/-
  Noughts behind a number, and its exponent, say the same. No program.
-/
import Derived.Test.YtdibapfehdhfjaaDoorPDecWholes
namespace Go.Proofs.YtdibapfehdhfjaaDoor
open Go.Eng
set_option linter.unusedVariables false
set_option linter.unusedSimpArgs false

def dT (W : List Int) : ByteArray := mkB (byteD W)
theorem mkB_toList (l : List UInt8) : (mkB l).data.toList = l := by simp [mkB]
theorem chr_dvB {x : UInt8} (h : 48 ≤ x.toNat ∧ x.toNat ≤ 57) : chr (dvB x) = x := by
  apply UInt8.toNat_inj.1
  have h1 : 0 ≤ dvB x ∧ dvB x ≤ 9 := by unfold dvB; omega
  have h2 := chr_nat h1
  have h3 : dvB x = (x.toNat : Int) - 48 := by unfold dvB; omega
  omega
theorem byteD_dl {b : ByteArray} (h : ∀ x ∈ b.data.toList, 48 ≤ x.toNat ∧ x.toNat ≤ 57) : byteD (dl b) = b.data.toList := by
  unfold byteD dl
  rw [List.map_map]
  have : ∀ x ∈ b.data.toList, (chr ∘ dvB) x = id x := fun x hx => chr_dvB (h x hx)
  rw [List.map_congr_left this, List.map_id]
theorem byteD_inj {l m : List Int} (hl : Dig l) (hm : Dig m) (h : byteD l = byteD m) : l = m := by
  rw [← dl_byteD hl, ← dl_byteD hm, h]
theorem dT_nt {W : List Int} (hd : Dig W) (hn : W ≠ []) (hh : W.head? ≠ some 0 ∨ W.length = 1) : NumTxt (dT W) W [] := by
  refine ⟨?_, hd, fun d hd => (by cases hd), hn, hh⟩
  unfold dT
  rw [mkB_toList]
  simp [dotF]
/-- A read text without dot and exponent is a sign and digits. -/
theorem plain_txt {t : ByteArray} (hr : readOk t = true) (hn : ∀ x ∈ t.data.toList, x ≠ 46 ∧ x ≠ 101 ∧ x ≠ 69) : ∃ W, t = sT (decide (bAt t 0 = 45)) (dT W) ∧ NumTxt (dT W) W [] := by
  have ne : ∀ i : Nat, bAt t i ≠ 46 ∧ bAt t i ≠ 101 ∧ bAt t i ≠ 69 := fun i => by
    rw [bAt_get]
    cases h : t.data.toList[i]? with
    | none => decide
    | some x =>
      obtain ⟨h1, h2, h3⟩ := hn x (List.mem_of_getElem? h)
      have k1 : (46 : UInt8).toNat = 46 := rfl
      have k2 : (101 : UInt8).toNat = 101 := rfl
      have k3 : (69 : UInt8).toNat = 69 := rfl
      refine ⟨fun e => h1 (UInt8.toNat_inj.1 ?_), fun e => h2 (UInt8.toNat_inj.1 ?_), fun e => h3 (UInt8.toNat_inj.1 ?_)⟩ <;> (dsimp only at e; omega)
  have hdot : dotS t = false := decide_eq_false (ne (atB t)).1
  have hC : atC t = atB t := by unfold atC; rw [hdot]; rfl
  have hexp : expS t = false := by unfold expS; rw [decide_eq_false (ne (atC t)).2.1, decide_eq_false (ne (atC t)).2.2]; rfl
  have hG : atG t = atB t := by unfold atG; rw [hexp]; exact hC
  unfold readOk at hr
  simp only [Bool.and_eq_true, Bool.not_eq_true', decide_eq_true_eq] at hr
  obtain ⟨⟨⟨hb, _⟩, _⟩, hg⟩ := hr
  rw [hG] at hg
  unfold badA at hb
  rw [Bool.or_eq_false_iff, decide_eq_false_iff_not, Bool.and_eq_false_iff, decide_eq_false_iff_not, decide_eq_false_iff_not] at hb
  obtain ⟨hb1, hb2⟩ := hb
  have hAB := atA_le_atB t
  have hds : ∀ x ∈ (t.extract (atA t) t.size).data.toList, 48 ≤ x.toNat ∧ x.toNat ≤ 57 := by
    have := extract_digits9 t (atA t)
    rw [← hg]
    exact this
  have hz : (t.extract (atA t) t.size).size = t.size - atA t := tail_size t _
  have hdl : (dl (t.extract (atA t) t.size)).length = t.size - atA t := by rw [dl_length, hz]
  refine ⟨dl (t.extract (atA t) t.size), ?_, dT_nt (dig_dl hds) ?_ ?_⟩
  · have e : dT (dl (t.extract (atA t) t.size)) = t.extract (atA t) t.size := by unfold dT; rw [byteD_dl hds, mkB_list]
    rw [e]
    by_cases hm : bAt t 0 = 45
    · rw [decide_eq_true hm, ← mkB_list t, ← mkB_list (sT true _), sT_list]
      congr 1
      rw [mkB_list]
      have hA : atA t = 1 := by unfold atA; rw [if_pos hm]
      rw [hA, extract_toList, List.take_of_length_le (by rw [List.length_drop, list_size]; exact Nat.le_refl _)]
      have h0 := bAt_get (s := t) 0
      rw [show ((0 : Nat) : Int) = 0 from rfl, hm] at h0
      cases hl : t.data.toList with
      | nil => rw [hl] at h0; exact absurd h0 (by decide)
      | cons x l =>
        rw [hl] at h0
        have hx : x = 45 := UInt8.toNat_inj.1 (by simp at h0; show x.toNat = 45; omega)
        rw [hx]; rfl
    · rw [decide_eq_false hm]
      have hA : atA t = 0 := by unfold atA; rw [if_neg hm]
      rw [hA]
      exact (all_of t).symm
  · intro h0
    rw [h0] at hdl
    simp at hdl
    omega
  · rcases hb2 with h | h
    · left
      intro h0
      have hp : 0 < t.size - atA t := by omega
      have hg0 : (dl (t.extract (atA t) t.size))[0]'(by omega) = 0 := by
        rw [List.head?_eq_getElem?, List.getElem?_eq_getElem (by omega)] at h0
        exact Option.some.inj h0
      have hx := dl_get (t.extract (atA t) t.size) 0 (by omega)
      rw [hg0] at hx
      have hbb := bAt_tail t (atA t) 0 (by omega)
      have hmm := byteD_dl hds
      have h9 : 48 ≤ bAt (t.extract (atA t) t.size) (0 : Nat) ∧ bAt (t.extract (atA t) t.size) (0 : Nat) ≤ 57 := by
        rw [bAt_list _ 0 (by omega)]
        have := hds _ (List.getElem_mem (show 0 < (t.extract (atA t) t.size).data.toList.length by rw [list_size]; omega))
        omega
      unfold dV at hx
      simp only [Int.add_zero, Int.natCast_zero] at hbb hx h9
      omega
    · right; omega
theorem zeros_nt {W : List Int} (hW : NumTxt (dT W) W []) (m : Bool) (k : Nat) (hr : readOk (sT m (dT (W ++ List.replicate k 0))) = true) : NumTxt (dT (W ++ List.replicate k 0)) (W ++ List.replicate k 0) [] := by
  have hd : Dig (W ++ List.replicate k 0) := fun d hd => by
    rcases List.mem_append.1 hd with h | h
    · exact hW.dw d h
    · have := List.eq_of_mem_replicate h; omega
  have hmem : ∀ x ∈ (sT m (dT (W ++ List.replicate k 0))).data.toList, x ≠ 46 ∧ x ≠ 101 ∧ x ≠ 69 := by
    intro x hx
    rw [sT_list] at hx
    rcases List.mem_append.1 hx with h | h
    · cases m
      · cases h
      · have : x = 45 := by simpa [mL] using h
        rw [this]; decide
    · unfold dT at h
      rw [mkB_toList] at h
      obtain ⟨d, h1, rfl⟩ := List.mem_map.1 h
      have := chr_nat (hd d h1)
      have h9 := hd d h1
      refine ⟨fun e => ?_, fun e => ?_, fun e => ?_⟩ <;> (rw [e] at this; have h3 : ((46 : UInt8).toNat : Int) = 46 := rfl; have h4 : ((101 : UInt8).toNat : Int) = 101 := rfl; have h5 : ((69 : UInt8).toNat : Int) = 69 := rfl; omega)
  obtain ⟨V, h1, h2⟩ := plain_txt hr hmem
  have hne : W ++ List.replicate k 0 ≠ [] := fun h => hW.ne (List.append_eq_nil_iff.1 h).1
  have hb : bAt (dT (W ++ List.replicate k 0)) 0 ≠ 45 := by
    cases hw : W ++ List.replicate k 0 with
    | nil => exact (hne hw).elim
    | cons d l =>
      rw [hw] at hd
      have h9 := hd d List.mem_cons_self
      have := bAt_get (s := dT (d :: l)) 0
      unfold dT at this
      rw [mkB_toList] at this
      have h8 := chr_nat h9
      simp only [byteD, List.map_cons, List.getElem?_cons_zero, Int.natCast_zero] at this
      unfold dT
      simp only [byteD, List.map_cons]
      rw [this]
      omega
  have hs : decide (bAt (sT m (dT (W ++ List.replicate k 0))) 0 = 45) = m := by
    cases m
    · exact decide_eq_false hb
    · exact decide_eq_true (bAt_neg0 _)
  rw [hs] at h1
  have h3 := congrArg (fun t : ByteArray => t.data.toList) h1
  simp only [sT_list, List.append_cancel_left_eq] at h3
  unfold dT at h3
  rw [mkB_toList, mkB_toList] at h3
  rw [byteD_inj hd h2.dw h3]
  exact h2
theorem lead_same {W : List Int} (h : W.head? ≠ some 0) : lead W = W := by
  cases W with
  | nil => rfl
  | cons d l =>
    have : d ≠ 0 := fun h0 => h (by rw [h0]; rfl)
    unfold lead
    simp [this]
theorem trail_noughts (W : List Int) : ∀ k, trail (W ++ List.replicate k 0) = trail W
  | 0 => by simp
  | k + 1 => by rw [List.replicate_succ', ← List.append_assoc, trail_snoc_zero, trail_noughts W k]
theorem dT_key {W : List Int} (h : NumTxt (dT W) W []) : keyS (dT W) = ⟨trail (lead W), (lead W).length⟩ := by
  have h1 : (keyS (dT W)).ds = trail (lead W) := by rw [keyS_ds, digits_dl, nt_all h, List.append_nil]
  have h2 : (keyS (dT W)).pow = (lead W).length := by
    rw [key_pow (nt_exp h), off_eq, nt_intN h, nt_all h, List.append_nil]
    omega
  cases hk : keyS (dT W) with
  | mk a b => rw [hk] at h1 h2; rw [← h1, ← h2]
theorem dT_zeros {W : List Int} {k : Nat} (h : NumTxt (dT W) W []) (hz : NumTxt (dT (W ++ List.replicate k 0)) (W ++ List.replicate k 0) []) : keyS (dT (W ++ List.replicate k 0)) = ⟨trail (lead W), (lead W).length + k⟩ := by
  rw [dT_key hz]
  have hc : W.head? ≠ some 0 ∨ k = 0 := by
    rcases hz.head with h1 | h1
    · left
      intro h0
      apply h1
      cases hw : W with
      | nil => exact (h.ne hw).elim
      | cons d l => rw [hw] at h0; exact h0
    · right
      have := List.length_pos_iff.2 h.ne
      rw [List.length_append, List.length_replicate] at h1
      omega
  rcases hc with hc | hc
  · have hc2 : (W ++ List.replicate k 0).head? ≠ some 0 := by
      cases hw : W with
      | nil => exact (h.ne hw).elim
      | cons d l => rw [hw] at hc; exact hc
    rw [lead_same hc, lead_same hc2, trail_noughts, List.length_append, List.length_replicate]
    congr 1
  · subst hc
    simp
/-! ### with an exponent -/
theorem ap_lin10 (D : Nat → Int) : ∀ (k : Nat) (e : Int), ap D e k = e * 10 ^ k + ap D 0 k
  | 0, e => by simp [ap]
  | k + 1, e => by
    simp only [ap]
    rw [ap_lin10 D k (10 * e + D k), ap_lin10 D k (10 * 0 + D k), Int.pow_succ, Int.add_mul, Int.add_mul]
    rw [show 10 * e * 10 ^ k = e * (10 ^ k * 10) by rw [Int.mul_comm 10 e, Int.mul_assoc, Int.mul_comm 10]]
    omega
theorem ap_congr {D D' : Nat → Int} : ∀ (k : Nat) (e : Int), (∀ i, i < k → D i = D' i) → ap D e k = ap D' e k
  | 0, _, _ => rfl
  | k + 1, e, h => by
    simp only [ap]
    rw [h k (by omega)]
    exact ap_congr k _ fun i hi => h i (by omega)
theorem atL_cons {d : Int} {l : List Int} {i : Nat} (h : i < l.length) : atL (d :: l) i = atL l i := by
  unfold atL
  rw [if_neg (by simp; omega), if_neg (by omega), List.length_cons, show l.length + 1 - 1 - i = (l.length - 1 - i) + 1 by omega]
  simp [List.getD]
theorem powE_num : ∀ l : List Int, powE l = numL l
  | [] => rfl
  | d :: l => by
    have ih := powE_num l
    unfold powE at ih ⊢
    unfold numL at ih ⊢
    rw [List.length_cons]
    simp only [ap, frac]
    have h0 : atL (d :: l) l.length = d := by
      unfold atL
      rw [if_neg (by simp), List.length_cons, show l.length + 1 - 1 - l.length = 0 by omega]
      rfl
    rw [h0, ap_lin10, ap_congr l.length 0 (fun i hi => atL_cons hi), ih]
    congr 2
    omega
theorem numL_lead (l : List Int) : numL (lead l) = numL l := by
  have h := frac_lead l l.length (Nat.le_refl _)
  have hle := lead_le l
  rw [show l.length - (l.length - (lead l).length) = (lead l).length by omega] at h
  exact h
/-- Digits and an exponent. -/
def eT (W : List Int) (c : UInt8) (n : Bool) (E : List Int) : ByteArray := mkB (byteD W ++ c :: (mL n ++ byteD E))
section
variable {W E : List Int} {c : UInt8} {n : Bool} (hW : NumTxt (dT W) W []) (hE : Dig E) (hn : E ≠ []) (hc : c = 101 ∨ c = 69)
include hW
theorem et_w (i : Nat) (hi : i < W.length) : bAt (eT W c n E) i = 48 + W[i] := by
  refine (bAt_of_list (t := eT W c n E) (mkB_toList _) i (chr W[i]) (by rw [List.getElem?_append_left (by rw [byteD_len]; exact hi)]; simp [byteD, hi])).trans ?_
  exact chr_nat (hW.dw _ (List.getElem_mem hi))
omit hW in
theorem et_c : bAt (eT W c n E) W.length = c.toNat := by
  exact bAt_of_list (t := eT W c n E) (mkB_toList _) W.length c (by rw [List.getElem?_append_right (by rw [byteD_len]; omega), byteD_len, Nat.sub_self]; rfl)
omit hW in
theorem et_size : (eT W c n E).size = W.length + 1 + (mL n).length + E.length := by
  unfold eT
  rw [mkB_size, List.length_append, byteD_len, List.length_cons, List.length_append, byteD_len]
  omega
omit hW in
include hE in
theorem et_e (i : Nat) (hi : i < E.length) : bAt (eT W c n E) ((W.length + 1 + (mL n).length + i : Nat) : Int) = 48 + E[i] := by
  refine (bAt_of_list (t := eT W c n E) (mkB_toList _) (W.length + 1 + (mL n).length + i) (chr E[i]) (by
    rw [List.getElem?_append_right (by rw [byteD_len]; omega), byteD_len, show W.length + 1 + (mL n).length + i - W.length = ((mL n).length + i) + 1 by omega, List.getElem?_cons_succ, List.getElem?_append_right (by omega), show (mL n).length + i - (mL n).length = i by omega]
    simp [byteD, hi])).trans ?_
  exact chr_nat (hE _ (List.getElem_mem hi))
omit hW in
theorem et_m : bAt (eT W c true E) ((W.length + 1 : Nat) : Int) = 45 := by
  exact bAt_of_list (t := eT W c true E) (mkB_toList _) (W.length + 1) 45 (by
    rw [List.getElem?_append_right (by rw [byteD_len]; omega), byteD_len, show W.length + 1 - W.length = 0 + 1 by omega, List.getElem?_cons_succ]
    rfl)
theorem et_minus : bAt (eT W c n E) 0 ≠ 45 := by
  have hp := nt_pos hW
  have h0 := et_w (c := c) (n := n) (E := E) hW 0 hp
  have hd := hW.dw _ (List.getElem_mem hp)
  rw [show ((0 : Nat) : Int) = 0 from rfl] at h0
  omega
theorem et_atA : atA (eT W c n E) = 0 := by
  unfold atA
  rw [if_neg (et_minus hW)]
include hc
theorem et_atB : atB (eT W c n E) = W.length := by
  have h1 : ∀ i, 0 ≤ i → i < 0 + W.length → digS (eT W c n E) (i : Nat) = true := fun i _ hi => by
    have := et_w (c := c) (n := n) (E := E) hW i (by omega)
    have hd := hW.dw _ (List.getElem_mem (show i < W.length by omega))
    simp only [digS, Bool.and_eq_true, decide_eq_true_eq]
    omega
  have h2 : digS (eT W c n E) ((0 + W.length : Nat) : Int) = false := by
    rw [Nat.zero_add, digS, et_c]
    rcases hc with rfl | rfl <;> rfl
  unfold atB
  rw [et_atA hW, manyS_run _ W.length 0 h1 h2, Nat.zero_add]
theorem et_dotS : dotS (eT W c n E) = false := by
  unfold dotS
  rw [et_atB hW hc, et_c]
  rcases hc with rfl | rfl <;> rfl
theorem et_atC : atC (eT W c n E) = W.length := by
  unfold atC
  rw [et_dotS hW hc, et_atB hW hc]
  rfl
theorem et_expS : expS (eT W c n E) = true := by
  unfold expS
  rw [et_atC hW hc, et_c]
  rcases hc with rfl | rfl <;> rfl
include hE hn
theorem et_next : bAt (eT W c n E) ((atC (eT W c n E) : Int) + 1) = if n = true then 45 else 48 + E.headD 0 := by
  rw [et_atC hW hc, show ((W.length : Int) + 1) = ((W.length + 1 : Nat) : Int) by omega]
  cases n
  · have hp := List.length_pos_iff.2 hn
    have := et_e (W := W) (c := c) (n := false) hE 0 hp
    simp only [mL, Bool.false_eq_true, if_false, List.length_nil, Nat.add_zero] at this
    rw [this]
    cases E with
    | nil => exact (hn rfl).elim
    | cons d l => rfl
  · exact et_m
omit hW hc in
theorem head_dig : 0 ≤ E.headD 0 ∧ E.headD 0 ≤ 9 := by
  cases E with
  | nil => exact (hn rfl).elim
  | cons d l => exact hE d List.mem_cons_self
theorem et_sgnS : sgnS (eT W c n E) = n := by
  have h9 := head_dig hE hn
  unfold sgnS
  rw [et_next hW hE hn hc]
  cases n
  · simp only [Bool.false_eq_true, if_false]
    rw [decide_eq_false (by omega), decide_eq_false (by omega)]; rfl
  · rfl
theorem et_atE : atE (eT W c n E) = W.length + 1 + (mL n).length := by
  unfold atE
  rw [et_sgnS hW hE hn hc, et_atC hW hc]
  cases n <;> simp [mL]
theorem et_atF : atF (eT W c n E) = (eT W c n E).size := by
  unfold atF
  rw [et_atE hW hE hn hc, manyS_run _ E.length _ ?_ ?_, et_size]
  · intro i h1 h2
    have := et_e (W := W) (c := c) (n := n) hE (i - (W.length + 1 + (mL n).length)) (by omega)
    rw [show W.length + 1 + (mL n).length + (i - (W.length + 1 + (mL n).length)) = i by omega] at this
    have h9 := hE _ (List.getElem_mem (show i - (W.length + 1 + (mL n).length) < E.length by omega))
    simp only [digS, Bool.and_eq_true, decide_eq_true_eq]
    omega
  · rw [← et_size (W := W) (c := c) (n := n), digS, bAt_end _ _ (Nat.le_refl _)]
    rfl
theorem et_ok : readOk (eT W c n E) = true := by
  have hp := nt_pos hW
  have hpe := List.length_pos_iff.2 hn
  have hbad : badA (eT W c n E) = false := by
    unfold badA
    rw [et_atA hW, et_atB hW hc]
    have h0 := et_w (c := c) (n := n) (E := E) hW 0 hp
    rw [show ((0 : Nat) : Int) = 0 from rfl] at h0 ⊢
    rw [h0, Bool.or_eq_false_iff, Bool.and_eq_false_iff, decide_eq_false_iff_not, decide_eq_false_iff_not, decide_eq_false_iff_not]
    refine ⟨by omega, ?_⟩
    rcases hW.head with hh | hh
    · left
      have := head_nz W hp hh
      omega
    · right; omega
  unfold readOk
  have hz := et_size (W := W) (c := c) (n := n) (E := E)
  have hG : atG (eT W c n E) = (eT W c n E).size := by unfold atG; rw [et_expS hW hc]; exact et_atF hW hE hn hc
  have e1 : decide (atF (eT W c n E) = atE (eT W c n E)) = false := decide_eq_false (by rw [et_atF hW hE hn hc, et_atE hW hE hn hc]; omega)
  rw [hbad, et_dotS hW hc, e1, et_expS hW hc, decide_eq_true hG]
  rfl
theorem et_key : keyS (eT W c n E) = ⟨trail (lead W), sgI n (numL E) + (lead W).length⟩ := by
  have hz := et_size (W := W) (c := c) (n := n) (E := E)
  have e1 : ((eT W c n E).extract 0 W.length).data.toList = byteD W := by
    rw [extract_toList]
    unfold eT
    rw [mkB_toList, List.drop_zero, Nat.sub_zero]
    rw [List.take_append_of_le_length (by rw [byteD_len]; exact Nat.le_refl _), List.take_of_length_le (by rw [byteD_len]; exact Nat.le_refl _)]
  have hall : dl (allS (eT W c n E)) = W := by
    unfold allS
    rw [et_dotS hW hc, et_atA hW, et_atB hW hc]
    simp only [Bool.false_eq_true, if_false]
    unfold dl
    rw [e1, dl_byteD hW.dw]
  have hoff : (progS (eT W c n E)).off = (lead W).length := by
    rw [off_eq, hall]
    unfold intN
    rw [et_atA hW, et_atB hW hc]
    omega
  have hexp : dl (progS (eT W c n E)).exp = lead E := by
    rw [← ref_exp (et_ok hW hE hn hc)]
    show (if expS (eT W c n E) = true then lead (dsFrom (eT W c n E) (atE (eT W c n E)) (atF (eT W c n E) - atE (eT W c n E))) else []) = _
    rw [et_expS hW hc, if_pos rfl, et_atF hW hE hn hc, dsFrom_tail, et_atE hW hE hn hc]
    congr 1
    unfold dl
    rw [extract_toList]
    have : List.drop (W.length + 1 + (mL n).length) (eT W c n E).data.toList = byteD E := by
      unfold eT
      rw [mkB_toList, List.drop_append, byteD_len, List.drop_of_length_le (by rw [byteD_len]; omega), List.nil_append, show W.length + 1 + (mL n).length - W.length = (mL n).length + 1 by omega, List.drop_succ_cons, List.drop_append, List.drop_of_length_le (Nat.le_refl _), Nat.sub_self]
      rfl
    rw [this, List.take_of_length_le (by rw [byteD_len]; omega), dl_byteD hE]
  have hpow : sgI (progS (eT W c n E)).down (numL E) = sgI n (numL E) := by
    by_cases hx : lead E = []
    · have : numL E = 0 := by rw [← numL_lead, hx]; rfl
      rw [this]
      unfold sgI
      simp
    · have hne : trimL (expT (eT W c n E)) 48 ≠ ⟨#[]⟩ := fun h0 => hx (by
        rw [← hexp]
        show dl (if expS (eT W c n E) = true then trimL (expT (eT W c n E)) 48 else ⟨#[]⟩) = []
        rw [et_expS hW hc, if_pos rfl, h0]
        rfl)
      have hdown : (progS (eT W c n E)).down = n := by
        show (expS (eT W c n E) && decide (bAt (eT W c n E) (atC (eT W c n E) + 1) = 45) && !decide (trimL (expT (eT W c n E)) 48 = ⟨#[]⟩)) = n
        have h9 := head_dig hE hn
        rw [decide_eq_false hne, et_expS hW hc, et_next hW hE hn hc]
        cases n
        · simp only [Bool.false_eq_true, if_false, Bool.true_and, Bool.not_false, Bool.and_true]
          exact decide_eq_false (by omega)
        · rfl
      rw [hdown]
  unfold keyS
  rw [digits_dl, hall, hexp, hoff, powE_num, numL_lead, hpow]
end
theorem up_key (s : ByteArray) : upS s = (decide (bAt s 0 = 45) && decide ((keyS s).ds ≠ [])) := by
  have key : ((0 : Int) < ((progS s).digits.size : Int)) ↔ (keyS s).ds ≠ [] := by
    have h1 : (keyS s).ds = [] ↔ (progS s).digits.size = 0 := by rw [keyS_ds, dl_nil]
    constructor
    · intro h2 h5
      have := h1.1 h5
      omega
    · intro h2
      rcases Nat.eq_zero_or_pos (progS s).digits.size with h5 | h5
      · exact (h2 (h1.2 h5)).elim
      · omega
  show (decide (bAt s 0 = 45) && decide ((0 : Int) < ((progS s).digits.size : Int))) = _
  rw [decide_eq_decide.2 key]
theorem cmpN_same {a b : ByteArray} (h : keyS a = keyS b) (hm : (bAt a 0 = 45) ↔ (bAt b 0 = 45)) : cmpN a b = 0 := by
  unfold cmpN
  rw [up_key, up_key, h, cmpK_refl, decide_eq_decide.2 hm]
  cases (decide (bAt b 0 = 45) && decide ((keyS b).ds ≠ [])) <;> rfl
theorem neg_any {t : ByteArray} (h : bAt t 0 ≠ 45) (m : Bool) : (bAt (sT m t) 0 = 45 ↔ m = true) ∧ keyS (sT m t) = keyS t ∧ readOk (sT m t) = readOk t := by
  cases m
  · exact ⟨⟨fun h0 => (h h0).elim, fun h0 => by cases h0⟩, rfl, rfl⟩
  · exact ⟨⟨fun _ => rfl, fun _ => bAt_neg0 t⟩, neg_key h, neg_ok h⟩
/-- Numbers of one value have one nearest float32. -/
theorem near_same {a b : ByteArray} (ha : a.size < 200000000000000) (hb : b.size < 200000000000000) (ra : readOk a = true) (rb : readOk b = true) (h : keyS a = keyS b) (hm : (bAt a 0 = 45) ↔ (bAt b 0 = 45)) : ∃ x, decimal_Nearest_s a = some (x, 0) ∧ decimal_Nearest_s b = some (x, 0) := by
  obtain ⟨N, hN⟩ := near_ex (norm_key a)
  have hN2 := hN
  rw [h] at hN2
  refine ⟨minusS a + N, ?_, ?_⟩
  · rw [p_Nearest a ha hN, if_pos ra]
  · have : minusS a = minusS b := by
      unfold minusS
      by_cases h0 : bAt a 0 = 45
      · rw [if_pos h0, if_pos (hm.1 h0)]
      · rw [if_neg h0, if_neg (fun h => h0 (hm.2 h))]
    rw [p_Nearest b hb hN2, if_pos rb, this]
/-! ### the law -/
/-- Is there a dot or an exponent? -/
theorem p_shift0 (t : ByteArray) (ht : t.size < 200000000000000) : ∀ (j i : Nat), i + j = t.size → signetlaw2_DecimalShifts_p0 t (i : Int) = some (.inl true) ∨ (signetlaw2_DecimalShifts_p0 t (i : Int) = some (.inr ()) ∧ ∀ n : Nat, i ≤ n → n < t.size → bAt t n ≠ 46 ∧ bAt t n ≠ 101 ∧ bAt t n ≠ 69)
  | 0, i, h => by
    right
    refine ⟨?_, fun n h1 h2 => by omega⟩
    unfold signetlaw2_DecimalShifts_p0
    refine whileO_inr ?_
    unfold signetlaw2_DecimalShifts_p0_step
    rw [decide_eq_false (by omega), cond_false]
  | j + 1, i, h => by
    have step : signetlaw2_DecimalShifts_p0_step t (i : Int) = if (bAt t i = 46 ∨ bAt t i = 101) ∨ bAt t i = 69 then some (.inr (.inl true)) else some (.inl ((i + 1 : Nat) : Int)) := by
      unfold signetlaw2_DecimalShifts_p0_step
      rw [decide_eq_true (by omega), cond_true]
      refine (gd_pos (by omega) _).trans ?_
      refine (gd_pos (fun _ => by omega) _).trans ?_
      refine (gd_pos (fun _ => by omega) _).trans ?_
      by_cases hb : (bAt t i = 46 ∨ bAt t i = 101) ∨ bAt t i = 69
      · rw [if_pos hb]
        have : ((decide (bAt t i = 46) || decide (bAt t i = 101)) || decide (bAt t i = 69)) = true := by simpa using hb
        rw [this, cond_true]
      · rw [if_neg hb]
        have : ((decide (bAt t i = 46) || decide (bAt t i = 101)) || decide (bAt t i = 69)) = false := by
          rw [Bool.or_eq_false_iff, Bool.or_eq_false_iff]
          refine ⟨⟨decide_eq_false fun e => hb (.inl (.inl e)), decide_eq_false fun e => hb (.inl (.inr e))⟩, decide_eq_false fun e => hb (.inr e)⟩
        rw [this, cond_false]
        exact gd_pos (by unfold InI64; omega) _
    by_cases hb : (bAt t i = 46 ∨ bAt t i = 101) ∨ bAt t i = 69
    · left
      rw [if_pos hb] at step
      unfold signetlaw2_DecimalShifts_p0
      exact whileO_inr step
    · rw [if_neg hb] at step
      have ih := p_shift0 t ht j (i + 1) (by omega)
      have e : signetlaw2_DecimalShifts_p0 t (i : Int) = signetlaw2_DecimalShifts_p0 t ((i + 1 : Nat) : Int) := by
        unfold signetlaw2_DecimalShifts_p0
        exact whileO_inl step
      rw [e]
      rcases ih with ih | ⟨ih, ih2⟩
      · exact .inl ih
      · refine .inr ⟨ih, fun n h1 h2 => ?_⟩
        rcases Nat.lt_or_ge i n with h3 | h3
        · exact ih2 n h3 h2
        · have : n = i := by omega
          subst this
          exact ⟨fun e => hb (.inl (.inl e)), fun e => hb (.inl (.inr e)), fun e => hb (.inr e)⟩
/-- Noughts are written behind it. -/
theorem p_shift1 (k : Nat) : ∀ (j i : Nat) (l : ByteArray), i + j = k → l.size + k < 200000000000000 + i → k < 200000000000000 → signetlaw2_DecimalShifts_p1 (k : Int) l (i : Int) = some (l ++ mkB (byteD (List.replicate j 0)))
  | 0, i, l, h, hs, hk => by
    unfold signetlaw2_DecimalShifts_p1
    refine whileO_inr ?_
    unfold signetlaw2_DecimalShifts_p1_step
    simp only
    rw [decide_eq_false (by omega), cond_false]
    exact congrArg (fun x => some (Sum.inr x)) (app_nil l).symm
  | j + 1, i, l, h, hs, hk => by
    have hsz : (l ++ mkB [48]).size = l.size + 1 := by rw [ByteArray.size_append, mkB_size]; rfl
    have ih := p_shift1 k j (i + 1) (l ++ mkB [48]) (by omega) (by omega) hk
    have e : byteD (List.replicate (j + 1) 0) = [48] ++ byteD (List.replicate j 0) := by
      rw [List.replicate_succ]
      rfl
    unfold signetlaw2_DecimalShifts_p1 at ih ⊢
    rw [whileO_inl (y := (l ++ mkB [48], ((i + 1 : Nat) : Int))) ?_, ih, e, ← mkB_app, ByteArray.append_assoc]
    unfold signetlaw2_DecimalShifts_p1_step
    simp only
    rw [decide_eq_true (by omega), cond_true]
    refine (gd_pos (by rw [show (⟨#[48]⟩ : ByteArray).size = 1 from rfl]; omega) _).trans ?_
    refine (gd_pos (by unfold InI64; omega) _).trans rfl
theorem sT_app (m : Bool) (t u : ByteArray) : sT m t ++ u = sT m (t ++ u) := by
  cases m
  · rfl
  · show ((⟨#[45]⟩ : ByteArray) ++ t) ++ u = (⟨#[45]⟩ : ByteArray) ++ (t ++ u)
    rw [ByteArray.append_assoc]
theorem dT_app (W V : List Int) : dT W ++ mkB (byteD V) = dT (W ++ V) := by
  unfold dT
  rw [mkB_app]
  congr 1
  simp [byteD]
theorem itoa_nat (k : Nat) : itoaB (k : Int) = mkB (byteD (wD k)) := by
  rw [itoa_text, decide_eq_false (by omega)]
  show numT (k : Int).natAbs [] = _
  rw [Int.natAbs_natCast]
  unfold numT
  simp [dotF]
theorem up_text (W : List Int) (m : Bool) (k : Nat) : sT m (dT W) ++ ((⟨#[101]⟩ : ByteArray) ++ itoaB (k : Int)) = sT m (eT W 101 false (wD k)) := by
  rw [sT_app, itoa_nat, show (⟨#[101]⟩ : ByteArray) = mkB [101] from rfl, mkB_app]
  unfold dT eT
  rw [mkB_app]
  rfl
theorem down_text (W : List Int) (m : Bool) (k : Nat) : (sT m (dT W) ++ (⟨#[69, 45]⟩ : ByteArray)) ++ itoaB (k : Int) = sT m (eT W 69 true (wD k)) := by
  rw [ByteArray.append_assoc, sT_app, itoa_nat, show (⟨#[69, 45]⟩ : ByteArray) = mkB [69, 45] from rfl, mkB_app]
  unfold dT eT
  rw [mkB_app]
  rfl
theorem dT_m {W : List Int} (h : NumTxt (dT W) W []) : bAt (dT W) 0 ≠ 45 := by
  have := nt_minus h
  exact this
/-- The law. -/
theorem decimalShifts_plain (t : ByteArray) (k_ : Int) (ht : t.size < 150000000000000) (hk_ : InI64 k_) : signetlaw2_DecimalShifts_s t k_ = some true := by
  unfold signetlaw2_DecimalShifts_s
  rw [p_started, Option.bind_some, Bool.not_true, cond_false]
  by_cases hk : k_ < 0 ∨ 400 < k_
  · have : (decide (k_ < 0) || decide (400 < k_)) = true := by simpa using hk
    rw [this, cond_true]
  · have : (decide (k_ < 0) || decide (400 < k_)) = false := by
      rw [Bool.or_eq_false_iff]
      exact ⟨decide_eq_false fun h => hk (.inl h), decide_eq_false fun h => hk (.inr h)⟩
    rw [this, cond_false, p_Valid t (by omega), Option.bind_some]
    cases ra : readOk t with
    | false => rfl
    | true =>
      rw [Bool.not_true, cond_false]
      obtain ⟨k, rfl⟩ := Int.eq_ofNat_of_zero_le (show 0 ≤ k_ by omega)
      have hk4 : k ≤ 400 := by omega
      rcases p_shift0 t (by omega) t.size 0 (by omega) with h0 | ⟨h0, h1⟩
      · rw [show ((0 : Nat) : Int) = 0 from rfl] at h0
        rw [h0, Option.bind_some]
        rfl
      · rw [show ((0 : Nat) : Int) = 0 from rfl] at h0
        rw [h0, Option.bind_some]
        dsimp only [Sum.elim_inr]
        have hmem : ∀ x ∈ t.data.toList, x ≠ 46 ∧ x ≠ 101 ∧ x ≠ 69 := by
          intro x hx
          obtain ⟨n, hn, rfl⟩ := List.getElem_of_mem hx
          have := h1 n (by omega) (by rw [← list_size]; exact hn)
          rw [bAt_of_list rfl n _ (List.getElem?_eq_getElem hn)] at this
          refine ⟨fun e => this.1 ?_, fun e => this.2.1 ?_, fun e => this.2.2 ?_⟩ <;> (rw [e]; rfl)
        obtain ⟨W, hW, nt⟩ := plain_txt ra hmem
        generalize hmm : decide (bAt t 0 = 45) = m at hW
        have hp1 := p_shift1 k k 0 t (by omega) (by omega) (by omega)
        rw [show ((0 : Nat) : Int) = 0 from rfl] at hp1
        rw [hp1, Option.bind_some, hW, sT_app, dT_app]
        generalize hV : W ++ List.replicate k 0 = V
        have zV : (sT m (dT V)).size ≤ t.size + 400 := by
          rw [hW, ← hV, ← dT_app, ← sT_app, ByteArray.size_append, mkB_size, byteD_len, List.length_replicate]
          omega
        rw [p_Valid _ (by omega), Option.bind_some]
        cases rb : readOk (sT m (dT V)) with
        | false => rfl
        | true =>
          rw [Bool.not_true, cond_false]
          have hzs := zeros_nt nt m k (by rw [hV]; exact rb)
          have ky1 := dT_key nt
          have ky2 := dT_zeros nt hzs
          rw [hV] at hzs ky2
          have nV := dT_m hzs
          have nW := dT_m nt
          have hE := wD_dig k
          have hEn := wD_ne k
          have hE20 := wD_len k (by omega)
          have o1 := et_ok (c := 101) (n := false) nt hE hEn (.inl rfl)
          have k1 := et_key (c := 101) (n := false) nt hE hEn (.inl rfl)
          have m1 := et_minus (c := 101) (n := false) (E := wD k) nt
          have o2 := et_ok (c := 69) (n := true) hzs hE hEn (.inr rfl)
          have k2 := et_key (c := 69) (n := true) hzs hE hEn (.inr rfl)
          have m2 := et_minus (c := 69) (n := true) (E := wD k) hzs
          have kk1 : keyS (eT W 101 false (wD k)) = keyS (dT V) := by
            rw [k1, ky2, wD_num]
            simp [sgI]
            try omega
          have kk2 : keyS (eT V 69 true (wD k)) = keyS (dT W) := by
            have e1 := dT_key hzs
            rw [ky2] at e1
            rw [DKey.mk.injEq] at e1
            rw [k2, ky1, wD_num, ← e1.1, ← e1.2]
            simp [sgI]
            try omega
          obtain ⟨a1, a2, a3⟩ := neg_any nW m
          obtain ⟨b1, b2, b3⟩ := neg_any nV m
          obtain ⟨c1, c2, c3⟩ := neg_any m1 m
          obtain ⟨d1, d2, d3⟩ := neg_any m2 m
          have sW : (dT W).size = W.length := by unfold dT; rw [mkB_size, byteD_len]
          have sV : (dT V).size = V.length := by unfold dT; rw [mkB_size, byteD_len]
          have lV : V.length = W.length + k := by rw [← hV, List.length_append, List.length_replicate]
          have lW : W.length ≤ t.size := by
            rw [hW, ← list_size, sT_list, List.length_append, list_size, sW]
            omega
          have q1 := sT_size m (eT W 101 false (wD k))
          have q2 := sT_size m (eT V 69 true (wD k))
          have q3 := sT_size m (dT W)
          rw [et_size] at q1 q2
          have mlen : ∀ b : Bool, (mL b).length ≤ 1 := fun b => by cases b <;> decide
          have ml1 := mlen false
          have ml2 := mlen true
          have iz : (itoaB (k : Int)).size = (wD k).length := by rw [itoa_nat, mkB_size, byteD_len]
          have f1 : ((⟨#[101]⟩ : ByteArray) ++ itoaB (k : Int)).size = 1 + (wD k).length := by rw [ByteArray.size_append, iz]; rfl
          have f2 : (sT m (dT V) ++ (⟨#[69, 45]⟩ : ByteArray)).size = (sT m (dT V)).size + 2 := by rw [ByteArray.size_append]; rfl
          have hcmp1 := p_CompareN (a := sT m (dT V)) (b := sT m (eT W 101 false (wD k))) (by omega) (by omega) rb (by rw [c3]; exact o1)
          rw [cmpN_same (by rw [b2, c2, kk1]) (b1.trans c1.symm)] at hcmp1
          have hcmp2 := p_CompareN (a := sT m (eT V 69 true (wD k))) (b := sT m (dT W)) (by omega) (by omega) (by rw [d3]; exact o2) (by rw [← hW]; exact ra)
          rw [cmpN_same (by rw [a2, d2, kk2]) (d1.trans a1.symm)] at hcmp2
          obtain ⟨x, n1, n2⟩ := near_same (a := sT m (dT V)) (b := sT m (eT W 101 false (wD k))) (by omega) (by omega) rb (by rw [c3]; exact o1) (by rw [b2, c2, kk1]) (b1.trans c1.symm)
          obtain ⟨y, n3, n4⟩ := near_same (a := sT m (eT V 69 true (wD k))) (b := sT m (dT W)) (by omega) (by omega) (by rw [d3]; exact o2) (by rw [← hW]; exact ra) (by rw [a2, d2, kk2]) (d1.trans a1.symm)
          have t0 : (sT m (dT W)).size = t.size := by rw [← hW]
          have hik : InI64 (k : Int) := hk_
          have e101 : (⟨#[101]⟩ : ByteArray).size = 1 := rfl
          have e69 : (⟨#[69, 45]⟩ : ByteArray).size = 2 := rfl
          unfold strconv_Itoa_s
          refine (congrArg (fun o => Option.bind o _) (gd_pos hik _)).trans ?_
          rw [Option.bind_some]
          refine (gd_pos (by omega) _).trans ?_
          refine (gd_pos (by omega) _).trans ?_
          rw [up_text, hcmp1, Option.bind_some]
          refine (gd_pos (by omega) _).trans ?_
          refine (congrArg (fun o => Option.bind o _) (gd_pos hik _)).trans ?_
          rw [Option.bind_some]
          refine (gd_pos (by omega) _).trans ?_
          rw [down_text, hcmp2, Option.bind_some, n1, Option.bind_some]
          refine (gd_pos (by omega) _).trans ?_
          rw [n2, Option.bind_some]
          refine (gd_pos (by omega) _).trans ?_
          refine (congrArg (fun o => Option.bind o _) (gd_pos hik _)).trans ?_
          rw [Option.bind_some]
          refine (gd_pos (by omega) _).trans ?_
          rw [down_text, n3, Option.bind_some, n4, Option.bind_some]
          simp
end Go.Proofs.YtdibapfehdhfjaaDoor
