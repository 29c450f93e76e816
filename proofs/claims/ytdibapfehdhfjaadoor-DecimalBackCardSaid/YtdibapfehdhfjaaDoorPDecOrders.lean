/-
  Compare is an order; Nearest goes up with the value. No program.
-/
import Derived.Test.YtdibapfehdhfjaaDoorPDecStart
namespace Go.Proofs.YtdibapfehdhfjaaDoor
open Go.Eng
set_option linter.unusedVariables false
set_option linter.unusedSimpArgs false

/-- What Compare answers of two numbers. -/
def cmpN (a b : ByteArray) : Int := cmpV (upS a) (upS b) (cmpK (keyS a) (keyS b))
theorem p_CompareN {a b : ByteArray} (ha : a.size < 200000000000000) (hb : b.size < 200000000000000) (ra : readOk a = true) (rb : readOk b = true) : decimal_Compare_s a b = some (cmpN a b, 0) := by
  rw [p_Compare a b ha hb, ra, rb, if_pos (by decide), sizeS_key]
  rfl
theorem p_CompareBad {a b : ByteArray} (ha : a.size < 200000000000000) (hb : b.size < 200000000000000) (h : readOk a = false ∨ readOk b = false) : decimal_Compare_s a b = some (0, 30) := by
  rw [p_Compare a b ha hb, if_neg]
  rcases h with h | h <;> rw [h] <;> simp
theorem cmpK_range (a b : DKey) : -1 ≤ cmpK a b ∧ cmpK a b ≤ 1 := by
  unfold cmpK
  split
  · split <;> omega
  · split
    · omega
    · split
      · exact lexI_range _ _
      · exact sgn_range _
theorem cmpN_neg (a b : ByteArray) : cmpN b a = -cmpN a b := by
  unfold cmpN
  rw [cmpK_neg (keyS a) (keyS b)]
  generalize cmpK (keyS a) (keyS b) = z
  cases upS a <;> cases upS b <;> simp [cmpV]
theorem cmpN_self (a : ByteArray) : cmpN a a = 0 := by
  unfold cmpN
  rw [cmpK_refl]
  cases upS a <;> simp [cmpV]
theorem cmpN_range (a b : ByteArray) : -1 ≤ cmpN a b ∧ cmpN a b ≤ 1 := by
  unfold cmpN
  have := cmpK_range (keyS a) (keyS b)
  generalize cmpK (keyS a) (keyS b) = z at *
  cases upS a <;> cases upS b <;> simp [cmpV] <;> omega
theorem cmpN_trans {a b c : ByteArray} (h1 : cmpN a b ≤ 0) (h2 : cmpN b c ≤ 0) : cmpN a c ≤ 0 := by
  unfold cmpN at *
  have t1 := fun x y => (cmpK_trans (a := keyS a) (b := keyS b) (c := keyS c) x y).1
  have t2 := fun x y => (cmpK_trans (a := keyS c) (b := keyS b) (c := keyS a) x y).1
  rw [cmpK_neg (keyS b) (keyS c), cmpK_neg (keyS a) (keyS b), cmpK_neg (keyS a) (keyS c)] at t2
  generalize cmpK (keyS a) (keyS b) = x at *
  generalize cmpK (keyS b) (keyS c) = y at *
  generalize cmpK (keyS a) (keyS c) = z at *
  generalize upS a = ua at *
  generalize upS b = ub at *
  generalize upS c = uc at *
  cases ua <;> cases ub <;> cases uc <;> simp [cmpV] at h1 h2 ⊢ <;> first | exact t1 (by omega) (by omega) | (have := t2 (by omega) (by omega); omega)
theorem p_less {a b : ByteArray} (ha : a.size < 200000000000000) (hb : b.size < 200000000000000) (ra : readOk a = true) (rb : readOk b = true) : signetlaw2_less_s a b = some (decide (cmpN a b ≤ 0)) := by
  unfold signetlaw2_less_s
  rw [p_CompareN ha hb ra rb, Option.bind_some]
  rfl
theorem decimalOrders_plain (a b c : ByteArray) (ha : a.size < 200000000000000) (hb : b.size < 200000000000000) (hc : c.size < 200000000000000) : signetlaw2_DecimalOrders_s a b c = some true := by
  unfold signetlaw2_DecimalOrders_s
  rw [p_started, Option.bind_some, Bool.not_true, cond_false]
  by_cases hok : readOk a = true ∧ readOk b = true
  · obtain ⟨ra, rb⟩ := hok
    have hr := cmpN_range a b
    rw [p_CompareN ha hb ra rb, Option.bind_some, p_CompareN hb ha rb ra, Option.bind_some, cmpN_neg a b]
    dsimp only
    rw [gd_pos (fun _ => by unfold InI64; omega), decide_eq_true rfl, decide_eq_true (show cmpN a b = 0 - -cmpN a b by omega), decide_eq_false (by omega), decide_eq_false (by omega)]
    simp only [Bool.not_true, Bool.or_false, cond_false]
    rw [p_Valid a ha, Option.bind_some, ra, Bool.not_true, cond_false, p_Valid b hb, Option.bind_some, rb, Bool.not_true, cond_false, p_CompareN ha ha ra ra, Option.bind_some, cmpN_self]
    simp only [decide_true, Bool.not_true, Bool.or_false, cond_false]
    rw [p_Valid c hc, Option.bind_some]
    cases rc : readOk c with
    | false => rfl
    | true =>
      rw [Bool.not_true, cond_false, p_less ha hb ra rb, Option.bind_some]
      by_cases h1 : cmpN a b ≤ 0
      · rw [decide_eq_true h1, Bool.not_true, cond_false, p_less hb hc rb rc, Option.bind_some]
        by_cases h2 : cmpN b c ≤ 0
        · rw [decide_eq_true h2, Bool.not_true, cond_false, p_less ha hc ra rc, Option.bind_some, decide_eq_true (cmpN_trans h1 h2)]
        · rw [decide_eq_false h2]; rfl
      · rw [decide_eq_false h1]; rfl
  · have hbad : readOk a = false ∨ readOk b = false := by
      cases ra : readOk a with
      | false => exact .inl rfl
      | true =>
        cases rb : readOk b with
        | false => exact .inr rfl
        | true => exact (hok ⟨ra, rb⟩).elim
    rw [p_CompareBad ha hb hbad, Option.bind_some, p_CompareBad hb ha hbad.symm, Option.bind_some]
    dsimp only
    rw [gd_pos (fun _ => by unfold InI64; omega)]
    have hcond : (!decide ((30 : Int) = 30) || !decide ((0 : Int) = 0 - 0) || decide ((0 : Int) < -1) || decide ((1 : Int) < 0)) = false := by decide
    rw [hcond, cond_false, p_Valid a ha, Option.bind_some]
    cases ra : readOk a with
    | false => rfl
    | true =>
      rw [Bool.not_true, cond_false, p_Valid b hb, Option.bind_some]
      rcases hbad with h | h
      · rw [ra] at h; cases h
      · rw [h]; rfl
theorem near_mono {a b : DKey} {M N : Nat} (hM : IsNear a M) (hN : IsNear b N) (h : cmpK a b ≤ 0) : M ≤ N := by
  rcases Nat.lt_or_ge N M with hl | hl
  · exfalso
    refine hM.no N hl ?_
    have := hM.le
    rcases hN.yes (by omega) with hT | ⟨hT, he⟩
    · exact .inl ((cmpK_trans h (by omega)).2 (.inr hT))
    · have h1 := (cmpK_trans (a := a) (b := b) (c := midK N) h (by omega)).1
      by_cases h0 : cmpK a (midK N) = 0
      · exact .inr ⟨h0, he⟩
      · exact .inl (by omega)
  · exact hl
theorem ok_pos {s : ByteArray} (h : readOk s = true) : 0 < s.size := by
  unfold readOk at h
  simp only [Bool.and_eq_true, Bool.not_eq_true'] at h
  obtain ⟨⟨⟨hb, _⟩, _⟩, _⟩ := h
  unfold badA at hb
  simp only [Bool.or_eq_false_iff, decide_eq_false_iff_not] at hb
  rcases Nat.eq_zero_or_pos s.size with h0 | h0
  · exfalso
    refine hb.1 ?_
    unfold atB
    refine manyS_no ?_
    cases hd : digS s (atA s) with
    | false => rfl
    | true => have := digS_lt hd; omega
  · exact h0
/-- The sign counts where there is a value. -/
theorem rank_eq {s : ByteArray} {N : Nat} (hN : IsNear (keyS s) N) : (if bAt s 0 = 45 then -(N : Int) else N) = if upS s = true then -(N : Int) else N := by
  unfold upS
  rw [show (progS s).minus = decide (bAt s 0 = 45) from rfl]
  by_cases h : bAt s 0 = 45
  · rw [if_pos h, decide_eq_true h, Bool.true_and]
    by_cases h0 : (progS s).digits.size = 0
    · have hd : (keyS s).ds = [] := by rw [keyS_ds, dl_nil]; exact h0
      have := hN.unique (near_low (norm_key s) (.inl hd))
      rw [this, if_neg (by rw [h0]; simp)]
      rfl
    · rw [if_pos (by rw [decide_eq_true_eq]; omega)]
  · rw [if_neg h, decide_eq_false h, Bool.false_and, if_neg (by decide)]
theorem p_rank {s : ByteArray} {N : Nat} (hN : IsNear (keyS s) N) : signetlaw2_rank_s (minusS s + N) = some (if bAt s 0 = 45 then -(N : Int) else N) := by
  have hl := hN.le
  unfold signetlaw2_rank_s minusS
  refine (gd_pos (by decide) _).trans ?_
  by_cases h : bAt s 0 = 45
  · rw [if_pos h, if_pos h, decide_eq_true (by omega), cond_true]
    rw [show (2147483648 : Int) + N = ((2147483648 + N : Nat) : Int) by omega, and31 (by omega), show (2147483648 + N) % 2147483648 = N by omega]
    refine (gd_pos (by unfold InI64; omega) _).trans ?_
    refine (gd_pos (by unfold InI64; omega) _).trans ?_
    congr 1
    omega
  · rw [if_neg h, if_neg h, decide_eq_false (by omega), cond_false]
    refine (gd_pos (by unfold InI64; omega) _).trans ?_
    congr 1
    omega
theorem rank_mono {a b : ByteArray} {M N : Nat} (hM : IsNear (keyS a) M) (hN : IsNear (keyS b) N) (h : cmpN a b ≤ 0) : (if bAt a 0 = 45 then -(M : Int) else M) ≤ if bAt b 0 = 45 then -(N : Int) else N := by
  rw [rank_eq hM, rank_eq hN]
  unfold cmpN at h
  have n1 := near_mono hM hN
  have n2 := near_mono hN hM
  rw [cmpK_neg (keyS a) (keyS b)] at n2
  generalize cmpK (keyS a) (keyS b) = z at *
  generalize upS a = ua at *
  generalize upS b = ub at *
  cases ua <;> cases ub <;> simp [cmpV] at h ⊢
  all_goals first
    | (have := n1 h; omega)
    | (have := n2 (by omega); omega)
    | omega
theorem decimalClimbs_plain (a b : ByteArray) (ha : a.size < 200000000000000) (hb : b.size < 200000000000000) : signetlaw2_DecimalClimbs_s a b = some true := by
  obtain ⟨M, hM⟩ := near_ex (norm_key a)
  obtain ⟨N, hN⟩ := near_ex (norm_key b)
  have lM := hM.le
  have lN := hN.le
  unfold signetlaw2_DecimalClimbs_s
  rw [p_started, Option.bind_some, Bool.not_true, cond_false, p_Nearest a ha hM, Option.bind_some, p_Nearest b hb hN, Option.bind_some, p_Valid a ha, Option.bind_some, p_Valid b hb]
  cases ra : readOk a with
  | false =>
    cases rb : readOk b with
    | false => rfl
    | true =>
      simp only [if_true]
      rfl
  | true =>
    cases rb : readOk b with
    | false =>
      simp only [if_true]
      rfl
    | true =>
      have hz := ok_pos ra
      simp only [if_true, decide_true, beq_self_eq_true, Bool.not_true, cond_false, Option.bind_some, Bool.or_false]
      refine (gd_pos (by decide) _).trans ?_
      refine (gd_pos (by omega) _).trans ?_
      have hs : decide ((minusS a + M) / 2147483648 = 1) = decide (bAt a 0 = 45) := by
        refine decide_eq_decide.2 ?_
        unfold minusS
        split <;> rename_i h
        · exact ⟨fun _ => h, fun _ => by omega⟩
        · exact ⟨fun _ => by omega, fun h' => (h h').elim⟩
      rw [hs, beq_self_eq_true, Bool.not_true, cond_false, p_less ha hb ra rb, Option.bind_some]
      by_cases h1 : cmpN a b ≤ 0
      · rw [decide_eq_true h1, Bool.not_true, cond_false, p_rank hM, Option.bind_some, p_rank hN, Option.bind_some, decide_eq_true (rank_mono hM hN h1)]
      · rw [decide_eq_false h1]; rfl
end Go.Proofs.YtdibapfehdhfjaaDoor
