/-
  ClaimsChecks: whatever the claims and the policy: true. No program.
-/
import Derived.Test.YtdcoiccdbgcpaaaPBeyond
import Derived.Test.YtdcoiccdbgcpaaaCK
namespace Go.Proofs.Ytdcoiccdbgcpaaa
open Go.Eng
set_option linter.unusedVariables false
set_option linter.unusedSimpArgs false

def mkN : Eng.Node := ⟨(0 : Int), (⟨#[]⟩ : ByteArray), (⟨#[109, 97, 114, 107]⟩ : ByteArray), false, (0 : Int), (0 : Int)⟩
def mkS : ByteArray := ⟨#[109, 97, 114, 107]⟩

/-! ### the same -/
theorem texts_loop (l : List ByteArray) (hl : l.length ≤ 4000000) : ∀ (j i : Nat), i + j = l.length → signetlaw19_sameTexts_p0 (i : Int) l l = some (.inr ())
  | 0, i, h => by
    unfold signetlaw19_sameTexts_p0
    refine whileO_inr ?_
    unfold signetlaw19_sameTexts_p0_step
    rw [decide_eq_false (by omega), cond_false]
  | j + 1, i, h => by
    have ih := texts_loop l hl j (i + 1) (by omega)
    unfold signetlaw19_sameTexts_p0 at ih ⊢
    rw [whileO_inl (y := ((i + 1 : Nat) : Int)) ?_, ih]
    unfold signetlaw19_sameTexts_p0_step
    rw [decide_eq_true (by omega), cond_true, gd_pos (by omega), gd_pos (by omega), gd_pos (by omega), gd_pos (by omega)]
    simp only [decide_true, Bool.not_true, cond_false]
    exact gd_pos (by unfold InI64; omega) _
theorem texts_self (l : List ByteArray) (hl : l.length ≤ 4000000) : signetlaw19_sameTexts_s l l = some true := by
  have := texts_loop l hl l.length 0 (by omega)
  rw [show ((0 : Nat) : Int) = 0 from rfl] at this
  unfold signetlaw19_sameTexts_s
  rw [decide_eq_true rfl, Bool.not_true, cond_false, this]
  rfl
theorem nodes_loop (v : List Eng.Node) (hv : v.length ≤ 3000000) : ∀ (j i : Nat), i + j = v.length → signetlaw19_sameNodes_p0 (i : Int) v v = some (.inr ())
  | 0, i, h => by
    unfold signetlaw19_sameNodes_p0
    refine whileO_inr ?_
    unfold signetlaw19_sameNodes_p0_step
    rw [decide_eq_false (by omega), cond_false]
  | j + 1, i, h => by
    have ih := nodes_loop v hv j (i + 1) (by omega)
    unfold signetlaw19_sameNodes_p0 at ih ⊢
    rw [whileO_inl (y := ((i + 1 : Nat) : Int)) ?_, ih]
    unfold signetlaw19_sameNodes_p0_step
    rw [decide_eq_true (by omega), cond_true, gd_pos (by omega), gd_pos (by omega), gd_pos (by omega), gd_pos (by omega)]
    simp only [decide_true, beq_self_eq_true, Bool.and_self, Bool.not_true, cond_false]
    exact gd_pos (by unfold InI64; omega) _
theorem nodes_self (v : List Eng.Node) (hv : v.length ≤ 3000000) : signetlaw19_sameNodes_s v v = some true := by
  have := nodes_loop v hv v.length 0 (by omega)
  rw [show ((0 : Nat) : Int) = 0 from rfl] at this
  unfold signetlaw19_sameNodes_s
  rw [decide_eq_true rfl, Bool.not_true, cond_false, this]
  rfl
theorem claims_self (c : api_Claims) (h1 : c.value.length ≤ 2000000) (h2 : c.aud.length ≤ 2000000) : signetlaw19_same_s c c = some true := by
  unfold signetlaw19_same_s
  simp only [decide_true, beq_self_eq_true, Bool.and_self, cond_true, texts_self c.aud (by omega), nodes_self c.value (by omega), Option.bind_some]

/-! ### the copy with spare room -/
theorem p_roomy (c : api_Claims) (h1 : c.value.length ≤ 2000000) (h2 : c.aud.length ≤ 2000000) :
    signetlaw19_roomy_s c = some (⟨c.value ++ [mkN, mkN], c.iss, c.hasIss, c.sub, c.hasSub, c.aud ++ [mkS, mkS], c.hasAud, c.jti, c.hasJti, c.exp_, c.nbf, c.iat⟩, c.value.length, c.aud.length) := by
  have ht : signetlaw19_twin_s c = some c := by
    unfold signetlaw19_twin_s
    rw [gd_pos (by omega), gd_pos (by omega)]
  have hp : signetlaw19_roomy_p0 c.aud c.aud = some (c.aud.length, c.aud ++ [mkS, mkS]) := by
    unfold signetlaw19_roomy_p0
    show gd (c.aud.length + 2 ≤ _ ∧ (c.aud.length + 2) * 16 ≤ _) (gd ((0 : Int) ≤ 0 ∧ (0 : Int) ≤ c.aud.length ∧ (c.aud.length : Int) ≤ (c.aud ++ [mkS, mkS]).length) (some (Int.toNat (c.aud.length : Int), c.aud ++ [mkS, mkS]))) = _
    rw [gd_pos (by omega), gd_pos (by rw [List.length_append]; omega), Int.toNat_natCast]
  unfold signetlaw19_roomy_s
  rw [ht, Option.bind_some]
  show gd (c.value.length + 2 ≤ _ ∧ (c.value.length + 2) * 64 ≤ _) (gd ((0 : Int) ≤ 0 ∧ (0 : Int) ≤ c.value.length ∧ (c.value.length : Int) ≤ (c.value ++ [mkN, mkN]).length) _) = _
  rw [gd_pos (by omega), gd_pos (by rw [List.length_append]; omega), hp, Option.bind_some, Int.toNat_natCast]
  rfl
theorem p_spared (c : api_Claims) (h1 : c.value.length ≤ 2000000) (h2 : c.aud.length ≤ 2000000) :
    signetlaw19_spared_s ⟨c.value ++ [mkN, mkN], c.iss, c.hasIss, c.sub, c.hasSub, c.aud ++ [mkS, mkS], c.hasAud, c.jti, c.hasJti, c.exp_, c.nbf, c.iat⟩ c 0 c.value.length 0 c.aud.length = some true := by
  have l1 : (c.value ++ [mkN, mkN]).length = c.value.length + 2 := by rw [List.length_append]; rfl
  have l2 : (c.aud ++ [mkS, mkS]).length = c.aud.length + 2 := by rw [List.length_append]; rfl
  have e1 : ((c.value ++ [mkN, mkN]).drop 0).take c.value.length = c.value := by simp
  have e2 : ((c.aud ++ [mkS, mkS]).drop 0).take c.aud.length = c.aud := by simp
  have g1 : (c.value ++ [mkN, mkN]).getD (0 + Int.toNat (c.value.length : Int)) (ET.dft .node) = mkN := by
    rw [Int.toNat_natCast, Nat.zero_add]
    exact nd_get (by rw [List.getElem?_append_right (Nat.le_refl _), Nat.sub_self]; rfl)
  have g2 : (c.value ++ [mkN, mkN]).getD (0 + Int.toNat ((c.value.length : Int) + 1)) (ET.dft .node) = mkN := by
    rw [show 0 + Int.toNat ((c.value.length : Int) + 1) = c.value.length + 1 by omega]
    exact nd_get (by rw [List.getElem?_append_right (by omega), show c.value.length + 1 - c.value.length = 1 by omega]; rfl)
  have g3 : (c.aud ++ [mkS, mkS]).getD (0 + Int.toNat (c.aud.length : Int)) (ET.dft .str) = mkS := by
    rw [Int.toNat_natCast, Nat.zero_add, List.getD, List.getElem?_append_right (Nat.le_refl _), Nat.sub_self]
    rfl
  have g4 : (c.aud ++ [mkS, mkS]).getD (0 + Int.toNat ((c.aud.length : Int) + 1)) (ET.dft .str) = mkS := by
    rw [show 0 + Int.toNat ((c.aud.length : Int) + 1) = c.aud.length + 1 by omega, List.getD, List.getElem?_append_right (by omega), show c.aud.length + 1 - c.aud.length = 1 by omega]
    rfl
  unfold signetlaw19_spared_s
  dsimp only
  rw [gd_pos (by omega), gd_pos (by omega), e1, e2, show (⟨c.value, c.iss, c.hasIss, c.sub, c.hasSub, c.aud, c.hasAud, c.jti, c.hasJti, c.exp_, c.nbf, c.iat⟩ : api_Claims) = c from rfl, claims_self c h1 h2, Option.bind_some, Bool.not_true, cond_false]
  simp only [g1, g2, g3, g4, l1, l2]
  repeat rw [gd_pos (by first | omega | (intro _; omega) | (unfold InI64; omega) | (intro _; unfold InI64; omega))]
  rfl

/-! ### lists of texts -/
theorem getD_str {l : List ByteArray} {i : Nat} (h : i < l.length) : l.getD i (ET.dft .str) = l[i] := by simp [List.getD, h]
theorem index_loop (v : ByteArray) (l : List ByteArray) (hl : l.length ≤ 3000000) : ∀ (j i : Nat), i + j = l.length →
    (∃ k : Nat, slices_Index_string_string_p0 v (l.length : Int) (i : Int) l = some (.inl (k : Int)) ∧ v ∈ l.drop i) ∨ (slices_Index_string_string_p0 v (l.length : Int) (i : Int) l = some (.inr ()) ∧ ¬ v ∈ l.drop i)
  | 0, i, h => by
    refine .inr ⟨?_, ?_⟩
    · unfold slices_Index_string_string_p0
      refine whileO_inr ?_
      unfold slices_Index_string_string_p0_step
      rw [decide_eq_false (by omega), cond_false]
    · rw [List.drop_eq_nil_of_le (by omega)]
      exact fun h => by cases h
  | j + 1, i, h => by
    have hi : i < l.length := by omega
    have hd : l.drop i = l[i] :: l.drop (i + 1) := List.drop_eq_getElem_cons hi
    by_cases he : v = l[i]
    · refine .inl ⟨i, ?_, ?_⟩
      · unfold slices_Index_string_string_p0
        refine whileO_inr ?_
        unfold slices_Index_string_string_p0_step
        rw [decide_eq_true (by omega), cond_true, gd_pos (by omega), gd_pos (by omega), Int.toNat_natCast, getD_str hi, decide_eq_true he, cond_true]
      · rw [hd, he]; exact List.mem_cons_self
    · have hst : slices_Index_string_string_p0_step v (l.length : Int) (i : Int) l = some (.inl ((i + 1 : Nat) : Int)) := by
        unfold slices_Index_string_string_p0_step
        rw [decide_eq_true (by omega), cond_true, gd_pos (by omega), gd_pos (by omega), Int.toNat_natCast, getD_str hi, decide_eq_false he, cond_false]
        exact gd_pos (by unfold InI64; omega) _
      have hm : v ∈ l.drop i ↔ v ∈ l.drop (i + 1) := by rw [hd, List.mem_cons]; simp [he]
      have ih := index_loop v l hl j (i + 1) (by omega)
      rw [hm]
      unfold slices_Index_string_string_p0 at ih ⊢
      rw [whileO_inl hst]
      exact ih
theorem among19_loop (v : ByteArray) (l : List ByteArray) (hl : l.length ≤ 3000000) : ∀ (j i : Nat), i + j = l.length →
    (signetref19_among_p0 v (i : Int) l = some (.inl true) ∧ v ∈ l.drop i) ∨ (signetref19_among_p0 v (i : Int) l = some (.inr ()) ∧ ¬ v ∈ l.drop i)
  | 0, i, h => by
    refine .inr ⟨?_, ?_⟩
    · unfold signetref19_among_p0
      refine whileO_inr ?_
      unfold signetref19_among_p0_step
      rw [decide_eq_false (by omega), cond_false]
    · rw [List.drop_eq_nil_of_le (by omega)]
      exact fun h => by cases h
  | j + 1, i, h => by
    have hi : i < l.length := by omega
    have hd : l.drop i = l[i] :: l.drop (i + 1) := List.drop_eq_getElem_cons hi
    by_cases he : l[i] = v
    · refine .inl ⟨?_, ?_⟩
      · unfold signetref19_among_p0
        refine whileO_inr ?_
        unfold signetref19_among_p0_step
        rw [decide_eq_true (by omega), cond_true, gd_pos (by omega), gd_pos (by omega), Int.toNat_natCast, getD_str hi, decide_eq_true he, cond_true]
      · rw [hd, he]; exact List.mem_cons_self
    · have hst : signetref19_among_p0_step v (i : Int) l = some (.inl ((i + 1 : Nat) : Int)) := by
        unfold signetref19_among_p0_step
        rw [decide_eq_true (by omega), cond_true, gd_pos (by omega), gd_pos (by omega), Int.toNat_natCast, getD_str hi, decide_eq_false he, cond_false]
        exact gd_pos (by unfold InI64; omega) _
      have hm : v ∈ l.drop i ↔ v ∈ l.drop (i + 1) := by rw [hd, List.mem_cons]; simp [Ne.symm he]
      have ih := among19_loop v l hl j (i + 1) (by omega)
      rw [hm]
      unfold signetref19_among_p0 at ih ⊢
      rw [whileO_inl hst]
      exact ih
theorem p_among (l : List ByteArray) (hl : l.length ≤ 3000000) (v : ByteArray) : ∃ b, slices_Contains_string_string_s l v = some b ∧ signetref19_among_s l v = some b := by
  have h := index_loop v l hl l.length 0 (by omega)
  have h' := among19_loop v l hl l.length 0 (by omega)
  rw [List.drop_zero, show ((0 : Nat) : Int) = 0 from rfl] at h h'
  unfold slices_Contains_string_string_s slices_Index_string_string_s signetref19_among_s
  rcases h with ⟨k, h, hm⟩ | ⟨h, hm⟩
  · rcases h' with ⟨h', _⟩ | ⟨_, hm'⟩
    · refine ⟨true, ?_, by rw [h']; rfl⟩
      rw [h, Option.bind_some, Sum.elim_inl, Option.bind_some, decide_eq_true (by omega)]
    · exact (hm' hm).elim
  · rcases h' with ⟨_, hm'⟩ | ⟨h', _⟩
    · exact (hm hm').elim
    · refine ⟨false, ?_, by rw [h']; rfl⟩
      rw [h, Option.bind_some, Sum.elim_inr, Option.bind_some, decide_eq_false (by omega)]

/-! ### Check -/
/-- What is asked behind the names. -/
def restS (c : api_Claims) (p : api_Policy) (b : Bool) : Int :=
  bif p.hasIss && !(c.hasIss && decide (c.iss = p.iss)) then 132
  else bif (p.hasAud && !(c.hasAud && b)) || (!p.hasAud && c.hasAud) then 133 else 0
theorem need_loop (v : List Eng.Node) (hv : v.length ≤ 2000000) (l : List ByteArray) (hl : l.length ≤ 3000000) : ∀ (j i : Nat), i + j = l.length →
    ∃ y, claims_Check_p0 (l.length : Int) (i : Int) v l = some y ∧ (Tree v 0 v.length ∨ v.length = 0 → signetref19_Check_p0 (i : Int) v l = some y)
  | 0, i, h => by
    refine ⟨.inr (), ?_, fun _ => ?_⟩
    · unfold claims_Check_p0
      refine whileO_inr ?_
      unfold claims_Check_p0_step
      rw [decide_eq_false (by omega), cond_false]
    · unfold signetref19_Check_p0
      refine whileO_inr ?_
      unfold signetref19_Check_p0_step
      rw [decide_eq_false (by omega), cond_false]
  | j + 1, i, h => by
    have hi : i < l.length := by omega
    obtain ⟨r, hr⟩ := j_member_total v hv 0 (l.getD (Int.toNat (i : Int)) (ET.dft .str))
    have hr2 : Tree v 0 v.length ∨ v.length = 0 → signetref3_Member_s v 0 (l.getD (Int.toNat (i : Int)) (ET.dft .str)) = some r := by
      rintro (ht | h0)
      · obtain ⟨r', h1, h2, _⟩ := member_tree hv ht (l.getD (Int.toNat (i : Int)) (ET.dft .str))
        rw [show ((0 : Nat) : Int) = 0 from rfl] at h1 h2
        rw [h1] at hr
        cases hr
        exact h2
      · obtain ⟨h1, h2⟩ := member_out (v := v) (a := 0) (.inr (by omega)) (l.getD (Int.toNat (i : Int)) (ET.dft .str))
        rw [h1] at hr
        cases hr
        exact h2
    cases hd : decide (r < (0 : Int)) with
    | true =>
      refine ⟨.inl 137, ?_, fun ht => ?_⟩
      · unfold claims_Check_p0
        refine whileO_inr ?_
        unfold claims_Check_p0_step
        rw [decide_eq_true (by omega), cond_true, gd_pos (by omega), gd_pos (by omega), hr, Option.bind_some, hd, cond_true]
      · unfold signetref19_Check_p0
        refine whileO_inr ?_
        unfold signetref19_Check_p0_step
        rw [decide_eq_true (by omega), cond_true, gd_pos (by omega), gd_pos (by omega), hr2 ht, Option.bind_some, hd, cond_true]
    | false =>
      obtain ⟨y, h1, h2⟩ := need_loop v hv l hl j (i + 1) (by omega)
      have s1 : claims_Check_p0_step (l.length : Int) (i : Int) v l = some (.inl ((i + 1 : Nat) : Int)) := by
        unfold claims_Check_p0_step
        rw [decide_eq_true (by omega), cond_true, gd_pos (by omega), gd_pos (by omega), hr, Option.bind_some, hd, cond_false]
        exact gd_pos (by unfold InI64; omega) _
      refine ⟨y, ?_, fun ht => ?_⟩
      · unfold claims_Check_p0 at h1 ⊢
        rw [whileO_inl s1]
        exact h1
      · have s2 : signetref19_Check_p0_step (i : Int) v l = some (.inl ((i + 1 : Nat) : Int)) := by
          unfold signetref19_Check_p0_step
          rw [decide_eq_true (by omega), cond_true, gd_pos (by omega), gd_pos (by omega), hr2 ht, Option.bind_some, hd, cond_false]
          exact gd_pos (by unfold InI64; omega) _
        have h2 := h2 ht
        unfold signetref19_Check_p0 at h2 ⊢
        rw [whileO_inl s2]
        exact h2
theorem check_both (c : api_Claims) (p : api_Policy) (h1 : c.value.length ≤ 2000000) (h2 : c.aud.length ≤ 2000000) (h3 : p.need.length ≤ 2000000) :
    ∃ r, claims_Check_s c p = some r ∧ (Tree c.value 0 c.value.length ∨ c.value.length = 0 → signetref19_Check_s c p = some r) := by
  obtain ⟨y, e1, e2⟩ := need_loop c.value h1 p.need (by omega) p.need.length 0 (by omega)
  rw [show ((0 : Nat) : Int) = 0 from rfl] at e1 e2
  unfold claims_Check_s signetref19_Check_s
  rw [e1, Option.bind_some]
  cases y with
  | inl x => exact ⟨x, rfl, fun ht => by rw [e2 ht, Option.bind_some]; rfl⟩
  | inr u =>
    obtain ⟨b, hb1, hb2⟩ := p_among c.aud (by omega) p.aud
    simp only [Sum.elim_inr]
    rw [hb1]
    simp only [Option.bind_some]
    refine ⟨restS c p b, ?_, fun ht => ?_⟩
    · unfold restS
      cases p.hasIss <;> cases c.hasIss <;> cases p.hasAud <;> cases c.hasAud <;> cases decide (c.iss = p.iss) <;> cases b <;> rfl
    · rw [e2 ht, Option.bind_some]
      simp only [Sum.elim_inr]
      rw [hb2]
      simp only [Option.bind_some]
      unfold restS
      cases p.hasIss <;> cases c.hasIss <;> cases p.hasAud <;> cases c.hasAud <;> cases decide (c.iss = p.iss) <;> cases b <;> rfl

/-! ### the law's own loops -/
theorem x_size : (⟨#[120]⟩ : ByteArray).size = 1 := rfl
theorem aud_loop (n : Nat) (hn : n ≤ 2000000) : ∀ (j i : Nat) (h : List ByteArray), i + j = n → n ≤ h.length → (∀ k, i ≤ k → (h.getD k (ET.dft .str)).size ≤ 3000000) →
    ∃ r, signetlaw19_ClaimsChecks_p0 (i : Int) n h = some r ∧ r.length = h.length
  | 0, i, h, hi, hl, hs => by
    refine ⟨h, ?_, rfl⟩
    unfold signetlaw19_ClaimsChecks_p0
    refine whileO_inr ?_
    unfold signetlaw19_ClaimsChecks_p0_step
    dsimp only
    rw [decide_eq_false (by omega), cond_false]
  | j + 1, i, h, hi, hl, hs => by
    obtain ⟨x, hx⟩ : ∃ x, x = h.getD i (ET.dft .str) ++ (⟨#[120]⟩ : ByteArray) := ⟨_, rfl⟩
    have hsi := hs i (Nat.le_refl _)
    obtain ⟨r, h1, h2⟩ := aud_loop n hn j (i + 1) (h.set i x) (by omega) (by rw [List.length_set]; exact hl) (fun k hk => by
      rw [List.getD, List.getElem?_set_ne (by omega)]
      exact hs k (by omega))
    refine ⟨r, ?_, by rw [h2, List.length_set]⟩
    unfold signetlaw19_ClaimsChecks_p0 at h1 ⊢
    rw [whileO_inl (y := (((i + 1 : Nat) : Int), h.set i x)) ?_]
    · exact h1
    · unfold signetlaw19_ClaimsChecks_p0_step
      dsimp only
      simp only [Int.toNat_natCast, Nat.zero_add]
      rw [decide_eq_true (by omega), cond_true, gd_pos (by omega), gd_pos (by omega), gd_pos (by rw [x_size]; omega), gd_pos (by omega), gd_pos (by omega), gd_pos (by unfold InI64; omega), ← hx]
      rfl
theorem need2_loop (n : Nat) (hn : n ≤ 2000000) : ∀ (j i : Nat) (h : List ByteArray), n ≤ i + j → n ≤ h.length → i ≤ n → (∀ k, i ≤ k → (h.getD k (ET.dft .str)).size ≤ 3000000) →
    ∃ r, signetlaw19_ClaimsChecks_p1 (i : Int) n h = some r ∧ r.length = h.length
  | 0, i, h, hi, hl, hin, hs => by
    refine ⟨h, ?_, rfl⟩
    unfold signetlaw19_ClaimsChecks_p1
    refine whileO_inr ?_
    unfold signetlaw19_ClaimsChecks_p1_step
    dsimp only
    rw [gd_pos (by unfold InI64; omega), decide_eq_false (by omega), cond_false]
  | j + 1, i, h, hi, hl, hin, hs => by
    by_cases hlt : i + 1 < n
    · obtain ⟨x, hx⟩ : ∃ x, x = h.getD (i + 1) (ET.dft .str) ++ (⟨#[120]⟩ : ByteArray) := ⟨_, rfl⟩
      have hsi := hs (i + 1) (by omega)
      obtain ⟨r, h1, h2⟩ := need2_loop n hn j (i + 1) (h.set i x) (by omega) (by rw [List.length_set]; exact hl) (by omega) (fun k hk => by
        rw [List.getD, List.getElem?_set_ne (by omega)]
        exact hs k (by omega))
      refine ⟨r, ?_, by rw [h2, List.length_set]⟩
      unfold signetlaw19_ClaimsChecks_p1 at h1 ⊢
      rw [whileO_inl (y := (((i + 1 : Nat) : Int), h.set i x)) ?_]
      · exact h1
      · unfold signetlaw19_ClaimsChecks_p1_step
        dsimp only
        rw [show Int.toNat ((i : Int) + 1) = i + 1 by omega]
        simp only [Int.toNat_natCast, Nat.zero_add]
        rw [gd_pos (by unfold InI64; omega), decide_eq_true (by omega), cond_true, gd_pos (by unfold InI64; omega), gd_pos (by omega), gd_pos (by omega), gd_pos (by rw [x_size]; omega), gd_pos (by omega), gd_pos (by omega), gd_pos (by unfold InI64; omega), ← hx]
        rfl
    · refine ⟨h, ?_, rfl⟩
      unfold signetlaw19_ClaimsChecks_p1
      refine whileO_inr ?_
      unfold signetlaw19_ClaimsChecks_p1_step
      dsimp only
      rw [gd_pos (by unfold InI64; omega), decide_eq_false (by omega), cond_false]

/-- The law. -/
theorem claimsChecks_plain (c : api_Claims) (p : api_Policy) (hl : c.value.length ≤ 1048576) (hv : ∀ n ∈ c.value, n.key.size ≤ 1048576 ∧ n.text.size ≤ 1048576 ∧ InI64 n.kids) (ha : c.aud.length ≤ 1048576) (has : ∀ s ∈ c.aud, s.size ≤ 1048576)
    (hn : p.need.length ≤ 1048576) (hns : ∀ s ∈ p.need, s.size ≤ 1048576) : signetlaw19_ClaimsChecks_s c p = some true := by
  have ok : OkL c.value := ⟨by omega, fun n hn => by obtain ⟨h1, h2, h3⟩ := hv n hn; exact ⟨by omega, by omega, h3⟩⟩
  have hms : mkS.size = 4 := rfl
  have szs : ∀ (l : List ByteArray), (∀ s ∈ l, s.size ≤ 1048576) → ∀ k, ((l ++ [mkS, mkS]).getD k (ET.dft .str)).size ≤ 3000000 := fun l hl k => by
    rw [List.getD]
    cases h : (l ++ [mkS, mkS])[k]? with
    | none => exact Nat.zero_le _
    | some x =>
      have hx := List.mem_of_getElem? h
      show x.size ≤ _
      rcases List.mem_append.1 hx with hx | hx
      · have := hl x hx; omega
      · simp only [List.mem_cons, List.not_mem_nil, or_false, or_self] at hx
        subst hx
        omega
  have l1 : (c.value ++ [mkN, mkN]).length = c.value.length + 2 := by rw [List.length_append]; rfl
  have l2 : (c.aud ++ [mkS, mkS]).length = c.aud.length + 2 := by rw [List.length_append]; rfl
  have l3 : (p.need ++ [mkS, mkS]).length = p.need.length + 2 := by rw [List.length_append]; rfl
  have e1 : ((c.value ++ [mkN, mkN]).drop 0).take c.value.length = c.value := by simp
  have e2 : ((c.aud ++ [mkS, mkS]).drop 0).take c.aud.length = c.aud := by simp
  have e3 : ((p.need ++ [mkS, mkS]).drop 0).take p.need.length = p.need := by simp
  have g3 : (p.need ++ [mkS, mkS]).getD p.need.length (ET.dft .str) = mkS := by
    rw [List.getD, List.getElem?_append_right (Nat.le_refl _), Nat.sub_self]
    rfl
  have g4 : (p.need ++ [mkS, mkS]).getD (p.need.length + 1) (ET.dft .str) = mkS := by
    rw [List.getD, List.getElem?_append_right (by omega), show p.need.length + 1 - p.need.length = 1 by omega]
    rfl
  obtain ⟨b, hb⟩ := beyond_total ok
  unfold signetlaw19_ClaimsChecks_s
  rw [hb, Option.bind_some]
  cases b with
  | true => rfl
  | false =>
    rw [cond_false, p_roomy c (by omega) (by omega), Option.bind_some]
    dsimp only
    rw [show (⟨#[109, 97, 114, 107]⟩ : ByteArray) = mkS from rfl]
    simp only [List.nil_append, List.length_nil, Int.toNat_natCast, show Int.toNat ((p.need.length : Int) + 1) = p.need.length + 1 from by omega, l1, l2, l3, e1, e2, e3, g3, g4, Nat.zero_add, List.length_cons, decide_true, Bool.not_true, Bool.or_false]
    rw [gd_pos (by omega), gd_pos (by omega), gd_pos (by omega), gd_pos (by omega), gd_pos (by omega), gd_pos (by omega)]
    obtain ⟨r1, hr1, hr1'⟩ := check_both c p (by omega) (by omega) (by omega)
    rw [show (⟨c.value, c.iss, c.hasIss, c.sub, c.hasSub, c.aud, c.hasAud, c.jti, c.hasJti, c.exp_, c.nbf, c.iat⟩ : api_Claims) = c from rfl, show (⟨p.algs, p.iss, p.hasIss, p.aud, p.hasAud, p.typ, p.hasTyp, p.leeway, p.need⟩ : api_Policy) = p from rfl, hr1, Option.bind_some, p_spared c (by omega) (by omega), Option.bind_some, Bool.not_true, cond_false]
    rw [gd_pos (by omega), texts_self p.need (by omega), Option.bind_some]
    simp only [Bool.not_true]
    rw [gd_pos (fun _ => by omega), gd_pos (fun _ => by omega), gd_pos (fun _ => by unfold InI64; omega), gd_pos (fun _ => by omega), gd_pos (fun _ => by omega), cond_false]
    obtain ⟨b2, hb2, hsh⟩ := shaped_some ok
    rw [hb2, Option.bind_some]
    cases b2 with
    | false => rfl
    | true =>
      have ht := hsh rfl
      simp only [Bool.not_true, cond_false]
      rw [hr1' (.inl ht), Option.bind_some, decide_eq_true rfl, Bool.not_true, cond_false]
      obtain ⟨o, ho, hol⟩ := aud_loop c.aud.length (by omega) c.aud.length 0 (c.aud ++ [mkS, mkS]) (by omega) (by omega) (fun k _ => szs c.aud has k)
      rw [show ((0 : Nat) : Int) = 0 from rfl] at ho
      rw [ho, Option.bind_some]
      have hta : ((o.drop 0).take c.aud.length).length ≤ 2000000 := by rw [List.length_take]; omega
      obtain ⟨r2, hr2, hr2'⟩ := check_both (⟨c.value, c.iss, c.hasIss, c.sub, c.hasSub, (o.drop 0).take c.aud.length, c.hasAud, c.jti, c.hasJti, c.exp_, c.nbf, c.iat⟩ : api_Claims) p (by show c.value.length ≤ _; omega) hta (by omega)
      rw [gd_pos (by omega), gd_pos (by omega), hr2' (.inl ht), Option.bind_some, gd_pos (by omega), gd_pos (by omega), gd_pos (by omega), hr2, Option.bind_some, decide_eq_true rfl, Bool.not_true, cond_false]
      obtain ⟨q, hq, hql⟩ := need2_loop p.need.length (by omega) p.need.length 0 (p.need ++ [mkS, mkS]) (by omega) (by omega) (by omega) (fun k _ => szs p.need hns k)
      rw [show ((0 : Nat) : Int) = 0 from rfl] at hq
      rw [hq, Option.bind_some]
      have htn : ((q.drop 0).take p.need.length).length ≤ 2000000 := by rw [List.length_take]; omega
      obtain ⟨r3, hr3, hr3'⟩ := check_both (⟨c.value, c.iss, c.hasIss, c.sub, c.hasSub, (o.drop 0).take c.aud.length, c.hasAud, c.jti, c.hasJti, c.exp_, c.nbf, c.iat⟩ : api_Claims) (⟨p.algs, p.iss, p.hasIss, p.aud, p.hasAud, p.typ, p.hasTyp, p.leeway, (q.drop 0).take p.need.length⟩ : api_Policy) (by show c.value.length ≤ _; omega) hta htn
      rw [gd_pos (by omega), gd_pos (by omega), gd_pos (by omega), hr3' (.inl ht), Option.bind_some, gd_pos (by omega), gd_pos (by omega), gd_pos (by omega), hr3, Option.bind_some, decide_eq_true rfl]
end Go.Proofs.Ytdcoiccdbgcpaaa
