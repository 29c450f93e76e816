/-
 The program's reading of numbers, as printed, answers as progAll says. No program.
-/
import Derived.Test.YtekkjbomadoplaaDoorDecRel
import Derived.Test.YtekkjbomadoplaaDoorGC
namespace Go.Proofs.YtekkjbomadoplaaDoor
open Go.Eng
set_option linter.unusedVariables false
set_option linter.unusedSimpArgs false

theorem p_run (s : ByteArray) (h : s.size < 9223372036854775807) : zad_s s = some (runS s : Int) := by
 unfold zad_s zad_p0
 rw [whileO_rule (fun x : Int => ∃ k : Nat, x = k ∧ k ≤ s.size ∧ manyS s k = manyS s 0) (fun x => s.size - x.toNat) (fun _ => (manyS s 0 : Int)) ?_ (x := (0 : Int)) ⟨0, rfl, by omega, rfl⟩]
 ·rfl
 rintro _ ⟨k, rfl, hk, hm⟩
 unfold zad_p0_step
 have key : ((decide ((k : Int) < (s.size : Int)) && decide ((48 : Int) ≤ bAt s k)) && decide (bAt s k ≤ 57)) = digS s k := by
  unfold digS
  by_cases hlt : (k : Int) < s.size
  ·simp [hlt]
  ·have := bAt_out hlt
   simp [hlt, this]
 rw [key]
 cases hd : digS s k with
 | true =>
  left
  have hlt := digS_lt hd
  refine ⟨((k + 1 : Nat) : Int), ?_, ⟨k + 1, rfl, by omega, by rw [← hm, manyS_yes hd]⟩, by omega, rfl⟩
  refine (gd_pos (fun _ => by omega) _).trans ?_
  refine (gd_pos (fun _ => by omega) _).trans ?_
  refine (gd_pos (by unfold InI64; omega) _).trans ?_
  rfl
 | false =>
  right
  refine (gd_pos (fun h => by have := of_decide_eq_true h; omega) _).trans ?_
  refine (gd_pos (fun h => by have := of_decide_eq_true (Bool.and_eq_true _ _ ▸ h).1; omega) _).trans ?_
  show some (Sum.inr (k : Int)) = _
  rw [← hm, manyS_no hd]

theorem p_trimL1 (s : ByteArray) (b : Int) : zbu_s s b = some (trimL s b) := by
 unfold zbu_s zbu_p0
 rw [whileO_rule (fun x : ByteArray => ∃ k : Nat, x = s.extract k s.size ∧ k ≤ s.size ∧ leadB s b k = leadB s b 0) (fun x => x.size) (fun _ => trimL s b) ?_ ⟨0, (all_of s).symm, by omega, rfl⟩]
 ·rfl
 rintro _ ⟨k, rfl, hk, hm⟩
 unfold zbu_p0_step
 have hz := tail_size s k
 have hb := bAt_tail s k 0 (by omega)
 simp only [Int.add_zero] at hb
 rw [hb]
 by_cases hq : k < s.size ∧ bAt s k = b
 ·left
  refine ⟨s.extract (k + 1) s.size, ?_, ⟨k + 1, rfl, by omega, by rw [← hm, leadB_yes hq]⟩, by rw [tail_size, tail_size]; omega, rfl⟩
  refine (gd_pos (fun _ => by omega) _).trans ?_
  have : (decide ((0 : Int) < ((s.extract k s.size).size : Int)) && decide (bAt s k = b)) = true := by simp only [Bool.and_eq_true, decide_eq_true_eq]; exact ⟨by omega, hq.2⟩
  rw [this, cond_true]
  refine (gd_pos (by omega) _).trans ?_
  rw [tail_tail]
 ·right
  refine (gd_pos (fun h => by have := of_decide_eq_true h; omega) _).trans ?_
  have : (decide ((0 : Int) < ((s.extract k s.size).size : Int)) && decide (bAt s k = b)) = false := by
   rw [Bool.and_eq_false_iff, decide_eq_false_iff_not, decide_eq_false_iff_not]
   by_cases h1 : k < s.size
   ·exact .inr fun h => hq ⟨h1, h⟩
   ·exact .inl (by omega)
  rw [this, cond_false, trimL, ← hm, leadB_no hq]

theorem p_trimR1 (s : ByteArray) (b : Int) (h : s.size < 9223372036854775807) : zbv_s s b = some (trimR s b) := by
 unfold zbv_s zbv_p0
 rw [whileO_rule (fun x : ByteArray => ∃ k : Nat, x = s.extract 0 k ∧ k ≤ s.size ∧ backB s b k = backB s b s.size) (fun x => x.size) (fun _ => trimR s b) ?_ ⟨s.size, (all_of s).symm, by omega, rfl⟩]
 ·rfl
 rintro _ ⟨k, rfl, hk, hm⟩
 unfold zbv_p0_step
 have hz : (s.extract 0 k).size = k := by rw [ByteArray.size_extract]; omega
 simp only [hz]
 cases k with
 | zero =>
  right
  refine (gd_pos (fun h => by simp at h) _).trans ?_
  refine (gd_pos (fun h => by simp at h) _).trans ?_
  rw [trimR, ← hm]
  rfl
 | succ n =>
  have hb : bAt (s.extract 0 (n + 1)) (((n + 1 : Nat) : Int) - 1) = bAt s n := by
   rw [bAt_extract s 0 (n + 1) _ (by omega) (by omega)]
   congr 1
   omega
  rw [hb]
  have e0 : decide ((0 : Int) < ((n + 1 : Nat) : Int)) = true := by simp only [decide_eq_true_eq]; omega
  rw [e0]
  by_cases hq : bAt s n = b
  ·left
   refine ⟨s.extract 0 n, ?_, ⟨n, rfl, by omega, by rw [← hm]; show _ = backB s b (n + 1); rw [backB, if_pos hq]⟩, by rw [ByteArray.size_extract]; omega, trivial⟩
   refine (gd_pos (fun _ => by unfold InI64; omega) _).trans ?_
   refine (gd_pos (fun _ => by omega) _).trans ?_
   have : (true && decide (bAt s n = b)) = true := by simp [hq]
   rw [this, cond_true]
   refine (gd_pos (by unfold InI64; omega) _).trans ?_
   refine (gd_pos (by omega) _).trans ?_
   rw [show Int.toNat (((n + 1 : Nat) : Int) - 1) = n by omega, ByteArray.extract_extract]
   congr 3
   omega
  ·right
   refine (gd_pos (fun _ => by unfold InI64; omega) _).trans ?_
   refine (gd_pos (fun _ => by omega) _).trans ?_
   have : (true && decide (bAt s n = b)) = false := by simp [hq]
   rw [this, cond_false, trimR, ← hm, backB, if_neg hq]

theorem p_trimL (s : ByteArray) : zbs_s s (⟨#[48]⟩ : ByteArray) = some (trimL s 48) := by
 unfold zbs_s
 have h1 : decide ((⟨#[48]⟩ : ByteArray) = (⟨#[]⟩ : ByteArray)) = false := by decide
 rw [h1, Bool.or_false]
 by_cases he : s = ⟨#[]⟩
 ·rw [decide_eq_true he, cond_true]
  congr 1
  have := eq_none.1 he
  unfold trimL
  rw [he]
  refine (eq_none.2 ?_).symm
  rw [ByteArray.size_extract]
  have : (⟨#[]⟩ : ByteArray).size = 0 := rfl
  omega
 ·rw [decide_eq_false he, cond_false]
  refine (gd_pos (fun _ => by decide) _).trans ?_
  have h2 : (decide (((⟨#[48]⟩ : ByteArray).size : Int) = 1) && decide (bAt (⟨#[48]⟩ : ByteArray) 0 < 128)) = true := by decide
  rw [h2, cond_true]
  refine (gd_pos (by decide) _).trans ?_
  rw [show bAt (⟨#[48]⟩ : ByteArray) 0 = 48 by decide, p_trimL1]
  rfl
theorem p_trimR (s : ByteArray) (h : s.size < 9223372036854775807) : zbt_s s (⟨#[48]⟩ : ByteArray) = some (trimR s 48) := by
 unfold zbt_s
 have h1 : decide ((⟨#[48]⟩ : ByteArray) = (⟨#[]⟩ : ByteArray)) = false := by decide
 rw [h1, Bool.or_false]
 by_cases he : s = ⟨#[]⟩
 ·rw [decide_eq_true he, cond_true]
  congr 1
  have := eq_none.1 he
  unfold trimR
  rw [he]
  refine (eq_none.2 ?_).symm
  rw [ByteArray.size_extract]
  have : (⟨#[]⟩ : ByteArray).size = 0 := rfl
  omega
 ·rw [decide_eq_false he, cond_false]
  refine (gd_pos (fun _ => by decide) _).trans ?_
  have h2 : (decide (((⟨#[48]⟩ : ByteArray).size : Int) = 1) && decide (bAt (⟨#[48]⟩ : ByteArray) 0 < 128)) = true := by decide
  rw [h2, cond_true]
  refine (gd_pos (by decide) _).trans ?_
  rw [show bAt (⟨#[48]⟩ : ByteArray) 0 = 48 by decide, p_trimR1 s 48 h]
  rfl

theorem p_cut (s p : ByteArray) : zbq_s s p = some (cutPre s p, hasPre s p) := by
 unfold zbq_s zaf_s zag_s
 rw [gd_pos (fun h => by have := of_decide_eq_true h; omega)]
 have e : (decide ((p.size : Int) ≤ (s.size : Int)) && decide (s.extract 0 (Int.toNat (p.size : Int)) = p)) = hasPre s p := by
  simp only [hasPre, Int.ofNat_le, Int.toNat_natCast]
 rw [e]
 simp only [obS]
 unfold cutPre
 cases h : hasPre s p with
 | true =>
  have := hasPre_le h
  simp only [Bool.not_true, cond_false, if_true]
  rw [gd_pos (by omega)]
  simp only [obS, Int.toNat_natCast]
 | false => simp

/-- What the program's read is to answer of a text's part. -/
def num (n : PNum) : decimal_number := ⟨n.minus, n.int, n.digits, n.off, n.plain, n.down, n.exp⟩
theorem hasPre_45 (s : ByteArray) : hasPre s (⟨#[45]⟩ : ByteArray) = decide (bAt s 0 = 45) := hasPre_one rfl
theorem hasPre_46 (s : ByteArray) : hasPre s (⟨#[46]⟩ : ByteArray) = decide (bAt s 0 = 46) := hasPre_one rfl
theorem cut_45 (s : ByteArray) : cutPre s (⟨#[45]⟩ : ByteArray) = s.extract (atA s) s.size := by
 unfold cutPre atA
 rw [hasPre_45]
 by_cases h : bAt s 0 = 45
 ·simp only [h, decide_true, if_true]; rfl
 ·simp only [h, decide_false, if_false, Bool.false_eq_true, all_of]

theorem or32 {b : Int} (h0 : 0 ≤ b) (h1 : b ≤ 255) : decide (bitOr .u8 b 32 = 101) = (decide (b = 101) || decide (b = 69)) := by
 have key : ∀ n : Fin 256, decide (bitOr .u8 (n.val : Int) 32 = 101) = (decide ((n.val : Int) = 101) || decide ((n.val : Int) = 69)) := by decide +kernel
 have := key ⟨b.toNat, by omega⟩
 simpa [Int.toNat_of_nonneg h0] using this

section
variable (s : ByteArray) (hsz : s.size < 4000000000000000000)
include hsz
theorem p_read0 : zac_p0 (s.extract (atA s) s.size) = some (if badA s = true then .inl false else .inr (s.extract (atB s) s.size, s.extract (atA s) (atB s))) := by
 have hA := atA_le s
 have hAB := atA_le_atB s
 have hB := atB_le s
 have hr : runS (s.extract (atA s) s.size) = atB s - atA s := runS_tail s (atA s)
 have hz := tail_size s (atA s)
 have hb0 := bAt_tail s (atA s) 0 (by omega)
 simp only [Int.add_zero] at hb0
 unfold zac_p0
 rw [p_run _ (by omega), obS]
 refine (gd_pos (fun h _ => by have := of_decide_eq_true h; omega) _).trans ?_
 have hbad : badA s = (decide ((runS (s.extract (atA s) s.size) : Int) = 0) || decide (1 < (runS (s.extract (atA s) s.size) : Int)) && decide (bAt (s.extract (atA s) s.size) 0 = 48)) := by
  rw [hr, hb0]
  unfold badA
  rw [Bool.and_comm]
  congr 1
  ·rw [decide_eq_decide]; omega
  ·congr 1
   rw [decide_eq_decide]; omega
 rw [← hbad]
 cases hbd : badA s with
 | true => rfl
 | false =>
  simp only [cond_false]
  refine (gd_pos (by omega) _).trans ?_
  refine (gd_pos (by omega) _).trans ?_
  rw [hr, Int.toNat_natCast, head_tail, tail_tail, show atA s + (atB s - atA s) = atB s by omega, show min (atB s) s.size = atB s by omega]
  rfl
theorem p_read1 : zac_p1 (s.extract (atB s) s.size) (⟨#[]⟩ : ByteArray) true = some (if (dotS s && decide (atK s = atB s + 1)) = true then .inl false else .inr (s.extract (atC s) s.size, fracS s, !dotS s)) := by
 have hb0 := bAt_tail s (atB s) 0 (by omega)
 simp only [Int.add_zero] at hb0
 have hdot : decide (bAt (s.extract (atB s) s.size) 0 = 46) = dotS s := by rw [hb0]; rfl
 have hz := tail_size s (atB s)
 unfold zac_p1
 rw [p_cut, obS]
 simp only [hasPre_46, hdot]
 cases hd : dotS s with
 | false => simp [fracS, atC, hd]
 | true =>
  have hBl := atB_lt hd
  have hKl := atK_le hd
  have hKg := atK_ge s
  have hcp : cutPre (s.extract (atB s) s.size) ⟨#[46]⟩ = s.extract (atB s + 1) s.size := by
   unfold cutPre
   rw [hasPre_46, hdot, hd]
   exact tail_tail s (atB s) 1
  have hr : runS (s.extract (atB s + 1) s.size) = atK s - (atB s + 1) := runS_tail s (atB s + 1)
  have hz1 := tail_size s (atB s + 1)
  simp only [hcp, cond_true]
  rw [p_run _ (by omega), obS]
  have hq : decide ((runS (s.extract (atB s + 1) s.size) : Int) = 0) = decide (atK s = atB s + 1) := by rw [hr, decide_eq_decide]; omega
  rw [hq]
  cases hk : decide (atK s = atB s + 1) with
  | true => rfl
  | false =>
   simp only [cond_false]
   refine (gd_pos (by omega) _).trans ?_
   refine (gd_pos (by omega) _).trans ?_
   rw [hr, Int.toNat_natCast, head_tail, tail_tail, show atB s + 1 + (atK s - (atB s + 1)) = atK s by omega, show min (atK s) s.size = atK s by omega]
   simp [fracS, atC, hd]
theorem p_read3 (he : expS s = true) : zac_p3 (s.extract (atE s) s.size) = some (if badE s = true then .inl false else .inr ((⟨#[]⟩ : ByteArray), false, (progS s).exp)) := by
 have hEl := atE_le he
 have hFl := atF_le he
 have hFg := atF_ge s
 have hr : runS (s.extract (atE s) s.size) = atF s - atE s := runS_tail s (atE s)
 have hz2 := tail_size s (atE s)
 have hne2 := tail_none s (atE s)
 unfold zac_p3
 by_cases hn : s.extract (atE s) s.size = ⟨#[]⟩
 ·have : badE s = true := by simp [badE, he, hne2.1 hn]
  rw [decide_eq_true hn, this]
  rfl
 ·rw [decide_eq_false hn, cond_false, p_run _ (by omega), obS, hr, hz2]
  have hle : ¬ s.size ≤ atE s := fun h => hn (hne2.2 h)
  have hbe : (!decide (((atF s - atE s : Nat) : Int) = ((s.size - atE s : Nat) : Int))) = badE s := by
   unfold badE
   rw [he, Bool.true_and, decide_eq_false hle, Bool.false_or, ← decide_not, decide_eq_decide]
   omega
  rw [hbe]
  cases hb : badE s with
  | true => rfl
  | false =>
   simp only [cond_false]
   rw [p_trimL, obS]
   simp [progS, he, expT]
theorem p_read2 (pl : Bool) : zac_p2 (s.extract (atC s) s.size) pl false (⟨#[]⟩ : ByteArray) = some (if badE s = true then .inl (false, expS s && decide (bAt s (atC s + 1) = 45)) else .inr (if expS s = true then ⟨#[]⟩ else s.extract (atC s) s.size, pl && !expS s, expS s && decide (bAt s (atC s + 1) = 45), (progS s).exp)) := by
 have hC := atC_le s
 have hb0 := bAt_tail s (atC s) 0 (by omega)
 simp only [Int.add_zero] at hb0
 have hz := tail_size s (atC s)
 have hrg := bAt_range s (atC s)
 have hne := tail_none s (atC s)
 have hexp : (!decide (s.extract (atC s) s.size = ⟨#[]⟩) && decide (bitOr .u8 (bAt (s.extract (atC s) s.size) 0) 32 = 101)) = expS s := by
  unfold expS
  rw [hb0]
  by_cases he : s.size ≤ atC s
  ·have : bAt s (atC s) = -1 := bAt_out (by omega)
   simp [hne.2 he, this]
  ·have hn : ¬ s.extract (atC s) s.size = ⟨#[]⟩ := fun e => he (hne.1 e)
   have h0 : 0 ≤ bAt s (atC s) := bAt_nn (by omega) (by omega)
   rw [or32 h0 hrg.2]
   simp [hn]
 unfold zac_p2
 refine (gd_pos (fun h => by
  have : ¬ s.size ≤ atC s := fun h' => by simp [hne.2 h'] at h
  omega) _).trans ?_
 rw [hexp]
 cases he : expS s with
 | false => simp [progS, he, badE]
 | true =>
  have hCl := atC_lt he
  have hEl := atE_le he
  have hb1 := bAt_tail s (atC s + 1) 0 (by omega)
  simp only [Int.add_zero] at hb1
  have hz1 := tail_size s (atC s + 1)
  have hne1 := tail_none s (atC s + 1)
  have htt : (s.extract (atC s) s.size).extract 1 (s.extract (atC s) s.size).size = s.extract (atC s + 1) s.size := tail_tail s (atC s) 1
  simp only [cond_true]
  refine (gd_pos (by omega) _).trans ?_
  simp only [htt]
  refine (gd_pos (fun h => by
   have : ¬ s.size ≤ atC s + 1 := fun h' => by simp [hne1.2 h'] at h
   omega) _).trans ?_
  refine (gd_pos (fun _ h => by
   have : ¬ s.size ≤ atC s + 1 := fun h' => by simp [hne1.2 h'] at h
   omega) _).trans ?_
  have hsg : (!decide (s.extract (atC s + 1) s.size = ⟨#[]⟩) && (decide (bAt (s.extract (atC s + 1) s.size) 0 = 43) || decide (bAt (s.extract (atC s + 1) s.size) 0 = 45))) = sgnS s := by
   unfold sgnS
   rw [hb1]
   by_cases h : s.size ≤ atC s + 1
   ·have : bAt s ((atC s + 1 : Nat) : Int) = -1 := bAt_out (by omega)
    have h2 : bAt s ((atC s : Int) + 1) = -1 := by rw [← this]; rfl
    simp [hne1.2 h, h2]
   ·have hn : ¬ s.extract (atC s + 1) s.size = ⟨#[]⟩ := fun e => h (hne1.1 e)
    simp [hn]
  rw [hsg]
  cases hs : sgnS s with
  | false =>
   have hnd : ¬ bAt s ((atC s : Int) + 1) = 45 := fun e => by simp [sgnS, e] at hs
   have hE : s.extract (atC s + 1) s.size = s.extract (atE s) s.size := by simp [atE, hs]
   simp only [cond_false]
   rw [hE, p_read3 s hsz he, obS]
   cases badE s <;> simp [hnd]
  | true =>
   have hsl := sgn_lt hs
   have hE : (s.extract (atC s + 1) s.size).extract 1 (s.extract (atC s + 1) s.size).size = s.extract (atE s) s.size := by rw [tail_tail]; simp [atE, hs]
   have hb1' : bAt (s.extract (atC s + 1) s.size) 0 = bAt s ((atC s : Int) + 1) := hb1
   simp only [cond_true]
   refine (gd_pos (by omega) _).trans ?_
   refine (gd_pos (by omega) _).trans ?_
   rw [hE, p_read3 s hsz he, obS, hb1']
   cases badE s <;> simp
theorem p_read4 : zac_p4 (if expS s = true then ⟨#[]⟩ else s.extract (atC s) s.size) (fracS s) (s.extract (atA s) (atB s)) (expS s && decide (bAt s (atC s + 1) = 45)) (progS s).exp = some (expS s || decide (s.size ≤ atC s), (progS s).digits, (progS s).off, (progS s).down) := by
 have hne := tail_none s (atC s)
 have hi : (s.extract (atA s) (atB s)).size ≤ s.size := by rw [ByteArray.size_extract]; omega
 have hfr : (fracS s).size ≤ s.size := by
  unfold fracS
  split
  ·rw [ByteArray.size_extract]; omega
  ·exact Nat.zero_le _
 have hap : (s.extract (atA s) (atB s) ++ fracS s).size = (s.extract (atA s) (atB s)).size + (fracS s).size := ByteArray.size_append
 have htl : (trimL (s.extract (atA s) (atB s) ++ fracS s) 48).size ≤ (s.extract (atA s) (atB s) ++ fracS s).size := by rw [trimL, ByteArray.size_extract]; omega
 have hrest : decide ((if expS s = true then ⟨#[]⟩ else s.extract (atC s) s.size) = (⟨#[]⟩ : ByteArray)) = (expS s || decide (s.size ≤ atC s)) := by
  cases he : expS s
  ·simp [hne]
  ·simp
 have hdn : (progS s).down = (expS s && decide (bAt s (atC s + 1) = 45) && !decide ((progS s).exp = ⟨#[]⟩)) := by
  cases he : expS s
  ·simp [progS, he]
  ·simp [progS, he]
 unfold zac_p4
 refine (gd_pos (by omega) _).trans ?_
 rw [p_trimL, obS]
 refine (gd_pos (by unfold InI64; omega) _).trans ?_
 refine (gd_pos (by unfold InI64; omega) _).trans ?_
 rw [p_trimR _ (by omega), obS, hrest, hdn]
 cases decide ((progS s).exp = ⟨#[]⟩) <;> simp [progS]
theorem p_readA (m : Bool) (hm : m = decide (bAt s 0 = 45)) : ((zac_p0 (s.extract (atA s) s.size)).bind fun o3 => (Sum.elim (fun (o3_0 : Bool) =>
   some ((⟨m, (⟨#[]⟩ : ByteArray), (⟨#[]⟩ : ByteArray), (0 : Int), true, false, (⟨#[]⟩ : ByteArray)⟩ : decimal_number), o3_0)) (fun (o3_1 : ByteArray × ByteArray) =>
   (zac_p1 o3_1.1 (⟨#[]⟩ : ByteArray) true).bind fun o6 => (Sum.elim (fun (o6_0 : Bool) =>
    some ((⟨m, o3_1.2, (⟨#[]⟩ : ByteArray), (0 : Int), true, false, (⟨#[]⟩ : ByteArray)⟩ : decimal_number), o6_0)) (fun (o6_1 : ByteArray × ByteArray × Bool) =>
    (zac_p2 o6_1.1 o6_1.2.2 false (⟨#[]⟩ : ByteArray)).bind fun o11 => (Sum.elim (fun (o11_0 : Bool × Bool) =>
     some ((⟨m, o3_1.2, (⟨#[]⟩ : ByteArray), (0 : Int), o6_1.2.2, o11_0.2, (⟨#[]⟩ : ByteArray)⟩ : decimal_number), o11_0.1)) (fun (o11_1 : ByteArray × Bool × Bool × ByteArray) =>
     (zac_p4 o11_1.1 o6_1.2.1 o3_1.2 o11_1.2.2.1 o11_1.2.2.2).bind fun o14 =>
     some ((⟨m, o3_1.2, o14.2.1, o14.2.2.1, o11_1.2.1, o14.2.2.2, o11_1.2.2.2⟩ : decimal_number), o14.1))) o11)) o6)) o3) = some (num (progAll s), readOk s) := by
 subst hm
 rw [p_read0 s hsz, obS]
 cases hbd : badA s with
 | true =>
  have hro : readOk s = false := by simp [readOk, hbd]
  rw [progAll_1 hbd, hro]
  rfl
 | false =>
  simp only [Bool.false_eq_true, if_false, Sum.elim_inr]
  rw [p_read1 s hsz, obS]
  cases hdk : (dotS s && decide (atK s = atB s + 1)) with
  | true =>
   have hro : readOk s = false := by simp only [readOk, hbd, hdk, Bool.not_true, Bool.not_false, Bool.and_false, Bool.false_and]
   rw [progAll_2 hbd hdk, hro]
   rfl
  | false =>
   simp only [Bool.false_eq_true, if_false, Sum.elim_inr]
   rw [p_read2 s hsz, obS]
   cases hbe : badE s with
   | true =>
    have hro : readOk s = false := by
     rw [← progOk_eq]
     simp [progOk, hbe]
    rw [progAll_3 hbd hdk hbe, hro]
    rfl
   | false =>
    have hro : readOk s = (expS s || decide (s.size ≤ atC s)) := by
     rw [← progOk_eq]
     simp only [progOk, hbd, hdk, hbe, Bool.not_false, Bool.true_and]
    simp only [Bool.false_eq_true, if_false, Sum.elim_inr]
    rw [p_read4 s hsz, obS, progAll_4 hbd hdk hbe, hro]
    rfl
/-- The whole text. -/
theorem p_read : zac_s s 0 = some (num (progAll s), readOk s) := by
 unfold zac_s
 rw [decide_eq_true rfl, cond_true, p_cut, obS, hasPre_45, cut_45]
 exact p_readA s hsz _ rfl
/-- A text without a minus, from its whole part on. -/
theorem p_readW (h : bAt s 0 ≠ 45) : zac_s s 1 = some (num (progAll s), readOk s) := by
 have hA : s.extract (atA s) s.size = s := by simp [atA, h]
 have := p_readA s hsz false (by simp [h])
 rw [hA] at this
 unfold zac_s
 rw [decide_eq_false (by decide), cond_false, decide_eq_true rfl, cond_true]
 exact this
end
end Go.Proofs.YtekkjbomadoplaaDoor
