/-
  The document's digits of f times 2 to the power of x, digit by digit. No program.
-/
import Derived.Test.YtdibapfehdhfjaaDoorDecSay
namespace Go.Proofs.YtdibapfehdhfjaaDoor
open Go.Eng
set_option linter.unusedVariables false
set_option linter.unusedSimpArgs false

theorem p_tw0 : ∀ (f : Nat) (acc : List Int), f < 9223372036854775808 → acc.length + (dg f).length < 1000000 → signetref2_Twice_p0 f acc = some (acc ++ dg f) := by
  intro f
  induction f using Nat.strongRecOn with
  | ind f ih =>
    intro acc hf ha
    unfold signetref2_Twice_p0
    by_cases h : f = 0
    · subst h
      refine whileO_inr ?_
      unfold signetref2_Twice_p0_step
      rw [decide_eq_false (by simp), cond_false, dg_zero, List.append_nil]
    · have e1 : (((f : Nat) : Int) % 10) = ((f % 10 : Nat) : Int) := by omega
      have e2 : ((f : Nat) : Int) / 10 = ((f / 10 : Nat) : Int) := by omega
      rw [dg_pos h, List.length_cons] at ha
      have := ih (f / 10) (by omega) (acc ++ [((f % 10 : Nat) : Int)]) (by omega) (by simp; omega)
      unfold signetref2_Twice_p0 at this
      rw [whileO_inl (y := (((f / 10 : Nat) : Int), acc ++ [((f % 10 : Nat) : Int)])) ?_, this]
      · rw [dg_pos h]; simp
      · unfold signetref2_Twice_p0_step
        simp only [e1, e2]
        rw [decide_eq_true (by omega), cond_true]
        refine (gd_pos (by omega) _).trans ?_
        refine (gd_pos (by simp; omega) _).trans ?_
        refine (gd_pos (by omega) _).trans ?_
        rfl
theorem p_tw3 {by_ : Int} (hb : 1 ≤ by_ ∧ by_ ≤ 5) (n : Nat) (hn : n < 1000000) : ∀ (rest pre : List Int) (c : Int), Dig rest → 0 ≤ c ∧ c ≤ 4 → pre.length + rest.length = n →
    signetref2_Twice_p3 by_ c (pre.length : Int) (pre ++ rest) = some ((mulP by_ c rest).1, pre ++ (mulP by_ c rest).2)
  | [], pre, c, _, _, hl => by
    unfold signetref2_Twice_p3
    refine whileO_inr ?_
    unfold signetref2_Twice_p3_step
    simp only [List.append_nil]
    rw [decide_eq_false (by omega), cond_false]
    simp [mulP]
  | d :: rest, pre, c, hd, hc, hl => by
    have h0 := hd d List.mem_cons_self
    obtain ⟨b1, b2, b3, b4⟩ := carry_lt hb hc h0
    simp only [List.length_cons] at hl
    have hlen : (pre ++ d :: rest).length = n := by simp; omega
    have hm : c + d * by_ = d * by_ + c := by omega
    have ih := p_tw3 hb n hn rest (pre ++ [(d * by_ + c) % 10]) ((d * by_ + c) / 10) hd.tail ⟨b3, b4⟩ (by simp; omega)
    unfold signetref2_Twice_p3 at ih ⊢
    rw [whileO_inl (y := ((d * by_ + c) / 10, (((pre ++ [(d * by_ + c) % 10]).length : Nat) : Int), (pre ++ [(d * by_ + c) % 10]) ++ rest)) ?_, ih]
    · simp [mulP]
    · unfold signetref2_Twice_p3_step
      have hg : (pre ++ d :: rest).getD (pre.length) (ET.dft .i64) = d := getD_mid pre d rest _
      have h1 : 0 ≤ d * by_ := Int.mul_nonneg h0.1 (by omega)
      have h2 : d * by_ ≤ 9 * 5 := Int.mul_le_mul h0.2 hb.2 (by omega) (by omega)
      simp only [Int.toNat_natCast, hg, hm, hlen, set_mid]
      generalize d * by_ = q at *
      rw [decide_eq_true (by omega), cond_true]
      refine (gd_pos (by omega) _).trans ?_
      refine (gd_pos (by omega) _).trans ?_
      refine (gd_pos (by unfold InI64; omega) _).trans ?_
      refine (gd_pos (by unfold InI64; omega) _).trans ?_
      refine (gd_pos (by omega) _).trans ?_
      refine (gd_pos (by omega) _).trans ?_
      refine (gd_pos (by omega) _).trans ?_
      refine (gd_pos (by omega) _).trans ?_
      refine (gd_pos (by unfold InI64; omega) _).trans ?_
      simp
theorem p_tw2 {by_ : Nat} (hb : 1 ≤ by_ ∧ by_ ≤ 5) (n : Nat) (hn : n < 1000) : ∀ (k i m : Nat), i + k = n → (dg m).length + k < 10000 → signetref2_Twice_p2 by_ n i (dg m) = some (dg (by_ ^ k * m))
  | 0, i, m, hi, hl => by
    unfold signetref2_Twice_p2
    refine whileO_inr ?_
    unfold signetref2_Twice_p2_step
    rw [decide_eq_false (by simp only; omega), cond_false]
    simp
  | k + 1, i, m, hi, hl => by
    have hlen := dg_len_mul (m := by_) (n := m) (by omega) (by omega)
    have ih := p_tw2 hb n hn k (i + 1) (by_ * m) (by omega) (by omega)
    have h3 := p_tw3 (by_ := by_) (by omega) (dg m).length (by omega) (dg m) [] 0 (dg_dig m) (by omega) (by simp)
    simp only [List.nil_append, List.length_nil] at h3
    rw [show ((0 : Nat) : Int) = 0 from rfl] at h3
    have hD := mulD_dg by_ m 0 hb.1 (by omega) (by omega)
    rw [Nat.add_zero] at hD
    have hP := mulP_D by_ (dg m) 0
    have hl2 := mulP_len by_ (dg m) 0
    rw [show ((0 : Nat) : Int) = 0 from rfl] at hD
    rw [hD] at hP
    unfold signetref2_Twice_p2 at ih ⊢
    rw [whileO_inl (y := (((i + 1 : Nat) : Int), dg (by_ * m))) ?_, ih]
    · rw [Nat.pow_succ, Nat.mul_assoc]
    · unfold signetref2_Twice_p2_step
      simp only
      rw [decide_eq_true (by omega), cond_true, h3, Option.bind_some]
      simp only
      rw [← hP]
      unfold snocP
      by_cases hc : 0 < (mulP by_ 0 (dg m)).1
      · rw [decide_eq_true hc, cond_true, if_pos hc]
        refine (gd_pos (by simp [hl2]; omega) _).trans ?_
        refine (gd_pos (by unfold InI64; omega) _).trans rfl
      · rw [decide_eq_false hc, cond_false, if_neg hc]
        refine (gd_pos (by unfold InI64; omega) _).trans rfl
theorem p_tw5 (l : List Int) (hl : l.length < 100000) : ∀ (k : Nat) (acc : List Int), k ≤ l.length → acc.length + k < 1000000 → signetref2_Twice_p5 ((k : Int) - 1) l acc = some (acc ++ (l.take k).reverse)
  | 0, acc, _, _ => by
    unfold signetref2_Twice_p5
    refine whileO_inr ?_
    unfold signetref2_Twice_p5_step
    rw [decide_eq_false (by simp only; omega), cond_false]
    simp
  | k + 1, acc, hk, ha => by
    have ih := p_tw5 l hl k (acc ++ [l.getD k 0]) (by omega) (by simp; omega)
    unfold signetref2_Twice_p5 at ih ⊢
    have e : (((k + 1 : Nat) : Int) - 1) = (k : Int) := by omega
    have hd : l.getD (Int.toNat (k : Int)) (ET.dft .i64) = l.getD k 0 := by rw [Int.toNat_natCast]; rfl
    rw [e, whileO_inl (y := ((k : Int) - 1, acc ++ [l.getD k 0])) ?_, ih]
    · rw [take_snoc (by omega), List.reverse_append]
      simp
    · unfold signetref2_Twice_p5_step
      simp only [hd]
      rw [decide_eq_true (by omega), cond_true]
      refine (gd_pos (by omega) _).trans ?_
      refine (gd_pos (by omega) _).trans ?_
      refine (gd_pos (by simp; omega) _).trans ?_
      refine (gd_pos (by unfold InI64; omega) _).trans rfl
theorem p_tw6 (l0 : List Int) (hl : l0.length < 4000000000) : signetref2_Twice_p6 l0 = some (trail l0) := by
  unfold signetref2_Twice_p6
  rw [whileO_rule (fun l : List Int => l.length ≤ l0.length ∧ trail l = trail l0) (fun l => l.length) (fun _ => trail l0) ?_ (x := l0) ⟨by omega, rfl⟩]
  rintro l ⟨hle, ht⟩
  unfold signetref2_Twice_p6_step
  rcases List.eq_nil_or_concat l with rfl | ⟨m, d, rfl⟩
  · right
    refine (gd_pos (fun h => by simp at h) _).trans ?_
    refine (gd_pos (fun h => by simp at h) _).trans ?_
    refine (gd_pos (fun h => by simp at h) _).trans ?_
    rw [← ht]
    rfl
  · rw [List.concat_eq_append] at hle ht ⊢
    have hz : (m ++ [d]).length = m.length + 1 := by simp
    rw [hz] at hle
    have hN : Int.toNat (((m ++ [d]).length : Int) - 1) = m.length := by rw [hz]; omega
    have hg : (m ++ [d]).getD m.length (ET.dft .i64) = d := by simp
    rw [hN, hg, hz]
    rw [decide_eq_true (show (0 : Int) < ((m.length + 1 : Nat) : Int) by omega)]
    by_cases hd : d = 0
    · left
      subst hd
      refine ⟨m, ?_, ⟨by omega, by rw [← ht, trail_snoc_zero]⟩, by omega, rfl⟩
      refine (gd_pos (fun _ => by unfold InI64; omega) _).trans ?_
      refine (gd_pos (fun _ => by omega) _).trans ?_
      refine (gd_pos (fun _ => by omega) _).trans ?_
      simp only [decide_true, Bool.and_true, cond_true]
      refine (gd_pos (by unfold InI64; omega) _).trans ?_
      refine (gd_pos (by omega) _).trans ?_
      simp
    · right
      refine (gd_pos (fun _ => by unfold InI64; omega) _).trans ?_
      refine (gd_pos (fun _ => by omega) _).trans ?_
      refine (gd_pos (fun _ => by omega) _).trans ?_
      rw [decide_eq_false hd]
      simp only [Bool.and_false, cond_false]
      rw [← ht, trail_snoc m d hd]
theorem p_tw4 (l : List Int) (hl : l.length < 100000) : signetref2_Twice_p4 l = some (trail l.reverse, []) := by
  unfold signetref2_Twice_p4
  refine (gd_pos (by unfold InI64; omega) _).trans ?_
  rw [p_tw5 l hl l.length [] (Nat.le_refl _) (by simp; omega), Option.bind_some, List.nil_append, List.take_length, p_tw6 _ (by rw [List.length_reverse]; omega), Option.bind_some]
/-- The document's number f times 2 to the power of x. -/
def twiceN (f : Nat) (x : Int) : signetref2_Num := ⟨false, dsM f x, offM f x, false, [], false, ⟨#[]⟩⟩
theorem p_Twice (f : Nat) (x : Int) (hf : f < 9223372036854775808) (hx : -300 ≤ x ∧ x ≤ 300) : signetref2_Twice_s f x = some (twiceN f x) := by
  have hten : (10 : Nat) ^ 20 = 100000000000000000000 := by decide
  have hlf : (dg f).length ≤ 20 := dg_len_lt 20 f (by omega)
  have hM := M2_len f x (by omega) hx
  have h0 := p_tw0 f [] hf (by simp; omega)
  rw [List.nil_append] at h0
  unfold signetref2_Twice_s
  rw [h0, Option.bind_some]
  unfold M2 at hM
  by_cases hx0 : 0 ≤ x
  · rw [decide_eq_false (by omega), cond_false]
    rw [if_pos hx0] at hM
    have h2 := p_tw2 (by_ := 2) (by omega) x.toNat (by omega) x.toNat 0 f (by omega) (by omega)
    rw [show ((x.toNat : Nat) : Int) = x by omega, show ((2 : Nat) : Int) = 2 from rfl, show ((0 : Nat) : Int) = 0 from rfl] at h2
    unfold signetref2_Twice_p1
    rw [h2, Option.bind_some, decide_eq_false (by omega), cond_false, p_tw4 _ (by omega), Option.bind_some, Option.bind_some]
    unfold twiceN dsM offM behindN M2
    rw [if_pos hx0, show (-x).toNat = 0 by omega]
    simp
  · rw [decide_eq_true (by omega), cond_true]
    rw [if_neg hx0] at hM
    have h2 := p_tw2 (by_ := 5) (by omega) (-x).toNat (by omega) (-x).toNat 0 f (by omega) (by omega)
    rw [show (((-x).toNat : Nat) : Int) = 0 - x by omega, show ((5 : Nat) : Int) = 5 from rfl, show ((0 : Nat) : Int) = 0 from rfl] at h2
    refine (gd_pos (by unfold InI64; omega) _).trans ?_
    unfold signetref2_Twice_p1
    rw [h2, Option.bind_some, decide_eq_true (by omega), cond_true]
    rw [gd_pos (by unfold InI64; omega), p_tw4 _ (by omega), Option.bind_some, Option.bind_some]
    unfold twiceN dsM offM behindN M2
    rw [if_neg hx0]
    congr 2
    dsimp only
    omega
end Go.Proofs.YtdibapfehdhfjaaDoor
