/-
  The exact text of a float32 has it as the nearest, and no digit too many. No program.
-/
import Derived.Test.YtdibapfehdhfjaaDoorPDecNear
import Derived.Test.YtdibapfehdhfjaaDoorGF
namespace Go.Proofs.YtdibapfehdhfjaaDoor
open Go.Eng
set_option linter.unusedVariables false
set_option linter.unusedSimpArgs false

theorem extract_mk (s : ByteArray) (a b : Nat) : s.extract a b = mkB ((s.data.toList.take b).drop a) := by
  apply ByteArray.ext
  apply Array.toList_inj.1
  rw [ByteArray.data_extract, Array.toList_extract]
  simp [mkB, List.extract, List.drop_take]
theorem list_size (s : ByteArray) : s.data.toList.length = s.size := Array.length_toList
/-- What stands ahead of the dot, and behind it. -/
theorem p_cut_dot {s : ByteArray} {pre post : List UInt8} (h : s.data.toList = pre ++ 46 :: post) (hn : ∀ x ∈ pre, x ≠ 46) (hs : s.size < 200000000000000) : signetlaw2_cut_s s = some (mkB pre, mkB post) := by
  have hl := list_size s
  rw [h] at hl
  simp only [List.length_append, List.length_cons] at hl
  have key : signetlaw2_cut_p0 s 0 = some (.inl (mkB pre, mkB post)) := by
    unfold signetlaw2_cut_p0
    refine whileO_rule (fun x : Int => ∃ i : Nat, x = i ∧ i ≤ pre.length) (fun x => (pre.length - x).toNat) (fun _ => (Sum.inl (mkB pre, mkB post) : (ByteArray × ByteArray) ⊕ Unit)) ?_ (x := (0 : Int)) ⟨0, rfl, by omega⟩
    rintro x ⟨i, rfl, hi⟩
    unfold signetlaw2_cut_p0_step
    rw [decide_eq_true (by omega), cond_true, gd_pos (by omega)]
    rcases Nat.lt_or_ge i pre.length with hlt | hge
    · left
      have hb : bAt s i ≠ 46 := by
        rw [bAt_of_list h i pre[i] (by rw [List.getElem?_append_left hlt, List.getElem?_eq_getElem hlt])]
        intro h0
        refine hn _ (List.getElem_mem hlt) ?_
        apply UInt8.toNat_inj.1
        exact Int.ofNat_inj.1 h0
      rw [decide_eq_false hb, cond_false, gd_pos (by unfold InI64; omega)]
      exact ⟨((i + 1 : Nat) : Int), rfl, ⟨i + 1, rfl, hlt⟩, by omega, rfl⟩
    · right
      have he : i = pre.length := by omega
      subst he
      have hb : bAt s (pre.length : Nat) = 46 := by
        rw [bAt_of_list h pre.length 46 (by simp)]
        rfl
      rw [decide_eq_true hb, cond_true, gd_pos (by omega), gd_pos (by unfold InI64; omega), gd_pos (by omega)]
      rw [extract_mk, extract_mk, h, ← list_size s, h]
      rw [Int.toNat_natCast, show Int.toNat ((pre.length : Int) + 1) = pre.length + 1 by omega, List.take_length]
      congr 4
      · simp
      · rw [List.drop_append, List.drop_eq_nil_of_le (by omega), show pre.length + 1 - pre.length = 1 by omega]
        rfl
  unfold signetlaw2_cut_s
  rw [key, Option.bind_some]
  rfl
theorem p_cut_none {s : ByteArray} (hn : ∀ x ∈ s.data.toList, x ≠ 46) (hs : s.size < 200000000000000) : signetlaw2_cut_s s = some (s, ⟨#[]⟩) := by
  have hl := list_size s
  have key : signetlaw2_cut_p0 s 0 = some (.inr ()) := by
    unfold signetlaw2_cut_p0
    refine whileO_rule (fun x : Int => ∃ i : Nat, x = i ∧ i ≤ s.size) (fun x => (s.size - x).toNat) (fun _ => (Sum.inr () : (ByteArray × ByteArray) ⊕ Unit)) ?_ (x := (0 : Int)) ⟨0, rfl, by omega⟩
    rintro x ⟨i, rfl, hi⟩
    unfold signetlaw2_cut_p0_step
    rcases Nat.lt_or_ge i s.size with hlt | hge
    · left
      rw [decide_eq_true (by omega), cond_true, gd_pos (by omega)]
      have hlt' : i < s.data.toList.length := by omega
      have hb : bAt s i ≠ 46 := by
        rw [bAt_of_list rfl i s.data.toList[i] (List.getElem?_eq_getElem hlt')]
        intro h0
        refine hn _ (List.getElem_mem hlt') ?_
        apply UInt8.toNat_inj.1
        exact Int.ofNat_inj.1 h0
      rw [decide_eq_false hb, cond_false, gd_pos (by unfold InI64; omega)]
      exact ⟨((i + 1 : Nat) : Int), rfl, ⟨i + 1, rfl, hlt⟩, by omega, rfl⟩
    · right
      rw [decide_eq_false (by omega), cond_false]
  unfold signetlaw2_cut_s
  rw [key, Option.bind_some]
  rfl
/-- A text with or without a minus. -/
def sT (m : Bool) (t : ByteArray) : ByteArray := if m = true then negT t else t
section
variable {t : ByteArray} {W F : List Int} (h : NumTxt t W F)
include h
end
/-- One digit less is another value. -/
theorem less_digit {t t' : ByteArray} {W F : List Int} {d : Int} (h : NumTxt t W (F ++ [d])) (h' : NumTxt t' W F) (hd : d ≠ 0) : cmpK (keyS t') (keyS t) ≠ 0 := by
  obtain ⟨v1, f1⟩ := nt_val h (K := F.length + 1) (by simp)
  obtain ⟨v2, f2⟩ := nt_val h' (K := F.length + 1) (by omega)
  rw [cmpK_val (norm_key _) (norm_key _) f2 f1, v1, v2]
  have e1 := frac_num (W ++ (F ++ [d])) 0
  have e2 := frac_num (W ++ F) 1
  rw [show (W ++ (F ++ [d])).length + 0 = W.length + (F.length + 1) by simp] at e1
  rw [show (W ++ F).length + 1 = W.length + (F.length + 1) by simp; omega] at e2
  have e3 := numL_snoc (W ++ F) d
  rw [List.append_assoc] at e3
  intro h0
  have := sgn_zero.1 h0
  rw [e1, e2, e3] at this
  omega
end Go.Proofs.YtdibapfehdhfjaaDoor
