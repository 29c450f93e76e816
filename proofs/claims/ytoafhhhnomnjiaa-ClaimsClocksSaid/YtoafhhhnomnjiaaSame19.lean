/-
  signetlaw19.sameTexts, sameNodes of equal lists.
-/
import Derived.Test.YtoafhhhnomnjiaaCommonB
import Derived.Test.YtoafhhhnomnjiaaProg
import Derived.BigQuiet
namespace Go.Proofs.Ytoafhhhnomnjiaa
open Go.RowKit
set_option linter.unusedVariables false
attribute [local go_sem] toList_beq toList_beq_cons cons_beq_toList toList_isEmpty

theorem sEq_refl (s : ByteArray) : sEq s s = true := by unfold sEq; simp

set_option maxHeartbeats 400000 in
theorem sameTexts19 (A A' : Option Addr) (n c c' : Nat) (xs : List ByteArray) (w : World) (hr : Strs w w.heap.size A n xs) (hr' : Strs w w.heap.size A' n xs) (hn : n ≤ 9000000000000) :
    Calls Try.prog 13 #[.slice A n c, .slice A' n c'] w fun e w' => e = .returned (.bool true) ∧ Below w.heap.size w w' := by
  have hlen : xs.length = n := by simpa using hr.1
  have Hl := Lib.hid hlen
  clear hlen
  go_enter Try.func13, Try.ntmps13
  go_wp2
  go_loopw [5] (fun i wr => ∃ k : Nat, k ≤ n ∧ i = .int .i64 k ∧ Below w.heap.size w wr) (fun i _ => n - (intOf i).toNat)
  case atStart => exact ⟨0, by omega, rfl, Below.refl _ _⟩
  case round =>
    obtain ⟨k, hk, rfl, hb⟩ := hrel
    replace hr := hr.below hb
    replace hr' := hr'.below hb
    have hbs := hb.size
    by_cases hkn : k < n
    · have hkx : k < xs.length := by rw [Hl.out]; exact hkn
      obtain ⟨b, off, rfl, hb1, hc⟩ := hr.2 (by omega)
      obtain ⟨b', off', rfl, hb2, hc'⟩ := hr'.2 (by omega)
      have c1 := hc k (.string xs[k]) (by simp [hkx])
      have c2 := hc' k (.string xs[k]) (by simp [hkx])
      have hs := sEq_refl xs[k]
      clear hc hc'
      go_wp2_with fail
      go_quiet (fail)
      go_wp2
      go_roundw
      case rel => exact ⟨k + 1, by omega, by go_num, below_drewN hb _⟩
      case measure => simp [intOf]; omega
    · go_wp2
      go_ret
      exact ⟨rfl, hb⟩

set_option maxHeartbeats 400000 in
theorem sameNodes19 (A A' : Option Addr) (n c c' : Nat) (xs : List GNode) (w : World) (hr : Nodes w w.heap.size A n xs) (hr' : Nodes w w.heap.size A' n xs) (hn : n ≤ 9000000000000) :
    Calls Try.prog 26 #[.slice A n c, .slice A' n c'] w fun e w' => e = .returned (.bool true) ∧ Below w.heap.size w w' := by
  have hlen : xs.length = n := by have := hr.1; rw [flatMap_length GNode.cells_length] at this; omega
  have Hl := Lib.hid hlen
  clear hlen
  go_enter Try.func26, Try.ntmps26
  go_wp2
  go_loopw [5] (fun i wr => ∃ k : Nat, k ≤ n ∧ i = .int .i64 k ∧ Below w.heap.size w wr) (fun i _ => n - (intOf i).toNat)
  case atStart => exact ⟨0, by omega, rfl, Below.refl _ _⟩
  case round =>
    obtain ⟨k, hk, rfl, hb⟩ := hrel
    replace hr := hr.below hb
    replace hr' := hr'.below hb
    have hbs := hb.size
    by_cases hkn : k < n
    · have hkx : k < xs.length := by rw [Hl.out]; exact hkn
      obtain ⟨b, off, rfl, hb1, hc⟩ := hr.2 (by omega)
      obtain ⟨b', off', rfl, hb2, hc'⟩ := hr'.2 (by omega)
      have hx : xs[k]? = some xs[k] := List.getElem?_eq_getElem hkx
      have q := fun j v (hj : j < 6) (hv : (xs[k]).cells[j]? = some v) => hc (k * 6 + j) v (by rw [flatMap_at GNode.cells_length xs k j _ hx hj]; exact hv)
      have q' := fun j v (hj : j < 6) (hv : (xs[k]).cells[j]? = some v) => hc' (k * 6 + j) v (by rw [flatMap_at GNode.cells_length xs k j _ hx hj]; exact hv)
      have c0 := q 0 _ (by omega) rfl
      have c1 := q 1 _ (by omega) rfl
      have c2 := q 2 _ (by omega) rfl
      have c3 := q 3 _ (by omega) rfl
      have c4 := q 4 _ (by omega) rfl
      have c5 := q 5 _ (by omega) rfl
      have d0 := q' 0 _ (by omega) rfl
      have d1 := q' 1 _ (by omega) rfl
      have d2 := q' 2 _ (by omega) rfl
      have d3 := q' 3 _ (by omega) rfl
      have d4 := q' 4 _ (by omega) rfl
      have d5 := q' 5 _ (by omega) rfl
      rw [Nat.add_zero] at c0 d0
      rw [← Nat.add_assoc] at c1 c2 c3 c4 c5 d1 d2 d3 d4 d5
      have s1 := sEq_refl xs[k].key
      have s2 := sEq_refl xs[k].text
      generalize xs[k].kind = v0 at *
      generalize xs[k].key = v1 at *
      generalize xs[k].text = v2 at *
      generalize xs[k].whole = v3 at *
      generalize xs[k].int = v4 at *
      generalize xs[k].kids = v5 at *
      clear hc hc' q q' hx hr hr'
      go_wp2_with fail
      go_quiet (fail)
      go_wp2
      go_roundw
      case rel => exact ⟨k + 1, by omega, by go_num, below_drewN hb _⟩
      case measure => simp [intOf]; omega
    · go_wp2
      go_ret
      exact ⟨rfl, hb⟩

end Go.Proofs.Ytoafhhhnomnjiaa
