/-
  The algorithms' names: contracts of keyset.Of, keyset.Name and of the document's Of, Name, names.
-/
import Derived.Test.YtoafhhhnomnjiaaDoorCommon
import Derived.Test.YtoafhhhnomnjiaaDoorProg
namespace Go.Proofs.YtoafhhhnomnjiaaDoor
open Go.RowKit

def namesL : List ByteArray := [bs [], bs [72, 83, 50, 53, 54], bs [72, 83, 51, 56, 52], bs [72, 83, 53, 49, 50], bs [82, 83, 50, 53, 54], bs [82, 83, 51, 56, 52], bs [82, 83, 53, 49, 50], bs [80, 83, 50, 53, 54], bs [80, 83, 51, 56, 52], bs [80, 83, 53, 49, 50], bs [69, 83, 50, 53, 54], bs [69, 83, 51, 56, 52], bs [69, 100, 68, 83, 65]]
theorem namesL_length : namesL.length = 13 := rfl
/-- The name at a place. -/
def nm (k : Nat) : ByteArray := namesL.getD k (bs [])
def namesArr : Array Value := #[.string (nm 0), .string (nm 1), .string (nm 2), .string (nm 3), .string (nm 4), .string (nm 5), .string (nm 6), .string (nm 7), .string (nm 8), .string (nm 9), .string (nm 10), .string (nm 11), .string (nm 12)]
theorem namesArr_at (k : Nat) (h : k < 13) : namesArr[k]? = some (.string (nm k)) := by
  match k, h with
  | 0, _ | 1, _ | 2, _ | 3, _ | 4, _ | 5, _ | 6, _ | 7, _ | 8, _ | 9, _ | 10, _ | 11, _ | 12, _ => rfl
/-- The first place from k on, of f places, that has the name; 0: none has. -/
def ofFrom (s : ByteArray) : Nat → Nat → Nat
  | 0, _ => 0
  | f + 1, k => if nm k = s then k else ofFrom s f (k + 1)
def ofName (s : ByteArray) : Nat := ofFrom s 12 1
def nameOf (a : Int) : ByteArray := if a < 0 ∨ 13 ≤ a then bs [] else nm a.toNat

/-- The table of names lies where the program has it. -/
def NamesTab (w : World) : Prop := ∃ t fr, w.heap[0]? = some (.cells namesArr t fr)
theorem NamesTab.below {w w' : World} (h : NamesTab w) (hb : Below w.heap.size w w') : NamesTab w' := by
  obtain ⟨t, fr, h⟩ := h
  exact ⟨t, fr, (hb.block _ (Array.getElem?_eq_some_iff.1 h).1).trans h⟩
theorem NamesTab.cell {w : World} (h : NamesTab w) (k : Nat) (hk : k < 13) : w.cell? ⟨0, k, none⟩ = some (.string (nm k)) := by
  obtain ⟨t, fr, h⟩ := h
  rw [cell_of_row w _ k _ _ _ h, namesArr_at k hk]

theorem ofName_at {s : ByteArray} {k : Nat} (h : ofName s = ofFrom s (13 - k) k) (hk : k < 13) (hs : sEq (nm k) s = true) : ofName s = k := by
  rw [h, show 13 - k = (12 - k) + 1 by omega, ofFrom, if_pos (sEq_iff.1 hs)]
theorem ofName_next {s : ByteArray} {k : Nat} (h : ofName s = ofFrom s (13 - k) k) (hk : k < 13) (hs : sEq (nm k) s = false) : ofName s = ofFrom s (13 - (k + 1)) (k + 1) := by
  rw [h, show 13 - k = (13 - (k + 1)) + 1 by omega, ofFrom, if_neg (sEq_not.1 hs)]
theorem ofName_none {s : ByteArray} {k : Nat} (h : ofName s = ofFrom s (13 - k) k) (hk : 13 ≤ k) : ofName s = 0 := by
  rw [h, show 13 - k = 0 by omega, ofFrom]

attribute [local go_sem] toList_beq
set_option maxRecDepth 100000 in
set_option maxHeartbeats 400000 in
theorem keyset_Of (s : ByteArray) (w : World) (ht : NamesTab w) :
    Calls Tryd.prog 9 #[.string s] w fun e w' => e = .returned (.int .i64 (ofName s)) ∧ w = w' := by
  have hix := fun (k : Nat) (hk : k < 13) => run_index_arr (P := Tryd.prog) (cs := namesArr) Tryd.underlying70 (by kernel_rfl) (fun w => by kernel_rfl) hk (namesArr_at k hk)
  obtain ⟨tt, fr, hg⟩ := ht
  go_enter Tryd.func9, Tryd.ntmps9
  go_wp2_with (refine wpList_load_row rfl 70 _ rfl 0 rfl tt _ fr _ hg Tryd.underlying70 rfl (by kernel_rfl) ?_)
  go_loop [3, 4, 6] (fun _ _ i => ∃ k : Nat, k ≤ 13 ∧ i = .int .i64 k ∧ Hid (0 < k → ofName s = ofFrom s (13 - k) k)) (fun _ _ i => 13 - (intOf i).toNat)
  case atStart => exact ⟨0, by omega, rfl, fun h => absurd h (by omega)⟩
  case round =>
    obtain ⟨k, hk, rfl, hh⟩ := hrel
    by_cases hk3 : k < 13
    · have hik := hix k hk3
      clear hix hg
      by_cases hk0 : 0 < k
      · cases hs : sEq (nm k) s
        · have Hn := Lib.hid (ofName_next (hh.out hk0) hk3 hs)
          go_wp2
          go_round
          case rel => exact ⟨k + 1, by omega, by go_num, fun _ => Hn.out⟩
          case measure => simp [intOf]; omega
        · have Hn := Lib.hid (ofName_at (hh.out hk0) hk3 hs)
          go_wp2
          go_ret
          exact ⟨returned_int (by rw [Hn.out]), rfl⟩
      · go_wp2
        go_round
        case rel => exact ⟨k + 1, by omega, by go_num, fun _ => by rw [show k = 0 by omega]; rfl⟩
        case measure => simp [intOf]; omega
    · have Hn := Lib.hid (ofName_none (hh.out (by omega)) (by omega))
      clear hix hg
      go_wp2
      go_ret
      exact ⟨returned_int (by rw [Hn.out]; rfl), rfl⟩

theorem keyset_Name (a : Int) (w : World) (ha : a ≤ 9223372036854775807) (ht : NamesTab w) :
    Calls Tryd.prog 11 #[.int .i64 a] w fun e w' => e = .returned (.string (nameOf a)) ∧ w = w' := by
  by_cases h0 : a < 0
  · have Hn : Hid (nameOf a = bs []) := by unfold nameOf; rw [if_pos (.inl h0)]; rfl
    clear ht
    go_enter Tryd.func11, Tryd.ntmps11
    go_wp2
    go_ret
    exact ⟨by rw [Hn.out]; rfl, rfl⟩
  · by_cases h1 : 13 ≤ a
    · have Hn : Hid (nameOf a = bs []) := by unfold nameOf; rw [if_pos (.inr h1)]; rfl
      clear ht
      go_enter Tryd.func11, Tryd.ntmps11
      go_wp2
      go_ret
      exact ⟨by rw [Hn.out]; rfl, rfl⟩
    · obtain ⟨k, rfl⟩ := Int.eq_ofNat_of_zero_le (Int.not_lt.1 h0)
      have Hn : Hid (nameOf k = nm k) := by unfold nameOf; rw [if_neg (by omega)]; rfl
      have hc := ht.cell k (by omega)
      clear ht
      go_enter Tryd.func11, Tryd.ntmps11
      go_wp2
      go_ret
      exact ⟨by rw [Hn.out]; rfl, rfl⟩

/-! The document's. -/
theorem ref_names (w : World) :
    Calls Tryd.prog 42 #[] w fun e w' => e = .returned (.slice (some ⟨w.heap.size, 0, none⟩) 13 13) ∧ w' = w.alloc (.cells namesArr 9) := by
  go_enter Tryd.func42, Tryd.ntmps42
  go_wp2
  go_ret
  exact ⟨rfl, rfl⟩

set_option maxRecDepth 100000 in
set_option maxHeartbeats 400000 in
theorem ref_Of (s : ByteArray) (w : World) :
    Calls Tryd.prog 10 #[.string s] w fun e w' => e = .returned (.int .i64 (ofName s)) ∧ Below w.heap.size w w' := by
  have hcs : ∀ k, k < 13 → (w.alloc (.cells namesArr 9)).cell? ⟨w.heap.size, k, none⟩ = some (.string (nm k)) := fun k hk => by
    rw [cell_of_row _ _ k _ _ _ (heap_alloc_new w _), namesArr_at k hk]
  go_enter Tryd.func10, Tryd.ntmps10
  go_wp2_with (go_at_call 42; refine (ref_names _).mono ?_; rintro e w' ⟨rfl, rfl⟩)
  go_loop [4] (fun i => ∃ k : Nat, 1 ≤ k ∧ k ≤ 13 ∧ i = .int .i64 k ∧ Hid (ofName s = ofFrom s (13 - k) k)) (fun i => 13 - (intOf i).toNat)
  case atStart => exact ⟨1, by omega, by omega, rfl, rfl⟩
  case round =>
    obtain ⟨k, hk0, hk, rfl, hh⟩ := hrel
    by_cases hk3 : k < 13
    · have hck := hcs k hk3
      clear hcs
      cases hs : sEq (nm k) s
      · have Hn := Lib.hid (ofName_next hh.out hk3 hs)
        go_wp2
        go_round
        case rel => exact ⟨k + 1, by omega, by omega, by go_num, Hn.out⟩
        case measure => simp [intOf]; omega
      · have Hn := Lib.hid (ofName_at hh.out hk3 hs)
        go_wp2
        go_ret
        exact ⟨returned_int (by rw [Hn.out]), (Below.refl _ _).alloc (Nat.le_refl _) _⟩
    · have Hn := Lib.hid (ofName_none hh.out (by omega))
      clear hcs
      go_wp2
      go_ret
      exact ⟨returned_int (by rw [Hn.out]; rfl), (Below.refl _ _).alloc (Nat.le_refl _) _⟩

theorem ref_Name (a : Int) (w : World) (ha : a ≤ 9223372036854775807) :
    Calls Tryd.prog 12 #[.int .i64 a] w fun e w' => e = .returned (.string (nameOf a)) ∧ Below w.heap.size w w' := by
  by_cases h0 : a < 0
  · have Hn : Hid (nameOf a = bs []) := by unfold nameOf; rw [if_pos (.inl h0)]; rfl
    go_enter Tryd.func12, Tryd.ntmps12
    go_wp2_with (go_at_call 42; refine (ref_names _).mono ?_; rintro e w' ⟨rfl, rfl⟩)
    go_ret
    exact ⟨by rw [Hn.out]; rfl, Below.refl _ _⟩
  · by_cases h1 : 13 ≤ a
    · have Hn : Hid (nameOf a = bs []) := by unfold nameOf; rw [if_pos (.inr h1)]; rfl
      go_enter Tryd.func12, Tryd.ntmps12
      go_wp2_with (go_at_call 42; refine (ref_names _).mono ?_; rintro e w' ⟨rfl, rfl⟩)
      go_ret
      exact ⟨by rw [Hn.out]; rfl, (Below.refl _ _).alloc (Nat.le_refl _) _⟩
    · obtain ⟨k, rfl⟩ := Int.eq_ofNat_of_zero_le (Int.not_lt.1 h0)
      have Hn : Hid (nameOf k = nm k) := by unfold nameOf; rw [if_neg (by omega)]; rfl
      have hcs : ∀ W : World, (W.alloc (.cells namesArr 9)).cell? ⟨W.heap.size, k, none⟩ = some (.string (nm k)) := fun W => by
        rw [cell_of_row _ _ k _ _ _ (heap_alloc_new W _), namesArr_at k (by omega)]
      have hcs' := hcs (w.alloc (.cells namesArr 9))
      simp only [World.size_alloc] at hcs'
      clear hcs
      go_enter Tryd.func12, Tryd.ntmps12
      go_wp2_with (go_at_call 42; refine (ref_names _).mono ?_; rintro e w' ⟨rfl, rfl⟩)
      go_ret
      exact ⟨by rw [Hn.out]; rfl, ((Below.refl _ _).alloc (Nat.le_refl _) _).alloc (by simp) _⟩

end Go.Proofs.YtoafhhhnomnjiaaDoor
