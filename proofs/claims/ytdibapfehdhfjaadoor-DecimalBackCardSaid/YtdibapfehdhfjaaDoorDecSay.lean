/-
  What the document writes of digits and the place of the dot is what the program writes. No program.
-/
import Derived.Test.YtdibapfehdhfjaaDoorPDecTxt
namespace Go.Proofs.YtdibapfehdhfjaaDoor
open Go.Eng
set_option linter.unusedVariables false
set_option linter.unusedSimpArgs false

theorem trail_getD : ∀ (l : List Int) (i : Nat), (trail l).getD i 0 = l.getD i 0
  | [], _ => rfl
  | x :: l, i => by
    have ih := trail_getD l
    simp only [trail]
    split
    · rename_i h
      rw [h] at ih
      split
      · rename_i h0
        cases i with
        | zero => simp [h0]
        | succ i => have := ih i; simpa using this
      · cases i with
        | zero => simp
        | succ i => have := ih i; simpa using this
    · rename_i y r h
      rw [h] at ih
      cases i with
      | zero => simp
      | succ i => have := ih i; simpa using this
theorem trail_drop : ∀ (l : List Int) (k : Nat), trail (l.drop k) = (trail l).drop k
  | [], k => by simp [trail]
  | x :: l, 0 => rfl
  | x :: l, k + 1 => by
    have ih := trail_drop l k
    rw [List.drop_succ_cons, ih]
    simp only [trail]
    split
    · rename_i h
      rw [h]
      split <;> simp
    · rename_i y r h
      rw [h]
      simp
theorem trail_zeros (n : Nat) (l : List Int) : trail (List.replicate n 0 ++ l) = if trail l = [] then [] else List.replicate n 0 ++ trail l := by
  induction n with
  | zero => by_cases h : trail l = [] <;> simp [h]
  | succ n ih =>
    rw [List.replicate_succ, List.cons_append]
    simp only [trail]
    rw [ih]
    by_cases h : trail l = []
    · rw [if_pos h, if_pos h]
      simp
    · rw [if_neg h, if_neg h]
      cases hr : List.replicate n 0 ++ trail l with
      | nil => exact absurd (List.append_eq_nil_iff.1 hr).2 h
      | cons y r => simp only [List.cons_append, hr]
/-- The first k digits, noughts behind the last. -/
def takeP (ds : List Int) (k : Nat) : List Int := (List.range k).map fun i => ds.getD i 0
theorem takeP_len (ds : List Int) (k : Nat) : (takeP ds k).length = k := by simp [takeP]
theorem takeP_succ (ds : List Int) (k : Nat) : takeP ds (k + 1) = takeP ds k ++ [ds.getD k 0] := by
  unfold takeP
  rw [List.range_succ, List.map_append, List.map_singleton]
theorem take_takeP {E : List Int} {k : Nat} (h : k ≤ E.length) : E.take k = takeP (trail E) k := by
  apply List.ext_getElem
  · rw [List.length_take, takeP_len]; omega
  · intro i h1 h2
    rw [takeP_len] at h2
    simp only [takeP, List.getElem_map, List.getElem_range, List.getElem_take]
    rw [trail_getD, List.getD_eq_getElem?_getD, List.getElem?_eq_getElem (by omega)]
    rfl
/-- The digits ahead of the dot and behind it, as the document has them. -/
def refI (ds : List Int) (off : Int) : List Int := if off ≤ 0 ∨ ds = [] then [0] else takeP ds off.toNat
def refF (ds : List Int) (off : Int) : List Int := if off < ds.length ∧ ds ≠ [] then List.replicate (-off).toNat 0 ++ ds.drop off.toNat else []
def dsM (f : Nat) (x : Int) : List Int := trail (dg (M2 f x)).reverse
def offM (f : Nat) (x : Int) : Int := (dg (M2 f x)).length - behindN x
theorem dsM_nil {f : Nat} {x : Int} : dsM f x = [] ↔ M2 f x = 0 := kN_nil (b := behindN x)
theorem dsM_dig (f : Nat) (x : Int) : Dig (dsM f x) := (dig_rev (dg_dig _)).trail
theorem int_ref (f : Nat) (x : Int) : intT f x = refI (dsM f x) (offM f x) := by
  unfold intT digT padL refI offM
  by_cases h : behindN x + 1 ≤ (dg (M2 f x)).length
  · rw [show behindN x + 1 - (dg (M2 f x)).length = 0 by omega, List.replicate_zero, List.append_nil, List.reverse_drop]
    have hne : dsM f x ≠ [] := fun hn => by
      rw [dsM_nil.1 hn, dg_zero] at h
      simp at h
    rw [if_neg (by rintro (h1 | h1); · omega
                   · exact hne h1), take_takeP (by rw [List.length_reverse]; omega)]
    unfold dsM
    congr 1
    omega
  · rw [if_pos (.inl (by omega)), List.drop_append, List.drop_eq_nil_of_le (by omega), List.nil_append, List.drop_replicate]
    rw [show behindN x + 1 - (dg (M2 f x)).length - (behindN x - (dg (M2 f x)).length) = 1 by omega]
    rfl
theorem fr_ref (f : Nat) (x : Int) : trail (frT f x) = refF (dsM f x) (offM f x) := by
  unfold frT digT padL refF offM
  by_cases h : behindN x + 1 ≤ (dg (M2 f x)).length
  · rw [show behindN x + 1 - (dg (M2 f x)).length = 0 by omega, List.replicate_zero, List.append_nil, List.reverse_take, trail_drop]
    rw [show (trail (dg (M2 f x)).reverse) = dsM f x from rfl]
    have hne : dsM f x ≠ [] := fun hn => by
      rw [dsM_nil.1 hn, dg_zero] at h
      simp at h
    by_cases h2 : ((dg (M2 f x)).length : Int) - behindN x < (dsM f x).length
    · rw [if_pos ⟨h2, hne⟩, show (-(((dg (M2 f x)).length : Int) - behindN x)).toNat = 0 by omega, List.replicate_zero, List.nil_append]
      congr 1
      omega
    · rw [if_neg (fun hh => h2 hh.1), List.drop_eq_nil_of_le (by omega)]
  · rw [List.take_append, List.take_of_length_le (by omega), List.take_replicate, List.reverse_append, List.reverse_replicate, trail_zeros]
    rw [show (trail (dg (M2 f x)).reverse) = dsM f x from rfl]
    by_cases hn : dsM f x = []
    · rw [if_pos hn, if_neg (fun hh => hh.2 hn)]
    · have hl : 0 < (dsM f x).length := List.length_pos_iff.2 hn
      rw [if_neg hn, if_pos ⟨by omega, hn⟩, show (((dg (M2 f x)).length : Int) - behindN x).toNat = 0 by omega, List.drop_zero]
      congr 2
      omega
/-- A text of bytes. -/
def mkB (l : List UInt8) : ByteArray := ⟨l.toArray⟩
theorem mkB_list (s : ByteArray) : mkB s.data.toList = s := by
  unfold mkB
  rw [Array.toArray_toList]
theorem mkB_app (l m : List UInt8) : mkB l ++ mkB m = mkB (l ++ m) := by
  apply ByteArray.ext
  rw [ByteArray.data_append]
  simp [mkB]
theorem mkB_size (l : List UInt8) : (mkB l).size = l.length := by
  show Array.size _ = _
  simp [mkB]
theorem decT_ref (f : Nat) (x : Int) : decT f x = mkB (byteD (refI (dsM f x) (offM f x)) ++ dotF (refF (dsM f x) (offM f x))) := by
  rw [← int_ref, ← fr_ref, ← (decT_nt f x).txt, mkB_list]
end Go.Proofs.YtdibapfehdhfjaaDoor
